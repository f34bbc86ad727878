/- Printed by myprint.py (wip/tools) over the kit's print: what Go's functions compute, and that they do. Lean checks it. -/
import Derived.Test.YtjgonpcajedkjaaF0
import Derived.Test.YtjgonpcajedkjaaFX00
import Derived.Test.YtjgonpcajedkjaaFX00b
namespace Go.Proofs.Ytjgonpcajedkjaa.P
open Go.RowKit Go.Proofs.YtjgonpcajedkjaaW.PrintWords Go.Proofs.YtjgonpcajedkjaaW.PrintLast Go.Proofs.YtjgonpcajedkjaaW.PrintMore Go.Proofs.Ytjgonpcajedkjaa.Sq
attribute [local go_sem] max2_int min2_int max_two min_two max_three min_three max_four min_four
set_option linter.unusedVariables false
set_option linter.unusedSimpArgs false

/-! ### spec_l6Put: function 135 -/
def spec_l6Put.l0 : Nat → List Int → Int → Int → Option (List Int)
 | 0, _, _, _ => none
 | k + 1, x0, x1, x5 => if x5 < (x0.length : Int) then (if 0 ≤ x5 then (if (rd x0 x5) < x1 then (spec_l6Put.l0 k x0 x1 (wrap64 (x5 + 1))) else (if (rd x0 x5) = x1 then ((some (([] : List Int) : List Int)).bind fun y293 => (if y293.length + x0.length < 17592186044416 then (some (y293 ++ x0)) else (none))) else ((some (([] : List Int) : List Int)).bind fun y299 => (if x5 ≤ (x0.length : Int) then (if y299.length + (x0.take (x5 : Int).toNat).length < 17592186044416 then ((some (y299 ++ (x0.take (x5 : Int).toNat) : List Int)).bind fun y303 => ((some (([x1] : List Int) : List Int)).bind fun y306 => (if y303.length + y306.length < 17592186044416 then ((some (y303 ++ y306 : List Int)).bind fun y309 => (if y309.length + (x0.drop (x5 : Int).toNat).length < 17592186044416 then (some (y309 ++ (x0.drop (x5 : Int).toNat))) else (none))) else (none)))) else (none)) else (none))))) else (none)) else ((some (([] : List Int) : List Int)).bind fun y316 => (if 0 ≤ x5 then (if x5 ≤ (x0.length : Int) then (if y316.length + (x0.take (x5 : Int).toNat).length < 17592186044416 then ((some (y316 ++ (x0.take (x5 : Int).toNat) : List Int)).bind fun y320 => ((some (([x1] : List Int) : List Int)).bind fun y323 => (if y320.length + y323.length < 17592186044416 then ((some (y320 ++ y323 : List Int)).bind fun y326 => (if y326.length + (x0.drop (x5 : Int).toNat).length < 17592186044416 then (some (y326 ++ (x0.drop (x5 : Int).toNat))) else (none))) else (none)))) else (none)) else (none)) else (none)))
def spec_l6Put.f (k : Nat) (l0 : List Int) (a1 : Int) : Option (List Int) := spec_l6Put.l0 k l0 a1 0
theorem spec_l6Put.mono_l : ∀ k, (∀ y0 y1 y2, LeO (spec_l6Put.l0 k y0 y1 y2) (spec_l6Put.l0 (k + 1) y0 y1 y2))
 | 0 => fun _ _ _ r h => by simp [spec_l6Put.l0] at h
 | k + 1 => by
  have ih0 := spec_l6Put.mono_l k
  ·
   intro y0 y1 y2
   unfold spec_l6Put.l0
   exact mz1 ih0
theorem spec_l6Put.mono : ∀ a0 a1 k, LeO (spec_l6Put.f k a0 a1) (spec_l6Put.f (k + 1) a0 a1) := by
 intro a0 a1 k
 have ih0 := spec_l6Put.mono_l k
 unfold spec_l6Put.f
 exact mz1 ih0
def spec_l6Put.T6 : Bool × List (List Nat × List Nat) := (true, [([], []), ([], []), ([], []), ([1, 2], [1, 2]), ([0, 3], [0, 3]), ([], []), ([5], [5]), ([4, 6, 4], [4, 6]), ([], []), ([], []), ([8, 9], [8, 9]), ([7, 10, 7], [7, 10]), ([11, 11, 0, 1, 2, 3, 4, 5, 6, 7, 8, 9, 10, 11], [11])])
def spec_l6Put.B6 : List Nat := [0, 0, 0, 6, 15, 0, 32, 127, 0, 0, 768, 2047, 4095]
theorem spec_l6Put.tab6 : rtab .any (opsOf Try.f135 6) = spec_l6Put.T6 := by kernel_rfl
theorem spec_l6Put.bits6 : waitsOk spec_l6Put.T6.2 spec_l6Put.B6 = true := by kernel_rfl
set_option maxHeartbeats 8000000 in
set_option maxRecDepth 100000 in
theorem spec_l6Put.calls (k : Nat) (A0 : Option Addr) (c0 : Nat) (l0 : List Int) (a1 : Int) (r : List Int) (w : World) (hr0 : Kd.C (Kd.int .i64) w A0 l0.length l0) (hc0 : l0.length ≤ c0) (h : spec_l6Put.f k l0 a1 = some r) :
  Calls Try.prog 135 #[.slice A0 l0.length c0, .int .i64 a1] w fun e w' => ∃ v0_ : Value, e = .returned (v0_) ∧ Kd.R (Kd.int .i64) 3 w' w.heap.size (fun _ => True) v0_ r ∧ Below w.heap.size w w' := by
 have HR0 := Aside0.mk hr0
 have HC0 := Aside0.mk hc0
 clear hr0 hc0
 have HB := Aside0.mk (Below.refl w.heap.size w)
 have H : (spec_l6Put.l0 k l0 a1 0) = some r := h
 clear h
 have H' := Aside0.mk H
 clear H
 go_enter Try.func135, Try.ntmps135
 go_wp2
 go_loopg [5] k (fun kq v5 w' => ∃ (x5_1 : Int), v5 = .int .i64 x5_1 ∧ Aside0 (spec_l6Put.l0 kq l0 a1 x5_1 = some r) ∧ Aside0 (kq ≤ k) ∧ Aside0 (Below w.heap.size w w'))
 case atStart => exact ⟨(0), rS, H', ⟨Nat.le_refl _⟩, ⟨bA⟩⟩
 case round =>
  clear H'
  obtain ⟨x5_1, rfl, HA, HK1, HB⟩ := hrel
  cases gk with
  | zero => exact absurd HA.out (by simp [spec_l6Put.l0])
  | succ k1 =>
   have H := HA.out
   clear HA
   simp only [spec_l6Put.l0] at H
   by_cases c3 : x5_1 < (l0.length : Int)
   ·
    rw [if_pos c3] at H
    have c3b0 := decide_eq_true c3
    clear c3
    have c4 : 0 ≤ x5_1 := ifN H
    replace H := ifT H
    have c4b0 := decide_eq_true c4
    clear c4
    by_cases c5 : (rd l0 x5_1) < a1
    ·
     rw [if_pos c5] at H
     have c5b0 := decide_eq_true c5
     clear c5
     have H' := Aside0.mk H
     clear H
     obtain ⟨p291, q291⟩ : 0 ≤ (x5_1 : Int) ∧ x5_1 < (l0.length : Int) := ⟨dA, dA⟩
     obtain ⟨ad291, e291, hx291_0⟩ := Kd.at_int (Kd.C_below HR0.out HB.out) x5_1 p291 q291
     cases e291
     obtain ⟨p291, q291⟩ := eT p291 q291
     go_wp2
     go_roundg k1
     case measure => have := HK1.out; omega
     case rel => exact ⟨(wrap64 (x5_1 + 1)), rS, H', ⟨by have := HK1.out; omega⟩, ⟨bA⟩⟩
    rw [if_neg c5] at H
    have c5b0 := decide_eq_false c5
    clear c5
    by_cases c6 : (rd l0 x5_1) = a1
    ·
     rw [if_pos c6] at H
     have c6b0 : ((rd l0 x5_1) == a1) = true := beq_iff_eq.mpr c6
     have c6b1 : ((rd l0 x5_1) != a1) = false := bne_eq_false_iff_eq.mpr c6
     clear c6
     obtain ⟨y293, hy293⟩ : ∃ y_ : List Int, y_ = (([] : List Int)) := ⟨_, rfl⟩
     replace H : (if y293.length + l0.length < 17592186044416 then (some (y293 ++ l0)) else (none)) = some r := rH H hy293
     have Ny293 := Aside0.mk hy293
     clear hy293
     have c7 : y293.length + l0.length < 17592186044416 := ifN H
     replace H := ifT H
     have LMc7 := Aside0.mk c7
     clear c7
     obtain ⟨y296, hy296⟩ : ∃ y_ : List Int, y_ = (y293 ++ l0) := ⟨_, rfl⟩
     replace H : (some y296) = some r := rH H hy296
     have Ny296 := Aside0.mk hy296
     clear hy296
     obtain rfl := Option.some.inj H
     obtain ⟨p291, q291⟩ : 0 ≤ (x5_1 : Int) ∧ x5_1 < (l0.length : Int) := ⟨dA, dA⟩
     obtain ⟨ad291, e291, hx291_0⟩ := Kd.at_int (Kd.C_below HR0.out HB.out) x5_1 p291 q291
     cases e291
     obtain ⟨p291, q291⟩ := eT p291 q291
     obtain ⟨p292, q292⟩ : 0 ≤ (x5_1 : Int) ∧ x5_1 < (l0.length : Int) := ⟨dA, dA⟩
     obtain ⟨ad292, e292, hx292_0⟩ := Kd.at_int (Kd.C_below HR0.out HB.out) x5_1 p292 q292
     obtain rfl : ad291 = ad292 := (by injection e292)
     obtain ⟨p292, q292⟩ := eT p292 q292
     go_wp2_with (first | ((with_reducible refine gate_dst (N := 32) rfl ?_); refine Kd.R_lit (Kd.int .i64) _ 3 ?hg (N := 32) ?hd (xs := ([] : List Int)) (inner := []) (ok := fun _ => True) (okp := fun _ => True) ?hr ?hp (fun _ hk => hk) trivial (Below.refl _ _) (Nat.le_refl _) (by simp) ?_; (case hd => rfl); (case hg => rfl); (case hr => first | (go_simp; done) | (go_simp; rfl)); (case hp => exact (Reps.none _ _)); intro v294 w8 ho9 hb hg_ hnew_; clear hg_ hnew_; (first | rw [← Ny293.out] at ho9 | (simp only [Int.reduceToNat] at ho9; rw [← Ny293.out] at ho9)); have HO295 := rl w ho9; replace HB := bs HB hb; clear hb ho9) | ((with_reducible refine gate_builtin (b := .append) (xs := #[.tmp 32, .tmp 33]) rfl ?_); at_builtin; refine Kd.R_append_rows (Kd.int .i64) (w0 := w) w.heap.size rfl (.tmp 32) (.tmp 33) 35 3 (.int .i64 0) 8 rfl Try.underlying35 info3 rfl (by decide) (by omega) v294 y293 l0 _ _ _ (fun _ => True) (fun _ => False) rfl rfl ?aO ?aR (fun _ _ h => h) (fun _ h => h.elim) ?aF ?aB ?aS ?aL ?_; (case aR => repeat (first | exact (Kd.C_below HR0.out HB.out) | (with_reducible refine Kd.C_alloc ?_ _) | (with_reducible refine Kd.C_drewN ?_ _) | (with_reducible refine Kd.C_drew ?_))); (case aB => exact bA); (case aF => exact (fun _ _ => trivial)); (case aO => exact (rK HO295)); (case aS => exact (below_size bA)); (case aL => have := LMc7.out; omega); intro v297 w10 ho hb hg hat; rw [← Ny296.out] at ho; have n0_ := Aside0.mk (hb); have n1_ := Aside0.mk (ho); clear HB; clear HO295; have HB := n0_; have HO298 := n1_; clear n0_ n1_; clear ho hb hg hat))
     go_ret
     exact ⟨_, rA, rK HO298, bA⟩
    rw [if_neg c6] at H
    have c6b0 : ((rd l0 x5_1) == a1) = false := beq_eq_false_iff_ne.mpr c6
    have c6b1 : ((rd l0 x5_1) != a1) = true := bne_iff_ne.mpr c6
    obtain ⟨y299, hy299⟩ : ∃ y_ : List Int, y_ = (([] : List Int)) := ⟨_, rfl⟩
    replace H : (if x5_1 ≤ (l0.length : Int) then (if y299.length + (l0.take (x5_1 : Int).toNat).length < 17592186044416 then ((some (y299 ++ (l0.take (x5_1 : Int).toNat) : List Int)).bind fun y303 => ((some (([a1] : List Int) : List Int)).bind fun y306 => (if y303.length + y306.length < 17592186044416 then ((some (y303 ++ y306 : List Int)).bind fun y309 => (if y309.length + (l0.drop (x5_1 : Int).toNat).length < 17592186044416 then (some (y309 ++ (l0.drop (x5_1 : Int).toNat))) else (none))) else (none)))) else (none)) else (none)) = some r := rH H hy299
    have Ny299 := Aside0.mk hy299
    clear hy299
    have c11b0 := eq_true (dA : 0 ≤ x5_1)
    have c12 : x5_1 ≤ (l0.length : Int) := ifN H
    replace H := ifT H
    have c12b0 := eq_true c12
    have c12b1 := decide_eq_true c12
    clear c12
    have c13 : y299.length + (l0.take (x5_1 : Int).toNat).length < 17592186044416 := ifN H
    replace H := ifT H
    have LMc13 := Aside0.mk c13
    clear c13
    obtain ⟨y303, hy303⟩ : ∃ y_ : List Int, y_ = (y299 ++ (l0.take (x5_1 : Int).toNat)) := ⟨_, rfl⟩
    replace H : ((some (([a1] : List Int) : List Int)).bind fun y306 => (if y303.length + y306.length < 17592186044416 then ((some (y303 ++ y306 : List Int)).bind fun y309 => (if y309.length + (l0.drop (x5_1 : Int).toNat).length < 17592186044416 then (some (y309 ++ (l0.drop (x5_1 : Int).toNat))) else (none))) else (none))) = some r := rH H hy303
    have Ny303 := Aside0.mk hy303
    clear hy303
    obtain ⟨y306, hy306⟩ : ∃ y_ : List Int, y_ = (([a1] : List Int)) := ⟨_, rfl⟩
    replace H : (if y303.length + y306.length < 17592186044416 then ((some (y303 ++ y306 : List Int)).bind fun y309 => (if y309.length + (l0.drop (x5_1 : Int).toNat).length < 17592186044416 then (some (y309 ++ (l0.drop (x5_1 : Int).toNat))) else (none))) else (none)) = some r := rH H hy306
    have Ny306 := Aside0.mk hy306
    clear hy306
    have c14 : y303.length + y306.length < 17592186044416 := ifN H
    replace H := ifT H
    have LMc14 := Aside0.mk c14
    clear c14
    obtain ⟨y309, hy309⟩ : ∃ y_ : List Int, y_ = (y303 ++ y306) := ⟨_, rfl⟩
    replace H : (if y309.length + (l0.drop (x5_1 : Int).toNat).length < 17592186044416 then (some (y309 ++ (l0.drop (x5_1 : Int).toNat))) else (none)) = some r := rH H hy309
    have Ny309 := Aside0.mk hy309
    clear hy309
    have c15b0 := eq_true (dA : 0 ≤ x5_1)
    have c16b0 := eq_true (dA : x5_1 ≤ (l0.length : Int))
    have c17 : y309.length + (l0.drop (x5_1 : Int).toNat).length < 17592186044416 := ifN H
    replace H := ifT H
    have LMc17 := Aside0.mk c17
    clear c17
    obtain ⟨y313, hy313⟩ : ∃ y_ : List Int, y_ = (y309 ++ (l0.drop (x5_1 : Int).toNat)) := ⟨_, rfl⟩
    replace H : (some y313) = some r := rH H hy313
    have Ny313 := Aside0.mk hy313
    clear hy313
    obtain rfl := Option.some.inj H
    obtain ⟨p291, q291⟩ : 0 ≤ (x5_1 : Int) ∧ x5_1 < (l0.length : Int) := ⟨dA, dA⟩
    obtain ⟨ad291, e291, hx291_0⟩ := Kd.at_int (Kd.C_below HR0.out HB.out) x5_1 p291 q291
    cases e291
    obtain ⟨p291, q291⟩ := eT p291 q291
    obtain ⟨p292, q292⟩ : 0 ≤ (x5_1 : Int) ∧ x5_1 < (l0.length : Int) := ⟨dA, dA⟩
    obtain ⟨ad292, e292, hx292_0⟩ := Kd.at_int (Kd.C_below HR0.out HB.out) x5_1 p292 q292
    obtain rfl : ad291 = ad292 := (by injection e292)
    obtain ⟨p292, q292⟩ := eT p292 q292
    try go_wp2
    have HBo := HB
    replace HB := db HB
    obtain ⟨i019, hi019, _, hsz19, _⟩ := info_parts info3
    obtain ⟨hcut19, hA19, hC19⟩ := print_take_of (P := Try.prog) (Value.int .i64) 0 35 3 .i64 Try.underlying35 hi019 hsz19 (some ad291) c0 l0 x5_1 (dA) (dA) HC0.out
    have HR302 := Aside0.mk (Kd.C_of_reads (h1 := fun _ => rfl) (hA19 _ (Kd.reads_of_C HR0.out)))
    have HC302 := Aside0.mk hC19
    clear hA19 hC19 hi019 hsz19
    have HL302 := Aside0.mk (show (x5_1 : Int) ≤ (l0.length : Int) from (dA))
    obtain ⟨i020, hi020, _, hsz20, _⟩ := info_parts info3
    obtain ⟨A20, hcut20, hA20, hC20⟩ := print_drop_of (P := Try.prog) (Value.int .i64) 0 35 3 .i64 Try.underlying35 hi020 hsz20 (some ad291) c0 l0 x5_1 (dA) (dA) HC0.out
    have HR312 := Aside0.mk (Kd.C_of_reads (h1 := fun _ => rfl) (hA20 _ (Kd.reads_of_C HR0.out)))
    have HC312 := Aside0.mk hC20
    clear hA20 hC20 hi020 hsz20
    refine start_ (n := 13) (S := fun w' => True) (ds := []) (mb 13 0) (by kernel_rfl) rfl rfl trivial (fun hHeld => ?_); refine with_tabW spec_l6Put.tab6 spec_l6Put.bits6 (fun HT_ HW_ => ?_)
    generalize wr.drew = w18 at HB HR302 HR312 hHeld ⊢
    refine pa 1 36 (mb 13 2) HT_ ?_
    refine pa 2 37 (mb 13 6) HT_ ?_
    refine pa 3 38 (mb 13 14) HT_ ?_
    refine pa 5 40 (mb 13 46) HT_ ?_
    refine pa 8 43 (mb 13 302) HT_ ?_
    refine pa 9 44 (mb 13 814) HT_ ?_
    refine pa 10 45 (mb 13 1838) HT_ ?_
    refine join_ (σ := Value × Value × Value) 3 (mb 13 1919) (fun s_ => [(35, s_.1), (39, s_.2.1), (41, s_.2.2)]) (fun s_ w' => (Kd.R (Kd.int .i64) 3 w' w.heap.size (n1 s_.2.2) s_.2.1 y303) ∧ (Kd.R (Kd.int .i64) 3 w' w.heap.size (n1 s_.2.1) s_.2.2 y306) ∧ (Below w.heap.size w w')) ?_ ?_
    rotate_left
    ·
     intro hCont
     refine two_ (i := 0) (j := 6) (Ni := some 35) (Nj := some 41) (mb 13 1839) (mb 13 1902) rfl rfl rfl rfl (two_of HT_.out (by kernel_rfl)) (by decide) (by decide) (fun K hK => ?_) (fun K hK => ?_)
     ·
      skip
      refine Kd.R_lit_step (Kd.int .i64) _ 3 ?hg (N := 35) ?hd (xs := ([] : List Int)) (inner := []) (ok := fun _ => True) (okp := fun _ => True) ?hr ?hp (fun _ hk => hk) trivial (Below.refl _ _) (Nat.le_refl _) (by simp) ?_; (case hd => rfl); (case hg => rfl); (case hr => first | (go_simp; done) | (go_simp; rfl)); (case hp => exact (Reps.none _ _))
      intro v300 w21 ho22 hb hg_ hnew_
      clear hg_ hnew_
      (first | rw [← Ny299.out] at ho22 | (simp only [Int.reduceToNat] at ho22; rw [← Ny299.out] at ho22))
      have HO301 := rl w ho22
      replace HB := bs HB hb
      clear hb ho22
      refine hK.out _ _ trivial (fun hHeld => ?_)
      clear hK K
      refine nB ?_
      refine two_ (i := 4) (j := 6) (Ni := some 39) (Nj := some 41) (mb 13 1855) (mb 13 1903) rfl rfl rfl rfl (two_of HT_.out (by kernel_rfl)) (by decide) (by decide) (fun K hK => ?_) (fun K hK => ?_)
      ·
       skip
       refine Kd.R_append_rows_step (Kd.int .i64) (w0 := w) w.heap.size (by rfl) (.tmp 35) (.tmp 38) 35 3 (.int .i64 0) 8 rfl Try.underlying35 info3 rfl (by decide) (by omega) v300 y299 (l0.take (x5_1 : Int).toNat) _ _ _ (fun _ => True) (fun _ => False) rfl rfl ?aO ?aR (fun _ _ h => h) (fun _ h => h.elim) ?aF ?aB ?aS ?aL ?_
       (case aR => (have hr_ := HR302.out; rw [show (l0.take (x5_1 : Int).toNat).length = x5_1.toNat from (by rw [List.length_take]; have h_ : (x5_1 : Int) ≤ (l0.length : Int) := dA; omega)] at hr_; (repeat (first | exact (Kd.C_below hr_ HB.out) | (with_reducible refine Kd.C_alloc ?_ _) | (with_reducible refine Kd.C_drewN ?_ _) | (with_reducible refine Kd.C_drew ?_))); done))
       (case aB => exact bA)
       (case aF => exact (fun _ _ => trivial))
       (case aO => exact (rK HO301))
       (case aS => exact (below_size bA))
       (case aL => have := LMc13.out; have hlx_ := (show (l0.take (x5_1 : Int).toNat).length = x5_1.toNat from (by rw [List.length_take]; have h_ : (x5_1 : Int) ≤ (l0.length : Int) := dA; omega)); omega)
       intro v304 w23 ho hb hg hat
       rw [← Ny303.out] at ho
       have n0_ := Aside0.mk (hb)
       have n1_ := Aside0.mk (ho)
       clear HB
       clear HO301
       have HB := n0_
       have HO305 := n1_
       clear n0_ n1_
       clear ho hb hg hat
       refine hK.out _ _ trivial (fun hHeld => ?_)
       clear hK K
       refine nB ?_
       refine oa 6 41 (mb 13 1919) HT_ (fun K hK => ?_)
       refine Kd.R_lit_step (Kd.int .i64) _ 3 ?hg (N := 41) ?hd (xs := ([a1] : List Int)) (inner := [.int .i64 a1]) (ok := fun _ => True) (okp := fun _ => True) ?hr ?hp (fun _ hk => hk) trivial (Below.refl _ _) (Nat.le_refl _) (by simp) ?_; (case hd => rfl); (case hg => rfl); (case hr => first | (go_simp; done) | (go_simp; rfl)); (case hp => exact (Reps.one (show Kd.M (Kd.int .i64) _ _ _ a1 [.int .i64 a1] from rfl) (Reps.none _ _)))
       intro v307 w24 ho25 hb hg_ hnew_
       clear hg_ hnew_
       (first | rw [← Ny306.out] at ho25 | (simp only [Int.reduceToNat] at ho25; rw [← Ny306.out] at ho25))
       have HO308 := rl w (rn ho25 HO305)
       replace HO305 := re HO305 ho25 hb
       replace HB := bs HB hb
       clear hb ho25
       refine hK.out _ _ trivial (fun hHeld => ?_)
       clear hK K
       refine nB ?_
       exact mB (hCont (v300, v304, v307) _ ⟨(rm HO305 (fun _ hk => hk.2)), (rm HO308 (fun _ hk => hk.2)), bA⟩)
      ·
       skip
       refine Kd.R_lit_step (Kd.int .i64) _ 3 ?hg (N := 41) ?hd (xs := ([a1] : List Int)) (inner := [.int .i64 a1]) (ok := fun _ => True) (okp := fun _ => True) ?hr ?hp (fun _ hk => hk) trivial (Below.refl _ _) (Nat.le_refl _) (by simp) ?_; (case hd => rfl); (case hg => rfl); (case hr => first | (go_simp; done) | (go_simp; rfl)); (case hp => exact (Reps.one (show Kd.M (Kd.int .i64) _ _ _ a1 [.int .i64 a1] from rfl) (Reps.none _ _)))
       intro v307 w23 ho24 hb hg_ hnew_
       clear hg_ hnew_
       (first | rw [← Ny306.out] at ho24 | (simp only [Int.reduceToNat] at ho24; rw [← Ny306.out] at ho24))
       have HO308 := rl w (rn ho24 HO301)
       replace HO301 := re HO301 ho24 hb
       replace HB := bs HB hb
       clear hb ho24
       refine hK.out _ _ trivial (fun hHeld => ?_)
       clear hK K
       refine nB ?_
       refine oa 4 39 (mb 13 1919) HT_ (fun K hK => ?_)
       refine Kd.R_append_rows_step (Kd.int .i64) (w0 := w) w.heap.size (by rfl) (.tmp 35) (.tmp 38) 35 3 (.int .i64 0) 8 rfl Try.underlying35 info3 rfl (by decide) (by omega) v300 y299 (l0.take (x5_1 : Int).toNat) _ _ _ (n1 v307) (fun _ => False) rfl rfl ?aO ?aR (fun _ _ h => h) (fun _ h => h.elim) ?aF ?aB ?aS ?aL ?_
       (case aR => (have hr_ := HR302.out; rw [show (l0.take (x5_1 : Int).toNat).length = x5_1.toNat from (by rw [List.length_take]; have h_ : (x5_1 : Int) ≤ (l0.length : Int) := dA; omega)] at hr_; (repeat (first | exact (Kd.C_below hr_ HB.out) | (with_reducible refine Kd.C_alloc ?_ _) | (with_reducible refine Kd.C_drewN ?_ _) | (with_reducible refine Kd.C_drew ?_))); done))
       (case aB => exact bA)
       (case aF => exact (fun k_ hk => Kd.fresh' (Kd.R_lt (rK HO308)) k_ hk))
       (case aO => exact (rm HO301 (fun _ hk => hk.2)))
       (case aS => exact (below_size bA))
       (case aL => have := LMc13.out; have hlx_ := (show (l0.take (x5_1 : Int).toNat).length = x5_1.toNat from (by rw [List.length_take]; have h_ : (x5_1 : Int) ≤ (l0.length : Int) := dA; omega)); omega)
       intro v304 w25 ho hb hg hat
       rw [← Ny303.out] at ho
       have n0_ := Aside0.mk (Kd.R_after (ok := (fun _ => True)) (rK HO308) hg hat)
       have n1_ := Aside0.mk (hb)
       have n2_ := Aside0.mk (ho)
       clear HO308
       clear HB
       clear HO301
       have HO308 := n0_
       have HB := n1_
       have HO305 := n2_
       clear n0_ n1_ n2_
       clear ho hb hg hat
       refine hK.out _ _ trivial (fun hHeld => ?_)
       clear hK K
       refine nB ?_
       exact mB (hCont (v300, v304, v307) _ ⟨(rK HO305), (rm HO308 (fun _ hk => hk.2)), bA⟩)
     ·
      skip
      refine Kd.R_lit_step (Kd.int .i64) _ 3 ?hg (N := 41) ?hd (xs := ([a1] : List Int)) (inner := [.int .i64 a1]) (ok := fun _ => True) (okp := fun _ => True) ?hr ?hp (fun _ hk => hk) trivial (Below.refl _ _) (Nat.le_refl _) (by simp) ?_; (case hd => rfl); (case hg => rfl); (case hr => first | (go_simp; done) | (go_simp; rfl)); (case hp => exact (Reps.one (show Kd.M (Kd.int .i64) _ _ _ a1 [.int .i64 a1] from rfl) (Reps.none _ _)))
      intro v307 w21 ho22 hb hg_ hnew_
      clear hg_ hnew_
      (first | rw [← Ny306.out] at ho22 | (simp only [Int.reduceToNat] at ho22; rw [← Ny306.out] at ho22))
      have HO308 := rl w ho22
      replace HB := bs HB hb
      clear hb ho22
      refine hK.out _ _ trivial (fun hHeld => ?_)
      clear hK K
      refine nB ?_
      refine oa 0 35 (mb 13 1903) HT_ (fun K hK => ?_)
      refine Kd.R_lit_step (Kd.int .i64) _ 3 ?hg (N := 35) ?hd (xs := ([] : List Int)) (inner := []) (ok := fun _ => True) (okp := fun _ => True) ?hr ?hp (fun _ hk => hk) trivial (Below.refl _ _) (Nat.le_refl _) (by simp) ?_; (case hd => rfl); (case hg => rfl); (case hr => first | (go_simp; done) | (go_simp; rfl)); (case hp => exact (Reps.none _ _))
      intro v300 w23 ho24 hb hg_ hnew_
      clear hg_ hnew_
      (first | rw [← Ny299.out] at ho24 | (simp only [Int.reduceToNat] at ho24; rw [← Ny299.out] at ho24))
      have HO301 := rl w (rn ho24 HO308)
      replace HO308 := re HO308 ho24 hb
      replace HB := bs HB hb
      clear hb ho24
      refine hK.out _ _ trivial (fun hHeld => ?_)
      clear hK K
      refine nB ?_
      refine oa 4 39 (mb 13 1919) HT_ (fun K hK => ?_)
      refine Kd.R_append_rows_step (Kd.int .i64) (w0 := w) w.heap.size (by rfl) (.tmp 35) (.tmp 38) 35 3 (.int .i64 0) 8 rfl Try.underlying35 info3 rfl (by decide) (by omega) v300 y299 (l0.take (x5_1 : Int).toNat) _ _ _ (n1 v307) (fun _ => False) rfl rfl ?aO ?aR (fun _ _ h => h) (fun _ h => h.elim) ?aF ?aB ?aS ?aL ?_
      (case aR => (have hr_ := HR302.out; rw [show (l0.take (x5_1 : Int).toNat).length = x5_1.toNat from (by rw [List.length_take]; have h_ : (x5_1 : Int) ≤ (l0.length : Int) := dA; omega)] at hr_; (repeat (first | exact (Kd.C_below hr_ HB.out) | (with_reducible refine Kd.C_alloc ?_ _) | (with_reducible refine Kd.C_drewN ?_ _) | (with_reducible refine Kd.C_drew ?_))); done))
      (case aB => exact bA)
      (case aF => exact (fun k_ hk => Kd.fresh' (Kd.R_lt (rK HO308)) k_ hk))
      (case aO => exact (rm HO301 (fun _ hk => hk.2)))
      (case aS => exact (below_size bA))
      (case aL => have := LMc13.out; have hlx_ := (show (l0.take (x5_1 : Int).toNat).length = x5_1.toNat from (by rw [List.length_take]; have h_ : (x5_1 : Int) ≤ (l0.length : Int) := dA; omega)); omega)
      intro v304 w25 ho hb hg hat
      rw [← Ny303.out] at ho
      have n0_ := Aside0.mk (Kd.R_after (ok := (fun _ => True)) (rK HO308) hg hat)
      have n1_ := Aside0.mk (hb)
      have n2_ := Aside0.mk (ho)
      clear HO308
      clear HB
      clear HO301
      have HO308 := n0_
      have HB := n1_
      have HO305 := n2_
      clear n0_ n1_ n2_
      clear ho hb hg hat
      refine hK.out _ _ trivial (fun hHeld => ?_)
      clear hK K
      refine nB ?_
      exact mB (hCont (v300, v304, v307) _ ⟨(rK HO305), (rm HO308 (fun _ hk => hk.2)), bA⟩)
    rintro ⟨v300, v304, v307⟩ w26 ⟨h0_, h1_, h2_⟩
    have n0_ : Aside0 (Kd.R (Kd.int .i64) 3 w26 w.heap.size (n1 v307) v304 y303) := ⟨h0_⟩
    have n1_ : Aside0 (Kd.R (Kd.int .i64) 3 w26 w.heap.size (n1 v304) v307 y306) := ⟨h1_⟩
    have n2_ : Aside0 (Below w.heap.size w w26) := ⟨h2_⟩
    clear HB
    clear h0_ h1_ h2_
    have HO305 := n0_
    have HO308 := n1_
    have HB := n2_
    clear n0_ n1_ n2_
    have hHeld := trivial
    obtain ⟨Ao28, co28, eo28⟩ := Kd.R_slice HO308.out
    (first | subst eo28 | (injection eo28 with f1_ f2_ f3_; have f4_ := f1_.symm; have f5_ := f3_.symm; clear f1_ f2_ f3_; subst f4_; subst f5_))
    refine norm_ (a' := ?_) ?_ ?_
    rotate_left
    ·
     simp only [putAll, Act.put, List.setIfInBounds_toArray, List.set_cons_zero, List.set_cons_succ]
     rfl
    refine oa 7 42 (mb 13 2047) HT_ (fun K hK => ?_)
    refine Kd.R_append_rows_step (Kd.int .i64) (w0 := w) w.heap.size (by rfl) (.tmp 39) (.tmp 41) 35 3 (.int .i64 0) 8 rfl Try.underlying35 info3 rfl (by decide) (by omega) v304 y303 y306 _ _ _ (n1 (.slice Ao28 y306.length co28)) (fun _ => False) rfl rfl ?aO ?aR (fun _ _ h => h) (fun _ h => h.elim) ?aF ?aB ?aS ?aL ?_
    (case aR => repeat (first | exact (Kd.R_reads' HO308.out).2.2 | (with_reducible refine Kd.C_alloc ?_ _) | (with_reducible refine Kd.C_drewN ?_ _) | (with_reducible refine Kd.C_drew ?_)))
    (case aB => exact bA)
    (case aF => exact (fun k_ hk => Kd.fresh' (Kd.R_lt (rK HO308)) k_ hk))
    (case aO => exact (rK HO305))
    (case aS => exact (below_size bA))
    (case aL => have := LMc14.out; omega)
    intro v310 w27 ho hb hg hat
    rw [← Ny309.out] at ho
    have n0_ := Aside0.mk (Kd.R_after (ok := (fun _ => True)) (rm HO308 (fun _ hk => ⟨trivial, hk⟩)) hg hat)
    have n1_ := Aside0.mk (hb)
    have n2_ := Aside0.mk (ho)
    clear HO308
    clear HB
    clear HO305
    have HO308 := n0_
    have HB := n1_
    have HO311 := n2_
    clear n0_ n1_ n2_
    clear ho hb hg hat
    refine hK.out _ _ trivial (fun hHeld => ?_)
    clear hK K
    refine nB ?_
    refine oa 11 46 (mb 13 4095) HT_ (fun K hK => ?_)
    refine Kd.R_append_rows_step (Kd.int .i64) (w0 := w) w.heap.size (by rfl) (.tmp 42) (.tmp 45) 35 3 (.int .i64 0) 8 rfl Try.underlying35 info3 rfl (by decide) (by omega) v310 y309 (l0.drop (x5_1 : Int).toNat) _ _ _ (n1 (.slice Ao28 y306.length co28)) (fun _ => False) rfl rfl ?aO ?aR (fun _ _ h => h) (fun _ h => h.elim) ?aF ?aB ?aS ?aL ?_
    (case aR => (have hr_ := HR312.out; rw [show (l0.drop (x5_1 : Int).toNat).length = (l0.length - x5_1.toNat) from List.length_drop] at hr_; (repeat (first | exact (Kd.C_below hr_ HB.out) | (with_reducible refine Kd.C_alloc ?_ _) | (with_reducible refine Kd.C_drewN ?_ _) | (with_reducible refine Kd.C_drew ?_))); done))
    (case aB => exact bA)
    (case aF => exact (fun k_ hk => Kd.fresh' (Kd.R_lt (rK HO308)) k_ hk))
    (case aO => exact (rK HO311))
    (case aS => exact (below_size bA))
    (case aL => have := LMc17.out; have hlx_ := (show (l0.drop (x5_1 : Int).toNat).length = (l0.length - x5_1.toNat) from List.length_drop); omega)
    intro v314 w29 ho hb hg hat
    rw [← Ny313.out] at ho
    have n0_ := Aside0.mk (Kd.R_after (ok := (fun _ => True)) (rK HO308) hg hat)
    have n1_ := Aside0.mk (hb)
    have n2_ := Aside0.mk (ho)
    clear HO308
    clear HB
    clear HO311
    have HO308 := n0_
    have HB := n1_
    have HO315 := n2_
    clear n0_ n1_ n2_
    clear ho hb hg hat
    refine hK.out _ _ trivial (fun hHeld => ?_)
    clear hK K
    refine nB ?_
    refine pa 12 4 (mb 13 8191) HT_ ?_
    refine eA HT_ ?_
    try go_wp2
    go_ret
    exact ⟨_, rA, rm HO315 (fun _ hk => trivial), bA⟩
   rw [if_neg c3] at H
   have c3b0 := decide_eq_false c3
   clear c3
   obtain ⟨y316, hy316⟩ : ∃ y_ : List Int, y_ = (([] : List Int)) := ⟨_, rfl⟩
   replace H : (if 0 ≤ x5_1 then (if x5_1 ≤ (l0.length : Int) then (if y316.length + (l0.take (x5_1 : Int).toNat).length < 17592186044416 then ((some (y316 ++ (l0.take (x5_1 : Int).toNat) : List Int)).bind fun y320 => ((some (([a1] : List Int) : List Int)).bind fun y323 => (if y320.length + y323.length < 17592186044416 then ((some (y320 ++ y323 : List Int)).bind fun y326 => (if y326.length + (l0.drop (x5_1 : Int).toNat).length < 17592186044416 then (some (y326 ++ (l0.drop (x5_1 : Int).toNat))) else (none))) else (none)))) else (none)) else (none)) else (none)) = some r := rH H hy316
   have Ny316 := Aside0.mk hy316
   clear hy316
   have c30 : 0 ≤ x5_1 := ifN H
   replace H := ifT H
   have c30b0 := eq_true c30
   have c30b1 := decide_eq_true c30
   clear c30
   have c31 : x5_1 ≤ (l0.length : Int) := ifN H
   replace H := ifT H
   have c31b0 := eq_true c31
   have c31b1 := decide_eq_true c31
   clear c31
   have c32 : y316.length + (l0.take (x5_1 : Int).toNat).length < 17592186044416 := ifN H
   replace H := ifT H
   have LMc32 := Aside0.mk c32
   clear c32
   obtain ⟨y320, hy320⟩ : ∃ y_ : List Int, y_ = (y316 ++ (l0.take (x5_1 : Int).toNat)) := ⟨_, rfl⟩
   replace H : ((some (([a1] : List Int) : List Int)).bind fun y323 => (if y320.length + y323.length < 17592186044416 then ((some (y320 ++ y323 : List Int)).bind fun y326 => (if y326.length + (l0.drop (x5_1 : Int).toNat).length < 17592186044416 then (some (y326 ++ (l0.drop (x5_1 : Int).toNat))) else (none))) else (none))) = some r := rH H hy320
   have Ny320 := Aside0.mk hy320
   clear hy320
   obtain ⟨y323, hy323⟩ : ∃ y_ : List Int, y_ = (([a1] : List Int)) := ⟨_, rfl⟩
   replace H : (if y320.length + y323.length < 17592186044416 then ((some (y320 ++ y323 : List Int)).bind fun y326 => (if y326.length + (l0.drop (x5_1 : Int).toNat).length < 17592186044416 then (some (y326 ++ (l0.drop (x5_1 : Int).toNat))) else (none))) else (none)) = some r := rH H hy323
   have Ny323 := Aside0.mk hy323
   clear hy323
   have c33 : y320.length + y323.length < 17592186044416 := ifN H
   replace H := ifT H
   have LMc33 := Aside0.mk c33
   clear c33
   obtain ⟨y326, hy326⟩ : ∃ y_ : List Int, y_ = (y320 ++ y323) := ⟨_, rfl⟩
   replace H : (if y326.length + (l0.drop (x5_1 : Int).toNat).length < 17592186044416 then (some (y326 ++ (l0.drop (x5_1 : Int).toNat))) else (none)) = some r := rH H hy326
   have Ny326 := Aside0.mk hy326
   clear hy326
   have c34b0 := eq_true (dA : 0 ≤ x5_1)
   have c35b0 := eq_true (dA : x5_1 ≤ (l0.length : Int))
   have c36 : y326.length + (l0.drop (x5_1 : Int).toNat).length < 17592186044416 := ifN H
   replace H := ifT H
   have LMc36 := Aside0.mk c36
   clear c36
   obtain ⟨y330, hy330⟩ : ∃ y_ : List Int, y_ = (y326 ++ (l0.drop (x5_1 : Int).toNat)) := ⟨_, rfl⟩
   replace H : (some y330) = some r := rH H hy330
   have Ny330 := Aside0.mk hy330
   clear hy330
   obtain rfl := Option.some.inj H
   try go_wp2
   have HBo := HB
   replace HB := db HB
   obtain ⟨i038, hi038, _, hsz38, _⟩ := info_parts info3
   obtain ⟨hcut38, hA38, hC38⟩ := print_take_of (P := Try.prog) (Value.int .i64) 0 35 3 .i64 Try.underlying35 hi038 hsz38 A0 c0 l0 x5_1 (dA) (dA) HC0.out
   have HR319 := Aside0.mk (Kd.C_of_reads (h1 := fun _ => rfl) (hA38 _ (Kd.reads_of_C HR0.out)))
   have HC319 := Aside0.mk hC38
   clear hA38 hC38 hi038 hsz38
   have HL319 := Aside0.mk (show (x5_1 : Int) ≤ (l0.length : Int) from (dA))
   obtain ⟨i039, hi039, _, hsz39, _⟩ := info_parts info3
   obtain ⟨A39, hcut39, hA39, hC39⟩ := print_drop_of (P := Try.prog) (Value.int .i64) 0 35 3 .i64 Try.underlying35 hi039 hsz39 A0 c0 l0 x5_1 (dA) (dA) HC0.out
   have HR329 := Aside0.mk (Kd.C_of_reads (h1 := fun _ => rfl) (hA39 _ (Kd.reads_of_C HR0.out)))
   have HC329 := Aside0.mk hC39
   clear hA39 hC39 hi039 hsz39
   refine start_ (n := 13) (S := fun w' => True) (ds := []) (mb 13 0) (by kernel_rfl) rfl rfl trivial (fun hHeld => ?_); refine with_tabW spec_l6Put.tab6 spec_l6Put.bits6 (fun HT_ HW_ => ?_)
   generalize wr.drew = w37 at HB HR319 HR329 hHeld ⊢
   refine pa 1 36 (mb 13 2) HT_ ?_
   refine pa 2 37 (mb 13 6) HT_ ?_
   refine pa 3 38 (mb 13 14) HT_ ?_
   refine pa 5 40 (mb 13 46) HT_ ?_
   refine pa 8 43 (mb 13 302) HT_ ?_
   refine pa 9 44 (mb 13 814) HT_ ?_
   refine pa 10 45 (mb 13 1838) HT_ ?_
   refine join_ (σ := Value × Value × Value) 3 (mb 13 1919) (fun s_ => [(35, s_.1), (39, s_.2.1), (41, s_.2.2)]) (fun s_ w' => (Kd.R (Kd.int .i64) 3 w' w.heap.size (n1 s_.2.2) s_.2.1 y320) ∧ (Kd.R (Kd.int .i64) 3 w' w.heap.size (n1 s_.2.1) s_.2.2 y323) ∧ (Below w.heap.size w w')) ?_ ?_
   rotate_left
   ·
    intro hCont
    refine two_ (i := 0) (j := 6) (Ni := some 35) (Nj := some 41) (mb 13 1839) (mb 13 1902) rfl rfl rfl rfl (two_of HT_.out (by kernel_rfl)) (by decide) (by decide) (fun K hK => ?_) (fun K hK => ?_)
    ·
     skip
     refine Kd.R_lit_step (Kd.int .i64) _ 3 ?hg (N := 35) ?hd (xs := ([] : List Int)) (inner := []) (ok := fun _ => True) (okp := fun _ => True) ?hr ?hp (fun _ hk => hk) trivial (Below.refl _ _) (Nat.le_refl _) (by simp) ?_; (case hd => rfl); (case hg => rfl); (case hr => first | (go_simp; done) | (go_simp; rfl)); (case hp => exact (Reps.none _ _))
     intro v317 w40 ho41 hb hg_ hnew_
     clear hg_ hnew_
     (first | rw [← Ny316.out] at ho41 | (simp only [Int.reduceToNat] at ho41; rw [← Ny316.out] at ho41))
     have HO318 := rl w ho41
     replace HB := bs HB hb
     clear hb ho41
     refine hK.out _ _ trivial (fun hHeld => ?_)
     clear hK K
     refine nB ?_
     refine two_ (i := 4) (j := 6) (Ni := some 39) (Nj := some 41) (mb 13 1855) (mb 13 1903) rfl rfl rfl rfl (two_of HT_.out (by kernel_rfl)) (by decide) (by decide) (fun K hK => ?_) (fun K hK => ?_)
     ·
      skip
      refine Kd.R_append_rows_step (Kd.int .i64) (w0 := w) w.heap.size (by rfl) (.tmp 35) (.tmp 38) 35 3 (.int .i64 0) 8 rfl Try.underlying35 info3 rfl (by decide) (by omega) v317 y316 (l0.take (x5_1 : Int).toNat) _ _ _ (fun _ => True) (fun _ => False) rfl rfl ?aO ?aR (fun _ _ h => h) (fun _ h => h.elim) ?aF ?aB ?aS ?aL ?_
      (case aR => (have hr_ := HR319.out; rw [show (l0.take (x5_1 : Int).toNat).length = x5_1.toNat from (by rw [List.length_take]; have h_ : (x5_1 : Int) ≤ (l0.length : Int) := dA; omega)] at hr_; (repeat (first | exact (Kd.C_below hr_ HB.out) | (with_reducible refine Kd.C_alloc ?_ _) | (with_reducible refine Kd.C_drewN ?_ _) | (with_reducible refine Kd.C_drew ?_))); done))
      (case aB => exact bA)
      (case aF => exact (fun _ _ => trivial))
      (case aO => exact (rK HO318))
      (case aS => exact (below_size bA))
      (case aL => have := LMc32.out; have hlx_ := (show (l0.take (x5_1 : Int).toNat).length = x5_1.toNat from (by rw [List.length_take]; have h_ : (x5_1 : Int) ≤ (l0.length : Int) := dA; omega)); omega)
      intro v321 w42 ho hb hg hat
      rw [← Ny320.out] at ho
      have n0_ := Aside0.mk (hb)
      have n1_ := Aside0.mk (ho)
      clear HB
      clear HO318
      have HB := n0_
      have HO322 := n1_
      clear n0_ n1_
      clear ho hb hg hat
      refine hK.out _ _ trivial (fun hHeld => ?_)
      clear hK K
      refine nB ?_
      refine oa 6 41 (mb 13 1919) HT_ (fun K hK => ?_)
      refine Kd.R_lit_step (Kd.int .i64) _ 3 ?hg (N := 41) ?hd (xs := ([a1] : List Int)) (inner := [.int .i64 a1]) (ok := fun _ => True) (okp := fun _ => True) ?hr ?hp (fun _ hk => hk) trivial (Below.refl _ _) (Nat.le_refl _) (by simp) ?_; (case hd => rfl); (case hg => rfl); (case hr => first | (go_simp; done) | (go_simp; rfl)); (case hp => exact (Reps.one (show Kd.M (Kd.int .i64) _ _ _ a1 [.int .i64 a1] from rfl) (Reps.none _ _)))
      intro v324 w43 ho44 hb hg_ hnew_
      clear hg_ hnew_
      (first | rw [← Ny323.out] at ho44 | (simp only [Int.reduceToNat] at ho44; rw [← Ny323.out] at ho44))
      have HO325 := rl w (rn ho44 HO322)
      replace HO322 := re HO322 ho44 hb
      replace HB := bs HB hb
      clear hb ho44
      refine hK.out _ _ trivial (fun hHeld => ?_)
      clear hK K
      refine nB ?_
      exact mB (hCont (v317, v321, v324) _ ⟨(rm HO322 (fun _ hk => hk.2)), (rm HO325 (fun _ hk => hk.2)), bA⟩)
     ·
      skip
      refine Kd.R_lit_step (Kd.int .i64) _ 3 ?hg (N := 41) ?hd (xs := ([a1] : List Int)) (inner := [.int .i64 a1]) (ok := fun _ => True) (okp := fun _ => True) ?hr ?hp (fun _ hk => hk) trivial (Below.refl _ _) (Nat.le_refl _) (by simp) ?_; (case hd => rfl); (case hg => rfl); (case hr => first | (go_simp; done) | (go_simp; rfl)); (case hp => exact (Reps.one (show Kd.M (Kd.int .i64) _ _ _ a1 [.int .i64 a1] from rfl) (Reps.none _ _)))
      intro v324 w42 ho43 hb hg_ hnew_
      clear hg_ hnew_
      (first | rw [← Ny323.out] at ho43 | (simp only [Int.reduceToNat] at ho43; rw [← Ny323.out] at ho43))
      have HO325 := rl w (rn ho43 HO318)
      replace HO318 := re HO318 ho43 hb
      replace HB := bs HB hb
      clear hb ho43
      refine hK.out _ _ trivial (fun hHeld => ?_)
      clear hK K
      refine nB ?_
      refine oa 4 39 (mb 13 1919) HT_ (fun K hK => ?_)
      refine Kd.R_append_rows_step (Kd.int .i64) (w0 := w) w.heap.size (by rfl) (.tmp 35) (.tmp 38) 35 3 (.int .i64 0) 8 rfl Try.underlying35 info3 rfl (by decide) (by omega) v317 y316 (l0.take (x5_1 : Int).toNat) _ _ _ (n1 v324) (fun _ => False) rfl rfl ?aO ?aR (fun _ _ h => h) (fun _ h => h.elim) ?aF ?aB ?aS ?aL ?_
      (case aR => (have hr_ := HR319.out; rw [show (l0.take (x5_1 : Int).toNat).length = x5_1.toNat from (by rw [List.length_take]; have h_ : (x5_1 : Int) ≤ (l0.length : Int) := dA; omega)] at hr_; (repeat (first | exact (Kd.C_below hr_ HB.out) | (with_reducible refine Kd.C_alloc ?_ _) | (with_reducible refine Kd.C_drewN ?_ _) | (with_reducible refine Kd.C_drew ?_))); done))
      (case aB => exact bA)
      (case aF => exact (fun k_ hk => Kd.fresh' (Kd.R_lt (rK HO325)) k_ hk))
      (case aO => exact (rm HO318 (fun _ hk => hk.2)))
      (case aS => exact (below_size bA))
      (case aL => have := LMc32.out; have hlx_ := (show (l0.take (x5_1 : Int).toNat).length = x5_1.toNat from (by rw [List.length_take]; have h_ : (x5_1 : Int) ≤ (l0.length : Int) := dA; omega)); omega)
      intro v321 w44 ho hb hg hat
      rw [← Ny320.out] at ho
      have n0_ := Aside0.mk (Kd.R_after (ok := (fun _ => True)) (rK HO325) hg hat)
      have n1_ := Aside0.mk (hb)
      have n2_ := Aside0.mk (ho)
      clear HO325
      clear HB
      clear HO318
      have HO325 := n0_
      have HB := n1_
      have HO322 := n2_
      clear n0_ n1_ n2_
      clear ho hb hg hat
      refine hK.out _ _ trivial (fun hHeld => ?_)
      clear hK K
      refine nB ?_
      exact mB (hCont (v317, v321, v324) _ ⟨(rK HO322), (rm HO325 (fun _ hk => hk.2)), bA⟩)
    ·
     skip
     refine Kd.R_lit_step (Kd.int .i64) _ 3 ?hg (N := 41) ?hd (xs := ([a1] : List Int)) (inner := [.int .i64 a1]) (ok := fun _ => True) (okp := fun _ => True) ?hr ?hp (fun _ hk => hk) trivial (Below.refl _ _) (Nat.le_refl _) (by simp) ?_; (case hd => rfl); (case hg => rfl); (case hr => first | (go_simp; done) | (go_simp; rfl)); (case hp => exact (Reps.one (show Kd.M (Kd.int .i64) _ _ _ a1 [.int .i64 a1] from rfl) (Reps.none _ _)))
     intro v324 w40 ho41 hb hg_ hnew_
     clear hg_ hnew_
     (first | rw [← Ny323.out] at ho41 | (simp only [Int.reduceToNat] at ho41; rw [← Ny323.out] at ho41))
     have HO325 := rl w ho41
     replace HB := bs HB hb
     clear hb ho41
     refine hK.out _ _ trivial (fun hHeld => ?_)
     clear hK K
     refine nB ?_
     refine oa 0 35 (mb 13 1903) HT_ (fun K hK => ?_)
     refine Kd.R_lit_step (Kd.int .i64) _ 3 ?hg (N := 35) ?hd (xs := ([] : List Int)) (inner := []) (ok := fun _ => True) (okp := fun _ => True) ?hr ?hp (fun _ hk => hk) trivial (Below.refl _ _) (Nat.le_refl _) (by simp) ?_; (case hd => rfl); (case hg => rfl); (case hr => first | (go_simp; done) | (go_simp; rfl)); (case hp => exact (Reps.none _ _))
     intro v317 w42 ho43 hb hg_ hnew_
     clear hg_ hnew_
     (first | rw [← Ny316.out] at ho43 | (simp only [Int.reduceToNat] at ho43; rw [← Ny316.out] at ho43))
     have HO318 := rl w (rn ho43 HO325)
     replace HO325 := re HO325 ho43 hb
     replace HB := bs HB hb
     clear hb ho43
     refine hK.out _ _ trivial (fun hHeld => ?_)
     clear hK K
     refine nB ?_
     refine oa 4 39 (mb 13 1919) HT_ (fun K hK => ?_)
     refine Kd.R_append_rows_step (Kd.int .i64) (w0 := w) w.heap.size (by rfl) (.tmp 35) (.tmp 38) 35 3 (.int .i64 0) 8 rfl Try.underlying35 info3 rfl (by decide) (by omega) v317 y316 (l0.take (x5_1 : Int).toNat) _ _ _ (n1 v324) (fun _ => False) rfl rfl ?aO ?aR (fun _ _ h => h) (fun _ h => h.elim) ?aF ?aB ?aS ?aL ?_
     (case aR => (have hr_ := HR319.out; rw [show (l0.take (x5_1 : Int).toNat).length = x5_1.toNat from (by rw [List.length_take]; have h_ : (x5_1 : Int) ≤ (l0.length : Int) := dA; omega)] at hr_; (repeat (first | exact (Kd.C_below hr_ HB.out) | (with_reducible refine Kd.C_alloc ?_ _) | (with_reducible refine Kd.C_drewN ?_ _) | (with_reducible refine Kd.C_drew ?_))); done))
     (case aB => exact bA)
     (case aF => exact (fun k_ hk => Kd.fresh' (Kd.R_lt (rK HO325)) k_ hk))
     (case aO => exact (rm HO318 (fun _ hk => hk.2)))
     (case aS => exact (below_size bA))
     (case aL => have := LMc32.out; have hlx_ := (show (l0.take (x5_1 : Int).toNat).length = x5_1.toNat from (by rw [List.length_take]; have h_ : (x5_1 : Int) ≤ (l0.length : Int) := dA; omega)); omega)
     intro v321 w44 ho hb hg hat
     rw [← Ny320.out] at ho
     have n0_ := Aside0.mk (Kd.R_after (ok := (fun _ => True)) (rK HO325) hg hat)
     have n1_ := Aside0.mk (hb)
     have n2_ := Aside0.mk (ho)
     clear HO325
     clear HB
     clear HO318
     have HO325 := n0_
     have HB := n1_
     have HO322 := n2_
     clear n0_ n1_ n2_
     clear ho hb hg hat
     refine hK.out _ _ trivial (fun hHeld => ?_)
     clear hK K
     refine nB ?_
     exact mB (hCont (v317, v321, v324) _ ⟨(rK HO322), (rm HO325 (fun _ hk => hk.2)), bA⟩)
   rintro ⟨v317, v321, v324⟩ w45 ⟨h0_, h1_, h2_⟩
   have n0_ : Aside0 (Kd.R (Kd.int .i64) 3 w45 w.heap.size (n1 v324) v321 y320) := ⟨h0_⟩
   have n1_ : Aside0 (Kd.R (Kd.int .i64) 3 w45 w.heap.size (n1 v321) v324 y323) := ⟨h1_⟩
   have n2_ : Aside0 (Below w.heap.size w w45) := ⟨h2_⟩
   clear HB
   clear h0_ h1_ h2_
   have HO322 := n0_
   have HO325 := n1_
   have HB := n2_
   clear n0_ n1_ n2_
   have hHeld := trivial
   obtain ⟨Ao47, co47, eo47⟩ := Kd.R_slice HO325.out
   (first | subst eo47 | (injection eo47 with f1_ f2_ f3_; have f4_ := f1_.symm; have f5_ := f3_.symm; clear f1_ f2_ f3_; subst f4_; subst f5_))
   refine norm_ (a' := ?_) ?_ ?_
   rotate_left
   ·
    simp only [putAll, Act.put, List.setIfInBounds_toArray, List.set_cons_zero, List.set_cons_succ]
    rfl
   refine oa 7 42 (mb 13 2047) HT_ (fun K hK => ?_)
   refine Kd.R_append_rows_step (Kd.int .i64) (w0 := w) w.heap.size (by rfl) (.tmp 39) (.tmp 41) 35 3 (.int .i64 0) 8 rfl Try.underlying35 info3 rfl (by decide) (by omega) v321 y320 y323 _ _ _ (n1 (.slice Ao47 y323.length co47)) (fun _ => False) rfl rfl ?aO ?aR (fun _ _ h => h) (fun _ h => h.elim) ?aF ?aB ?aS ?aL ?_
   (case aR => repeat (first | exact (Kd.R_reads' HO325.out).2.2 | (with_reducible refine Kd.C_alloc ?_ _) | (with_reducible refine Kd.C_drewN ?_ _) | (with_reducible refine Kd.C_drew ?_)))
   (case aB => exact bA)
   (case aF => exact (fun k_ hk => Kd.fresh' (Kd.R_lt (rK HO325)) k_ hk))
   (case aO => exact (rK HO322))
   (case aS => exact (below_size bA))
   (case aL => have := LMc33.out; omega)
   intro v327 w46 ho hb hg hat
   rw [← Ny326.out] at ho
   have n0_ := Aside0.mk (Kd.R_after (ok := (fun _ => True)) (rm HO325 (fun _ hk => ⟨trivial, hk⟩)) hg hat)
   have n1_ := Aside0.mk (hb)
   have n2_ := Aside0.mk (ho)
   clear HO325
   clear HB
   clear HO322
   have HO325 := n0_
   have HB := n1_
   have HO328 := n2_
   clear n0_ n1_ n2_
   clear ho hb hg hat
   refine hK.out _ _ trivial (fun hHeld => ?_)
   clear hK K
   refine nB ?_
   refine oa 11 46 (mb 13 4095) HT_ (fun K hK => ?_)
   refine Kd.R_append_rows_step (Kd.int .i64) (w0 := w) w.heap.size (by rfl) (.tmp 42) (.tmp 45) 35 3 (.int .i64 0) 8 rfl Try.underlying35 info3 rfl (by decide) (by omega) v327 y326 (l0.drop (x5_1 : Int).toNat) _ _ _ (n1 (.slice Ao47 y323.length co47)) (fun _ => False) rfl rfl ?aO ?aR (fun _ _ h => h) (fun _ h => h.elim) ?aF ?aB ?aS ?aL ?_
   (case aR => (have hr_ := HR329.out; rw [show (l0.drop (x5_1 : Int).toNat).length = (l0.length - x5_1.toNat) from List.length_drop] at hr_; (repeat (first | exact (Kd.C_below hr_ HB.out) | (with_reducible refine Kd.C_alloc ?_ _) | (with_reducible refine Kd.C_drewN ?_ _) | (with_reducible refine Kd.C_drew ?_))); done))
   (case aB => exact bA)
   (case aF => exact (fun k_ hk => Kd.fresh' (Kd.R_lt (rK HO325)) k_ hk))
   (case aO => exact (rK HO328))
   (case aS => exact (below_size bA))
   (case aL => have := LMc36.out; have hlx_ := (show (l0.drop (x5_1 : Int).toNat).length = (l0.length - x5_1.toNat) from List.length_drop); omega)
   intro v331 w48 ho hb hg hat
   rw [← Ny330.out] at ho
   have n0_ := Aside0.mk (Kd.R_after (ok := (fun _ => True)) (rK HO325) hg hat)
   have n1_ := Aside0.mk (hb)
   have n2_ := Aside0.mk (ho)
   clear HO325
   clear HB
   clear HO328
   have HO325 := n0_
   have HB := n1_
   have HO332 := n2_
   clear n0_ n1_ n2_
   clear ho hb hg hat
   refine hK.out _ _ trivial (fun hHeld => ?_)
   clear hK K
   refine nB ?_
   refine pa 12 4 (mb 13 8191) HT_ ?_
   refine eA HT_ ?_
   try go_wp2
   go_ret
   exact ⟨_, rA, rm HO332 (fun _ hk => trivial), bA⟩

/-! ### spec_AddToStage: function 134 -/
mutual
def spec_AddToStage.l0 : Nat → List (S50) → List Int → List Int → Int → Option (List Int)
 | 0, _, _, _, _ => none
 | k + 1, x0, x1, x5, x6 => if x6 < (x0.length : Int) then ((spec_IsTogether.f k x0 x1).bind fun t339 => (spec_AddToStage.j1 k x0 x1 x5 x6 t339)) else (spec_AddToStage.j1 k x0 x1 x5 x6 false)
def spec_AddToStage.j1 : Nat → List (S50) → List Int → List Int → Int → Bool → Option (List Int)
 | 0, _, _, _, _, _ => none
 | k + 1, x0, x1, x5, x6, x19 => if x19 = true then (if 0 ≤ x6 then (if x6 < (x0.length : Int) then ((spec_l6Put.f k x5 ((rd_T50 x0 x6).f0)).bind fun t341 => ((spec_IsTogether.f k x0 t341).bind fun t344 => (if t344 = true then (spec_AddToStage.l0 k x0 x1 t341 (wrap64 (x6 + 1))) else (spec_AddToStage.l0 k x0 x1 x5 (wrap64 (x6 + 1)))))) else (none)) else (none)) else (some x5)
end
def spec_AddToStage.f (k : Nat) (l0 : List (S50)) (l1 : List Int) : Option (List Int) := (some (([] : List Int) : List Int)).bind fun y333 => (if y333.length + l1.length < 17592186044416 then (spec_AddToStage.l0 k l0 l1 (y333 ++ l1) 0) else (none))
theorem spec_AddToStage.mono_l : ∀ k, (∀ y0 y1 y2 y3, LeO (spec_AddToStage.l0 k y0 y1 y2 y3) (spec_AddToStage.l0 (k + 1) y0 y1 y2 y3)) ∧ (∀ y0 y1 y2 y3 y4, LeO (spec_AddToStage.j1 k y0 y1 y2 y3 y4) (spec_AddToStage.j1 (k + 1) y0 y1 y2 y3 y4))
 | 0 => ⟨fun _ _ _ _ r h => by simp [spec_AddToStage.l0] at h, fun _ _ _ _ _ r h => by simp [spec_AddToStage.j1] at h⟩
 | k + 1 => by
  obtain ⟨ih0, ih1⟩ := spec_AddToStage.mono_l k
  refine ⟨?_, ?_⟩
  ·
   intro y0 y1 y2 y3
   unfold spec_AddToStage.l0
   exact mz4 ih0 ih1 spec_IsTogether.mono spec_l6Put.mono
  ·
   intro y0 y1 y2 y3 y4
   unfold spec_AddToStage.j1
   exact mz4 ih0 ih1 spec_IsTogether.mono spec_l6Put.mono
theorem spec_AddToStage.mono : ∀ a0 a1 k, LeO (spec_AddToStage.f k a0 a1) (spec_AddToStage.f (k + 1) a0 a1) := by
 intro a0 a1 k
 obtain ⟨ih0, ih1⟩ := spec_AddToStage.mono_l k
 unfold spec_AddToStage.f
 exact mz4 ih0 ih1 spec_IsTogether.mono spec_l6Put.mono
set_option maxHeartbeats 8000000 in
set_option maxRecDepth 100000 in
theorem spec_AddToStage.calls (k : Nat) (A0 : Option Addr) (c0 : Nat) (l0 : List (S50)) (A1 : Option Addr) (c1 : Nat) (l1 : List Int) (r : List Int) (w : World) (hr0 : Kd.C k50 w A0 l0.length l0) (hc0 : l0.length ≤ c0) (hr1 : Kd.C (Kd.int .i64) w A1 l1.length l1) (hc1 : l1.length ≤ c1) (h : spec_AddToStage.f k l0 l1 = some r) :
  Calls Try.prog 134 #[.slice A0 l0.length c0, .slice A1 l1.length c1] w fun e w' => ∃ v0_ : Value, e = .returned (v0_) ∧ Kd.R (Kd.int .i64) 3 w' w.heap.size (fun _ => True) v0_ r ∧ Below w.heap.size w w' := by
 have HR0 := Aside0.mk hr0
 have HC0 := Aside0.mk hc0
 clear hr0 hc0
 have HR1 := Aside0.mk hr1
 have HC1 := Aside0.mk hc1
 clear hr1 hc1
 have HB := Aside0.mk (Below.refl w.heap.size w)
 have H : ((some (([] : List Int) : List Int)).bind fun y333 => (if y333.length + l1.length < 17592186044416 then (spec_AddToStage.l0 k l0 l1 (y333 ++ l1) 0) else (none))) = some r := h
 clear h
 obtain ⟨y333, hy333⟩ : ∃ y_ : List Int, y_ = (([] : List Int)) := ⟨_, rfl⟩
 replace H : (if y333.length + l1.length < 17592186044416 then (spec_AddToStage.l0 k l0 l1 (y333 ++ l1) 0) else (none)) = some r := rH H hy333
 have Ny333 := Aside0.mk hy333
 clear hy333
 have c3 : y333.length + l1.length < 17592186044416 := ifN H
 replace H := ifT H
 have LMc3 := Aside0.mk c3
 clear c3
 obtain ⟨y336, hy336⟩ : ∃ y_ : List Int, y_ = (y333 ++ l1) := ⟨_, rfl⟩
 replace H : (spec_AddToStage.l0 k l0 l1 y336 0) = some r := rH H hy336
 have Ny336 := Aside0.mk hy336
 clear hy336
 have H' := Aside0.mk H
 clear H
 go_enter Try.func134, Try.ntmps134
 go_wp2_with (first | ((with_reducible refine gate_dst (N := 8) rfl ?_); refine Kd.R_lit (Kd.int .i64) _ 3 ?hg (N := 8) ?hd (xs := ([] : List Int)) (inner := []) (ok := fun _ => True) (okp := fun _ => True) ?hr ?hp (fun _ hk => hk) trivial (Below.refl _ _) (Nat.le_refl _) (by simp) ?_; (case hd => rfl); (case hg => rfl); (case hr => first | (go_simp; done) | (go_simp; rfl)); (case hp => exact (Reps.none _ _)); intro v334 w4 ho5 hb hg_ hnew_; clear hg_ hnew_; (first | rw [← Ny333.out] at ho5 | (simp only [Int.reduceToNat] at ho5; rw [← Ny333.out] at ho5)); have HO335 := rl w ho5; replace HB := bs HB hb; clear hb ho5) | ((with_reducible refine gate_builtin (b := .append) (xs := #[.tmp 8, .tmp 9]) rfl ?_); at_builtin; refine Kd.R_append_rows (Kd.int .i64) (w0 := w) w.heap.size rfl (.tmp 8) (.tmp 9) 35 3 (.int .i64 0) 8 rfl Try.underlying35 info3 rfl (by decide) (by omega) v334 y333 l1 _ _ _ (fun _ => True) (fun _ => False) rfl rfl ?aO ?aR (fun _ _ h => h) (fun _ h => h.elim) ?aF ?aB ?aS ?aL ?_; (case aR => repeat (first | exact (Kd.C_below HR1.out HB.out) | (with_reducible refine Kd.C_alloc ?_ _) | (with_reducible refine Kd.C_drewN ?_ _) | (with_reducible refine Kd.C_drew ?_))); (case aB => exact bA); (case aF => exact (fun _ _ => trivial)); (case aO => exact (rK HO335)); (case aS => exact (below_size bA)); (case aL => have := LMc3.out; omega); intro v337 w6 ho hb hg hat; rw [← Ny336.out] at ho; have n0_ := Aside0.mk (hb); have n1_ := Aside0.mk (ho); clear HB; clear HO335; have HB := n0_; have HO338 := n1_; clear n0_ n1_; clear ho hb hg hat))
 go_loopg [5, 6] k (fun kq v5 v6 w' => ∃ (x5_1 : List Int) (x6_1 : Int), v6 = .int .i64 x6_1 ∧ Aside0 (spec_AddToStage.l0 kq l0 l1 x5_1 x6_1 = some r) ∧ Aside0 (kq ≤ k) ∧ Aside0 (Kd.R (Kd.int .i64) 3 w' w.heap.size (fun _ => True) v5 x5_1) ∧ Aside0 (Below w.heap.size w w'))
 case atStart => exact ⟨(y336), (0), rS, H', ⟨Nat.le_refl _⟩, ⟨rK HO338⟩, ⟨bA⟩⟩
 case round =>
  clear H'
  obtain ⟨x5_1, x6_1, rfl, HA, HK1, HO_5, HB⟩ := hrel
  cases gk with
  | zero => exact absurd HA.out (by simp [spec_AddToStage.l0])
  | succ k1 =>
   have H := HA.out
   clear HA
   simp only [spec_AddToStage.l0] at H
   have HC7 := Aside0.mk H
   clear H
   go_upto_region 3 with (fail)
   go_cut [19] (fun v19 wc => ∃ (kq : Nat) (x19_6 : Bool), v19 = .bool x19_6 ∧ Aside0 (spec_AddToStage.j1 kq l0 l1 x5_1 x6_1 x19_6 = some r) ∧ Aside0 (kq ≤ k1) ∧ Aside0 (Kd.R (Kd.int .i64) 3 wc w.heap.size (fun _ => True) u5 x5_1) ∧ Aside0 (Below w.heap.size w wc))
   case first =>
    have H := HC7.out
    clear HC7
    by_cases c8 : x6_1 < (l0.length : Int)
    ·
     rw [if_pos c8] at H
     have c8b0 := decide_eq_true c8
     clear c8
     (first | rw [c8b0] | (simp only [i64_w, i32_w]; rw [c8b0]) | skip)
     obtain ⟨t339, A9, H⟩ := bindE H
     try dsimp only at H
     have H' := Aside0.mk H
     clear H
     go_wp2_with (first | (go_at_call 112; (with_reducible refine (spec_IsTogether.calls k1 _ _ l0 _ _ l1 t339 _ ?_ ?_ ?_ ?_ A9.out).mono ?_); exact cB HR0; exact HC0.out; exact cB HR1; exact HC1.out; rintro e w10 ⟨rfl, hb⟩; replace HO_5 := rb HO_5 hb; replace HB := bs HB hb; (try clear hb)))
     go_meet
     case rel => exact ⟨_, (t339), rS, H', ⟨by have := HK1.out; first | omega | exact Nat.le_refl _⟩, ⟨rK HO_5⟩, ⟨bA⟩⟩
    rw [if_neg c8] at H
    have c8b0 := decide_eq_false c8
    clear c8
    (first | rw [c8b0] | (simp only [i64_w, i32_w]; rw [c8b0]) | skip)
    have H' := Aside0.mk H
    clear H
    go_wp2
    go_meet
    case rel => exact ⟨_, (false), rS, H', ⟨by have := HK1.out; first | omega | exact Nat.le_refl _⟩, ⟨rK HO_5⟩, ⟨bA⟩⟩
   case rest =>
    clear HC7
    obtain ⟨kq, x19_6, rfl, HA, HJ6, HO_5, HB⟩ := hcut
    cases kq with
    | zero => exact absurd HA.out (by simp [spec_AddToStage.j1])
    | succ kj6 =>
     have H := HA.out
     clear HA
     simp only [spec_AddToStage.j1] at H
     by_cases c11 : x19_6 = true
     ·
      subst c11
      have H1 : (if 0 ≤ x6_1 then (if x6_1 < (l0.length : Int) then ((spec_l6Put.f kj6 x5_1 ((rd_T50 l0 x6_1).f0)).bind fun t341 => ((spec_IsTogether.f kj6 l0 t341).bind fun t344 => (if t344 = true then (spec_AddToStage.l0 kj6 l0 l1 t341 (wrap64 (x6_1 + 1))) else (spec_AddToStage.l0 kj6 l0 l1 x5_1 (wrap64 (x6_1 + 1)))))) else (none)) else (none)) = some r := by rw [if_pos rfl] at H; exact H
      clear H
      have H := H1
      clear H1
      have c12 : 0 ≤ x6_1 := ifN H
      replace H := ifT H
      have c12b0 := decide_eq_true c12
      clear c12
      have c13 : x6_1 < (l0.length : Int) := ifN H
      replace H := ifT H
      have c13b0 := decide_eq_true c13
      clear c13
      obtain ⟨t341, A14, H⟩ := bindE H
      try dsimp only at H
      obtain ⟨t344, A15, H⟩ := bindE H
      try dsimp only at H
      by_cases c16 : t344 = true
      ·
       subst c16
       have H1 : (spec_AddToStage.l0 kj6 l0 l1 t341 (wrap64 (x6_1 + 1))) = some r := by rw [if_pos rfl] at H; exact H
       clear H
       have H := H1
       clear H1
       have H' := Aside0.mk H
       clear H
       obtain ⟨p340, q340⟩ : 0 ≤ (x6_1 : Int) ∧ x6_1 < (l0.length : Int) := ⟨dA, dA⟩
       obtain ⟨ad340, e340, hx340_0, hx340_1, hx340_2, hx340_3⟩ := at_T50 (Kd.C_below HR0.out HB.out) x6_1 p340 q340
       cases e340
       obtain ⟨p340, q340⟩ := eT p340 q340
       obtain ⟨Ao17, co17, eo17⟩ := Kd.R_slice HO_5.out
       subst eo17
       go_wp2_with (first | ((with_reducible refine gate_callee (f := 135) rfl ?_); refine gL (some 28) Try.func135 #[.slice Ao17 x5_1.length co17, .int .i64 ((rd_T50 l0 x6_1).f0)] ?_; (with_reducible refine (spec_l6Put.calls kj6 _ _ x5_1 ((rd_T50 l0 x6_1).f0) t341 _ ?_ ?_ A14.out).mono ?_); exact cO ⟨(Kd.R_reads' HO_5.out).2.2⟩; exact (Kd.R_reads' HO_5.out).2.1; rintro e w18 ⟨v342, rfl, ho0, hb⟩; refine ⟨_, rfl, ?_⟩; have HO343 := rl w (rn ho0 HO_5); replace HO_5 := re HO_5 ho0 hb; replace HB := bs HB hb; (try clear hb); (try clear ho0); obtain ⟨Ao19, co19, eo19⟩ := Kd.R_slice HO343.out; subst eo19) | ((with_reducible refine gate_callee (f := 112) rfl ?_); refine gL (some 31) Try.func112 #[.slice (some ad340) l0.length c0, .slice Ao19 t341.length co19] ?_; (with_reducible refine (spec_IsTogether.calls kj6 _ _ l0 _ _ t341 true _ ?_ ?_ ?_ ?_ A15.out).mono ?_); exact cB HR0; exact HC0.out; exact cO ⟨(Kd.R_reads' HO343.out).2.2⟩; exact (Kd.R_reads' HO343.out).2.1; rintro e w20 ⟨rfl, hb⟩; refine ⟨_, rfl, ?_⟩; replace HO_5 := rb HO_5 hb; replace HO343 := rb HO343 hb; replace HB := bs HB hb; (try clear hb)))
       go_roundg kj6
       case measure => have := HK1.out; have := HJ6.out; omega
       case rel => exact ⟨(t341), (wrap64 (x6_1 + 1)), rS, H', ⟨by have := HK1.out; have := HJ6.out; omega⟩, ⟨rm HO343 (fun _ hk => trivial)⟩, ⟨bA⟩⟩
      replace c16 := Bool.eq_false_iff.mpr c16
      subst c16
      have H1 : (spec_AddToStage.l0 kj6 l0 l1 x5_1 (wrap64 (x6_1 + 1))) = some r := by rw [if_neg (show ¬ (false = true) by decide)] at H; exact H
      clear H
      have H := H1
      clear H1
      have H' := Aside0.mk H
      clear H
      obtain ⟨p340, q340⟩ : 0 ≤ (x6_1 : Int) ∧ x6_1 < (l0.length : Int) := ⟨dA, dA⟩
      obtain ⟨ad340, e340, hx340_0, hx340_1, hx340_2, hx340_3⟩ := at_T50 (Kd.C_below HR0.out HB.out) x6_1 p340 q340
      cases e340
      obtain ⟨p340, q340⟩ := eT p340 q340
      obtain ⟨Ao21, co21, eo21⟩ := Kd.R_slice HO_5.out
      subst eo21
      go_wp2_with (first | ((with_reducible refine gate_callee (f := 135) rfl ?_); refine gL (some 28) Try.func135 #[.slice Ao21 x5_1.length co21, .int .i64 ((rd_T50 l0 x6_1).f0)] ?_; (with_reducible refine (spec_l6Put.calls kj6 _ _ x5_1 ((rd_T50 l0 x6_1).f0) t341 _ ?_ ?_ A14.out).mono ?_); exact cO ⟨(Kd.R_reads' HO_5.out).2.2⟩; exact (Kd.R_reads' HO_5.out).2.1; rintro e w22 ⟨v342, rfl, ho0, hb⟩; refine ⟨_, rfl, ?_⟩; have HO343 := rl w (rn ho0 HO_5); replace HO_5 := re HO_5 ho0 hb; replace HB := bs HB hb; (try clear hb); (try clear ho0); obtain ⟨Ao23, co23, eo23⟩ := Kd.R_slice HO343.out; subst eo23) | ((with_reducible refine gate_callee (f := 112) rfl ?_); refine gL (some 31) Try.func112 #[.slice (some ad340) l0.length c0, .slice Ao23 t341.length co23] ?_; (with_reducible refine (spec_IsTogether.calls kj6 _ _ l0 _ _ t341 false _ ?_ ?_ ?_ ?_ A15.out).mono ?_); exact cB HR0; exact HC0.out; exact cO ⟨(Kd.R_reads' HO343.out).2.2⟩; exact (Kd.R_reads' HO343.out).2.1; rintro e w24 ⟨rfl, hb⟩; refine ⟨_, rfl, ?_⟩; replace HO_5 := rb HO_5 hb; replace HO343 := rb HO343 hb; replace HB := bs HB hb; (try clear hb)))
      go_roundg kj6
      case measure => have := HK1.out; have := HJ6.out; omega
      case rel => exact ⟨(x5_1), (wrap64 (x6_1 + 1)), rS, H', ⟨by have := HK1.out; have := HJ6.out; omega⟩, ⟨rm HO_5 (fun _ hk => trivial)⟩, ⟨bA⟩⟩
     replace c11 := Bool.eq_false_iff.mpr c11
     subst c11
     have H1 : (some x5_1) = some r := by rw [if_neg (show ¬ (false = true) by decide)] at H; exact H
     clear H
     have H := H1
     clear H1
     obtain rfl := Option.some.inj H
     go_wp2
     go_ret
     exact ⟨_, rA, rK HO_5, bA⟩

/-! ### spec_CoverOf: function 89 -/
mutual
def spec_CoverOf.l0 : Nat → List (S50) → List (List Int) → List Int → Int → Option ((List (List Int)))
 | 0, _, _, _, _ => none
 | k + 1, x0, x3, x4, x5 => if x5 < (x0.length : Int) then ((spec_ArePaths.f k x0).bind fun t351 => (spec_CoverOf.j1 k x0 x3 x4 x5 t351)) else (spec_CoverOf.j1 k x0 x3 x4 x5 false)
def spec_CoverOf.j1 : Nat → List (S50) → List (List Int) → List Int → Int → Bool → Option ((List (List Int)))
 | 0, _, _, _, _, _ => none
 | k + 1, x0, x3, x4, x5, x17 => if x17 = true then (if 0 ≤ x5 then (if x5 < (x0.length : Int) then ((spec_l6Has.f k x4 ((rd_T50 x0 x5).f0)).bind fun t353 => (if t353 = true then (spec_CoverOf.l0 k x0 x3 x4 (wrap64 (x5 + 1))) else ((spec_AddToStage.f k x0 (([(rd_T50 x0 x5).f0] : List Int))).bind fun t358 => (if x3.length < 5864062014805 then (spec_CoverOf.l1 k x0 (x3 ++ [t358]) x4 x5 t358 0) else (none))))) else (none)) else (none)) else (some x3)
def spec_CoverOf.l1 : Nat → List (S50) → List (List Int) → List Int → Int → List Int → Int → Option ((List (List Int)))
 | 0, _, _, _, _, _, _ => none
 | k + 1, x0, x3, x4, x5, x6, x7 => if x7 < (x6.length : Int) then (if 0 ≤ x7 then ((spec_l6Put.f k x4 (rd x6 x7)).bind fun t365 => (spec_CoverOf.l1 k x0 x3 t365 x5 x6 (wrap64 (x7 + 1)))) else (none)) else (spec_CoverOf.l0 k x0 x3 x4 (wrap64 (x5 + 1)))
end
def spec_CoverOf.f (k : Nat) (l0 : List (S50)) : Option ((List (List Int))) := spec_CoverOf.l0 k l0 (([] : List (List Int))) (([] : List Int)) 0
theorem spec_CoverOf.mono_l : ∀ k, (∀ y0 y1 y2 y3, LeO (spec_CoverOf.l0 k y0 y1 y2 y3) (spec_CoverOf.l0 (k + 1) y0 y1 y2 y3)) ∧ (∀ y0 y1 y2 y3 y4, LeO (spec_CoverOf.j1 k y0 y1 y2 y3 y4) (spec_CoverOf.j1 (k + 1) y0 y1 y2 y3 y4)) ∧ (∀ y0 y1 y2 y3 y4 y5, LeO (spec_CoverOf.l1 k y0 y1 y2 y3 y4 y5) (spec_CoverOf.l1 (k + 1) y0 y1 y2 y3 y4 y5))
 | 0 => ⟨fun _ _ _ _ r h => by simp [spec_CoverOf.l0] at h, fun _ _ _ _ _ r h => by simp [spec_CoverOf.j1] at h, fun _ _ _ _ _ _ r h => by simp [spec_CoverOf.l1] at h⟩
 | k + 1 => by
  obtain ⟨ih0, ih1, ih2⟩ := spec_CoverOf.mono_l k
  refine ⟨?_, ?_, ?_⟩
  ·
   intro y0 y1 y2 y3
   unfold spec_CoverOf.l0
   exact mz7 ih0 ih1 ih2 spec_AddToStage.mono spec_ArePaths.mono spec_l6Has.mono spec_l6Put.mono
  ·
   intro y0 y1 y2 y3 y4
   unfold spec_CoverOf.j1
   exact mz7 ih0 ih1 ih2 spec_AddToStage.mono spec_ArePaths.mono spec_l6Has.mono spec_l6Put.mono
  ·
   intro y0 y1 y2 y3 y4 y5
   unfold spec_CoverOf.l1
   exact mz7 ih0 ih1 ih2 spec_AddToStage.mono spec_ArePaths.mono spec_l6Has.mono spec_l6Put.mono
theorem spec_CoverOf.mono : ∀ a0 k, LeO (spec_CoverOf.f k a0) (spec_CoverOf.f (k + 1) a0) := by
 intro a0 k
 obtain ⟨ih0, ih1, ih2⟩ := spec_CoverOf.mono_l k
 unfold spec_CoverOf.f
 exact mz7 ih0 ih1 ih2 spec_AddToStage.mono spec_ArePaths.mono spec_l6Has.mono spec_l6Put.mono
set_option maxHeartbeats 8000000 in
set_option maxRecDepth 100000 in
theorem spec_CoverOf.calls (k : Nat) (A0 : Option Addr) (c0 : Nat) (l0 : List (S50)) (r : List (List Int)) (w : World) (hr0 : Kd.C k50 w A0 l0.length l0) (hc0 : l0.length ≤ c0) (h : spec_CoverOf.f k l0 = some r) :
  Calls Try.prog 89 #[.slice A0 l0.length c0] w fun e w' => ∃ v0_ : Value, e = .returned (v0_) ∧ Kd.S (Kd.slice 3 (Kd.int .i64)) 35 w' w.heap.size (fun _ => True) v0_ r ∧ Below w.heap.size w w' := by
 have HR0 := Aside0.mk hr0
 have HC0 := Aside0.mk hc0
 clear hr0 hc0
 have HB := Aside0.mk (Below.refl w.heap.size w)
 have H : (spec_CoverOf.l0 k l0 (([] : List (List Int))) (([] : List Int)) 0) = some r := h
 clear h
 obtain ⟨y345, hy345⟩ : ∃ y_ : List (List Int), y_ = (([] : List (List Int))) := ⟨_, rfl⟩
 replace H : (spec_CoverOf.l0 k l0 y345 (([] : List Int)) 0) = some r := rH H hy345
 have Ny345 := Aside0.mk hy345
 clear hy345
 obtain ⟨y348, hy348⟩ : ∃ y_ : List Int, y_ = (([] : List Int)) := ⟨_, rfl⟩
 replace H : (spec_CoverOf.l0 k l0 y345 y348 0) = some r := rH H hy348
 have Ny348 := Aside0.mk hy348
 clear hy348
 have H' := Aside0.mk H
 clear H
 go_enter Try.func89, Try.ntmps89
 go_wp2_with (first | ((with_reducible refine gate_dst (N := 8) rfl ?_); refine Kd.S_lit (Kd.slice 3 (Kd.int .i64)) _ 35 ?hg (N := 8) ?hd (xs := ([] : List (List Int))) (inner := []) (ok := fun _ => True) (okp := fun _ => True) ?hr ?hp (fun _ hk => hk) trivial (Below.refl _ _) (Nat.le_refl _) (by simp) ?_; (case hd => rfl); (case hg => rfl); (case hr => first | (go_simp; done) | (go_simp; rfl)); (case hp => exact (Reps.none _ _)); intro v346 w2 ho3 hb hg_ hnew_; clear hg_ hnew_; (first | rw [← Ny345.out] at ho3 | (simp only [Int.reduceToNat] at ho3; rw [← Ny345.out] at ho3)); have HO347 := sl w ho3; replace HB := bs HB hb; clear hb ho3) | ((with_reducible refine gate_dst (N := 9) rfl ?_); refine Kd.R_lit (Kd.int .i64) _ 3 ?hg (N := 9) ?hd (xs := ([] : List Int)) (inner := []) (ok := fun _ => True) (okp := fun _ => True) ?hr ?hp (fun _ hk => hk) trivial (Below.refl _ _) (Nat.le_refl _) (by simp) ?_; (case hd => rfl); (case hg => rfl); (case hr => first | (go_simp; done) | (go_simp; rfl)); (case hp => exact (Reps.none _ _)); intro v349 w4 ho5 hb hg_ hnew_; clear hg_ hnew_; (first | rw [← Ny348.out] at ho5 | (simp only [Int.reduceToNat] at ho5; rw [← Ny348.out] at ho5)); replace HO347 := se HO347 ho5 hb; have HO350 := rl w ho5; replace HB := bs HB hb; clear hb ho5))
 go_loopg [3, 4, 5] k (fun kq v3 v4 v5 w' => ∃ (x3_1 : List (List Int)) (x4_1 : List Int) (x5_1 : Int), v5 = .int .i64 x5_1 ∧ Aside0 (spec_CoverOf.l0 kq l0 x3_1 x4_1 x5_1 = some r) ∧ Aside0 (kq ≤ k) ∧ Aside0 (Kd.S (Kd.slice 3 (Kd.int .i64)) 35 w' w.heap.size (n1 v4) v3 x3_1) ∧ Aside0 (Kd.R (Kd.int .i64) 3 w' w.heap.size (fun _ => True) v4 x4_1) ∧ Aside0 (Below w.heap.size w w'))
 case atStart => exact ⟨(y345), (y348), (0), rS, H', ⟨Nat.le_refl _⟩, ⟨sm HO347 (fun _ hk => hk.2)⟩, ⟨rK HO350⟩, ⟨bA⟩⟩
 case round =>
  clear H'
  obtain ⟨x3_1, x4_1, x5_1, rfl, HA, HK1, HO_3, HO_4, HB⟩ := hrel
  cases gk with
  | zero => exact absurd HA.out (by simp [spec_CoverOf.l0])
  | succ k1 =>
   have H := HA.out
   clear HA
   simp only [spec_CoverOf.l0] at H
   have HC6 := Aside0.mk H
   clear H
   go_upto_region 4 with (fail)
   go_cut [17] (fun v17 wc => ∃ (kq : Nat) (x17_5 : Bool), v17 = .bool x17_5 ∧ Aside0 (spec_CoverOf.j1 kq l0 x3_1 x4_1 x5_1 x17_5 = some r) ∧ Aside0 (kq ≤ k1) ∧ Aside0 (Kd.S (Kd.slice 3 (Kd.int .i64)) 35 wc w.heap.size (n1 u4) u3 x3_1) ∧ Aside0 (Kd.R (Kd.int .i64) 3 wc w.heap.size (fun _ => True) u4 x4_1) ∧ Aside0 (Below w.heap.size w wc))
   case first =>
    have H := HC6.out
    clear HC6
    by_cases c7 : x5_1 < (l0.length : Int)
    ·
     rw [if_pos c7] at H
     have c7b0 := decide_eq_true c7
     clear c7
     (first | rw [c7b0] | (simp only [i64_w, i32_w]; rw [c7b0]) | skip)
     obtain ⟨t351, A8, H⟩ := bindE H
     try dsimp only at H
     have H' := Aside0.mk H
     clear H
     go_wp2_with (first | (go_at_call 33; (with_reducible refine (spec_ArePaths.calls k1 _ _ l0 t351 _ ?_ ?_ A8.out).mono ?_); exact cB HR0; exact HC0.out; rintro e w9 ⟨rfl, hb⟩; replace HO_3 := sb HO_3 hb; replace HO_4 := rb HO_4 hb; replace HB := bs HB hb; (try clear hb)))
     go_meet
     case rel => exact ⟨_, (t351), rS, H', ⟨by have := HK1.out; first | omega | exact Nat.le_refl _⟩, ⟨sK HO_3⟩, ⟨rK HO_4⟩, ⟨bA⟩⟩
    rw [if_neg c7] at H
    have c7b0 := decide_eq_false c7
    clear c7
    (first | rw [c7b0] | (simp only [i64_w, i32_w]; rw [c7b0]) | skip)
    have H' := Aside0.mk H
    clear H
    go_wp2
    go_meet
    case rel => exact ⟨_, (false), rS, H', ⟨by have := HK1.out; first | omega | exact Nat.le_refl _⟩, ⟨sK HO_3⟩, ⟨rK HO_4⟩, ⟨bA⟩⟩
   case rest =>
    clear HC6
    obtain ⟨kq, x17_5, rfl, HA, HJ5, HO_3, HO_4, HB⟩ := hcut
    cases kq with
    | zero => exact absurd HA.out (by simp [spec_CoverOf.j1])
    | succ kj5 =>
     have H := HA.out
     clear HA
     simp only [spec_CoverOf.j1] at H
     by_cases c10 : x17_5 = true
     ·
      subst c10
      have H1 : (if 0 ≤ x5_1 then (if x5_1 < (l0.length : Int) then ((spec_l6Has.f kj5 x4_1 ((rd_T50 l0 x5_1).f0)).bind fun t353 => (if t353 = true then (spec_CoverOf.l0 kj5 l0 x3_1 x4_1 (wrap64 (x5_1 + 1))) else ((spec_AddToStage.f kj5 l0 (([(rd_T50 l0 x5_1).f0] : List Int))).bind fun t358 => (if x3_1.length < 5864062014805 then (spec_CoverOf.l1 kj5 l0 (x3_1 ++ [t358]) x4_1 x5_1 t358 0) else (none))))) else (none)) else (none)) = some r := by rw [if_pos rfl] at H; exact H
      clear H
      have H := H1
      clear H1
      have c11 : 0 ≤ x5_1 := ifN H
      replace H := ifT H
      have c11b0 := decide_eq_true c11
      clear c11
      have c12 : x5_1 < (l0.length : Int) := ifN H
      replace H := ifT H
      have c12b0 := decide_eq_true c12
      clear c12
      obtain ⟨t353, A13, H⟩ := bindE H
      try dsimp only at H
      by_cases c14 : t353 = true
      ·
       subst c14
       have H1 : (spec_CoverOf.l0 kj5 l0 x3_1 x4_1 (wrap64 (x5_1 + 1))) = some r := by rw [if_pos rfl] at H; exact H
       clear H
       have H := H1
       clear H1
       have H' := Aside0.mk H
       clear H
       obtain ⟨p352, q352⟩ : 0 ≤ (x5_1 : Int) ∧ x5_1 < (l0.length : Int) := ⟨dA, dA⟩
       obtain ⟨ad352, e352, hx352_0, hx352_1, hx352_2, hx352_3⟩ := at_T50 (Kd.C_below HR0.out HB.out) x5_1 p352 q352
       cases e352
       obtain ⟨p352, q352⟩ := eT p352 q352
       obtain ⟨Ao15, co15, eo15⟩ := Kd.R_slice HO_4.out
       subst eo15
       go_wp2_with (first | ((with_reducible refine gate_callee (f := 133) rfl ?_); refine gL (some 26) Try.func133 #[.slice Ao15 x4_1.length co15, .int .i64 ((rd_T50 l0 x5_1).f0)] ?_; (with_reducible refine (spec_l6Has.calls kj5 _ _ x4_1 ((rd_T50 l0 x5_1).f0) true _ ?_ ?_ A13.out).mono ?_); exact cO ⟨(Kd.R_reads' HO_4.out).2.2⟩; exact (Kd.R_reads' HO_4.out).2.1; rintro e w' ⟨rfl, ⟨nd, rfl⟩⟩; refine ⟨_, rfl, ?_⟩))
       go_roundg kj5
       case measure => have := HK1.out; have := HJ5.out; omega
       case rel => exact ⟨(x3_1), (x4_1), (wrap64 (x5_1 + 1)), rS, H', ⟨by have := HK1.out; have := HJ5.out; omega⟩, ⟨sK HO_3⟩, ⟨rK HO_4⟩, ⟨bA⟩⟩
      replace c14 := Bool.eq_false_iff.mpr c14
      subst c14
      have H1 : ((spec_AddToStage.f kj5 l0 (([(rd_T50 l0 x5_1).f0] : List Int))).bind fun t358 => (if x3_1.length < 5864062014805 then (spec_CoverOf.l1 kj5 l0 (x3_1 ++ [t358]) x4_1 x5_1 t358 0) else (none))) = some r := by rw [if_neg (show ¬ (false = true) by decide)] at H; exact H
      clear H
      have H := H1
      clear H1
      obtain ⟨y355, hy355⟩ : ∃ y_ : List Int, y_ = (([(rd_T50 l0 x5_1).f0] : List Int)) := ⟨_, rfl⟩
      replace H : ((spec_AddToStage.f kj5 l0 y355).bind fun t358 => (if x3_1.length < 5864062014805 then (spec_CoverOf.l1 kj5 l0 (x3_1 ++ [t358]) x4_1 x5_1 t358 0) else (none))) = some r := rH H hy355
      have Ny355 := Aside0.mk hy355
      clear hy355
      obtain ⟨t358, A16, H⟩ := bindE H
      try dsimp only at H
      have c17 : x3_1.length < 5864062014805 := ifN H
      replace H := ifT H
      have LMc17 := Aside0.mk c17
      clear c17
      obtain ⟨y361, hy361⟩ : ∃ y_ : List (List Int), y_ = (x3_1 ++ [t358]) := ⟨_, rfl⟩
      replace H : (spec_CoverOf.l1 kj5 l0 y361 x4_1 x5_1 t358 0) = some r := rH H hy361
      have Ny361 := Aside0.mk hy361
      clear hy361
      have H' := Aside0.mk H
      clear H
      obtain ⟨p352, q352⟩ : 0 ≤ (x5_1 : Int) ∧ x5_1 < (l0.length : Int) := ⟨dA, dA⟩
      obtain ⟨ad352, e352, hx352_0, hx352_1, hx352_2, hx352_3⟩ := at_T50 (Kd.C_below HR0.out HB.out) x5_1 p352 q352
      cases e352
      obtain ⟨p352, q352⟩ := eT p352 q352
      obtain ⟨Ao18, co18, eo18⟩ := Kd.R_slice HO_4.out
      subst eo18
      go_wp2_with (first | ((with_reducible refine gate_callee (f := 133) rfl ?_); refine gL (some 26) Try.func133 #[.slice Ao18 x4_1.length co18, .int .i64 ((rd_T50 l0 x5_1).f0)] ?_; (with_reducible refine (spec_l6Has.calls kj5 _ _ x4_1 ((rd_T50 l0 x5_1).f0) false _ ?_ ?_ A13.out).mono ?_); exact cO ⟨(Kd.R_reads' HO_4.out).2.2⟩; exact (Kd.R_reads' HO_4.out).2.1; rintro e w' ⟨rfl, ⟨nd, rfl⟩⟩; refine ⟨_, rfl, ?_⟩; have p354 : 0 ≤ (x5_1 : Int) := dA; have q354 : x5_1 < (l0.length : Int) := dA; obtain ⟨ad354, e354, hx354_0, hx354_1, hx354_2, hx354_3⟩ := at_T50 HR0.out x5_1 p354 q354; obtain rfl : ad352 = ad354 := (by injection e354); replace hx354_0 := hC HB hx354_0; replace hx354_1 := hC HB hx354_1; replace hx354_2 := hC HB hx354_2; replace hx354_3 := hC HB hx354_3; replace p354 := eq_true p354; replace q354 := eq_true q354) | ((with_reducible refine gate_dst (N := 33) rfl ?_); refine Kd.R_lit (Kd.int .i64) _ 3 ?hg (N := 33) ?hd (xs := ([(rd_T50 l0 x5_1).f0] : List Int)) (inner := [.int .i64 ((rd_T50 l0 x5_1).f0)]) (ok := fun _ => True) (okp := fun _ => True) ?hr ?hp (fun _ hk => hk) trivial (Below.refl _ _) (Nat.le_refl _) (by simp) ?_; (case hd => rfl); (case hg => rfl); (case hr => first | (go_simp; done) | (go_simp; rfl)); (case hp => exact (Reps.one (show Kd.M (Kd.int .i64) _ _ _ ((rd_T50 l0 x5_1).f0) [.int .i64 ((rd_T50 l0 x5_1).f0)] from rfl) (Reps.none _ _))); intro v356 w19 ho20 hb hg_ hnew_; clear hg_ hnew_; (first | rw [← Ny355.out] at ho20 | (simp only [Int.reduceToNat] at ho20; rw [← Ny355.out] at ho20)); replace HO_3 := se HO_3 ho20 hb; have HO357 := rl w (rn ho20 HO_4); replace HO_4 := re HO_4 ho20 hb; replace HB := bs HB hb; clear hb ho20; obtain ⟨Ao21, co21, eo21⟩ := Kd.R_slice HO357.out; subst eo21) | ((with_reducible refine gate_callee (f := 134) rfl ?_); refine gL (some 34) Try.func134 #[.slice (some ad352) l0.length c0, .slice Ao21 y355.length co21] ?_; (with_reducible refine (spec_AddToStage.calls kj5 _ _ l0 _ _ y355 t358 _ ?_ ?_ ?_ ?_ A16.out).mono ?_); exact cB HR0; exact HC0.out; exact cO ⟨(Kd.R_reads' HO357.out).2.2⟩; exact (Kd.R_reads' HO357.out).2.1; rintro e w22 ⟨v359, rfl, ho0, hb⟩; refine ⟨_, rfl, ?_⟩; replace HO_3 := se HO_3 ho0 hb; have HO360 := rl w (rn (rn ho0 HO_4) HO357); replace HO_4 := re HO_4 ho0 hb; replace HO357 := re HO357 ho0 hb; replace HB := bs HB hb; (try clear hb); (try clear ho0); obtain ⟨Ao24, co24, eo24⟩ := Kd.R_slice HO360.out; subst eo24) | ((with_reducible refine gate_builtin (b := .append) (xs := #[.tmp 35, .tmp 37]) rfl ?_); at_builtin; refine Kd.S_append (Kd.slice 3 (Kd.int .i64)) (w0 := w) w.heap.size rfl (.tmp 35) (.tmp 37) 103 35 (.slice none 0 0) 24 rfl Try.underlying103 info35 rfl (by decide) (by omega) u3 x3_1 t358 [.slice Ao24 t358.length co24] (n2 (.slice Ao18 x4_1.length co18) (.slice Ao21 y355.length co21)) (fun k_ => some k_ = (.slice Ao24 t358.length co24 : Value).ownBlock) rfl rfl ?aP (fun k_ hk_ => ((Kd.R_mono (ok' := fun k_ => ((n2 (.slice Ao18 x4_1.length co18) (.slice Ao21 y355.length co21))) k_ ∧ some k_ ≠ (u3 : Value).ownBlock) (Kd.R_apart' (HO360.out) (Kd.S_typed HO_3.out) (by decide)) (fun k_ hk => ⟨⟨hk.1.1.2, hk.1.2⟩, hk.2⟩))).1 k_ hk_.symm) ?aF ?aO ?aB ?aS ?aL ?_; (case aP => exact Kd.M_row (Kd.R_mono (Kd.R_tight rfl (Kd.R_mono (ok' := fun k_ => ((n2 (.slice Ao18 x4_1.length co18) (.slice Ao21 y355.length co21))) k_ ∧ some k_ ≠ (u3 : Value).ownBlock) (Kd.R_apart' (HO360.out) (Kd.S_typed HO_3.out) (by decide)) (fun k_ hk => ⟨⟨hk.1.1.2, hk.1.2⟩, hk.2⟩))) (fun _ h_ => h_))); (case aB => exact bA); (case aF => exact (fun k_ hk => ⟨Kd.fresh' (Kd.R_lt (rK HO_4)) k_ hk, Kd.fresh' (Kd.R_lt (rK HO357)) k_ hk⟩)); (case aO => exact (sm HO_3 (fun k_ hk => ⟨⟨hk.1.1, hk.1.2⟩, fun e_ => hk.2 e_⟩))); (case aS => exact (below_size bA)); (case aL => have := LMc17.out; omega); intro v362 w23 ho hb hg hat; rw [← Ny361.out] at ho; have n0_ := Aside0.mk (Kd.R_over' (rK HO_4) (Kd.S_typed (sK HO_3)) (by decide) hg); have n1_ := Aside0.mk (Kd.R_over' (rK HO357) (Kd.S_typed (sK HO_3)) (by decide) hg); have n2_ := Aside0.mk (Kd.R_over' (rK HO360) (Kd.S_typed (sK HO_3)) (by decide) hg); have n3_ := Aside0.mk (hb); have n4_ := Aside0.mk (ho); clear HO_4; clear HO357; clear HO360; clear HB; clear HO_3; have HO_4 := n0_; have HO357 := n1_; have HO360 := n2_; have HB := n3_; have HO363 := n4_; clear n0_ n1_ n2_ n3_ n4_; clear ho hb hg hat))
      go_loopg [4, 7] kj5 (fun kq v4 v7 w' => ∃ (x4_3 : List Int) (x7_3 : Int), v7 = .int .i64 x7_3 ∧ Aside0 (spec_CoverOf.l1 kq l0 y361 x4_3 x5_1 t358 x7_3 = some r) ∧ Aside0 (kq ≤ kj5) ∧ Aside0 (Kd.S (Kd.slice 3 (Kd.int .i64)) 35 w' w.heap.size (n1 v4) v362 y361) ∧ Aside0 (Kd.R (Kd.int .i64) 3 w' w.heap.size (n1 (.slice Ao24 t358.length co24)) v4 x4_3) ∧ Aside0 (Kd.R (Kd.int .i64) 3 w' w.heap.size (n1 v4) (.slice Ao24 t358.length co24) t358) ∧ Aside0 (Below w.heap.size w w'))
      case atStart => exact ⟨(x4_1), (0), rS, H', ⟨Nat.le_refl _⟩, ⟨sm HO363 (fun _ hk => hk.1)⟩, ⟨rm HO_4 (fun _ hk => hk.2)⟩, ⟨rm HO360 (fun _ hk => hk.1.2)⟩, ⟨bA⟩⟩
      case round =>
       clear H'
       obtain ⟨x4_3, x7_3, rfl, HA, HK3, HO_3, HO_4, HO_6, HB⟩ := hrel
       cases gk with
       | zero => exact absurd HA.out (by simp [spec_CoverOf.l1])
       | succ k3 =>
        have H := HA.out
        clear HA
        simp only [spec_CoverOf.l1] at H
        by_cases c25 : x7_3 < (t358.length : Int)
        ·
         rw [if_pos c25] at H
         have c25b0 := decide_eq_true c25
         clear c25
         have c26 : 0 ≤ x7_3 := ifN H
         replace H := ifT H
         have c26b0 := decide_eq_true c26
         clear c26
         obtain ⟨t365, A27, H⟩ := bindE H
         try dsimp only at H
         have H' := Aside0.mk H
         clear H
         obtain ⟨p364, q364⟩ : 0 ≤ (x7_3 : Int) ∧ x7_3 < (t358.length : Int) := ⟨dA, dA⟩
         obtain ⟨ad364, e364, hx364_0⟩ := Kd.at_int (Kd.R_reads' HO_6.out).2.2 x7_3 p364 q364
         cases e364
         obtain ⟨p364, q364⟩ := eT p364 q364
         obtain ⟨Ao28, co28, eo28⟩ := Kd.R_slice HO_4.out
         subst eo28
         go_wp2_with (first | ((with_reducible refine gate_callee (f := 135) rfl ?_); refine gL (some 50) Try.func135 #[.slice Ao28 x4_3.length co28, .int .i64 (rd t358 x7_3)] ?_; (with_reducible refine (spec_l6Put.calls k3 _ _ x4_3 (rd t358 x7_3) t365 _ ?_ ?_ A27.out).mono ?_); exact cO ⟨(Kd.R_reads' HO_4.out).2.2⟩; exact (Kd.R_reads' HO_4.out).2.1; rintro e w29 ⟨v366, rfl, ho0, hb⟩; refine ⟨_, rfl, ?_⟩; replace HO_3 := se HO_3 ho0 hb; have HO367 := rl w (rn (rn ho0 HO_4) HO_6); replace HO_4 := re HO_4 ho0 hb; replace HO_6 := re HO_6 ho0 hb; replace HB := bs HB hb; (try clear hb); (try clear ho0)))
         go_roundg k3
         case measure => have := HK1.out; have := HJ5.out; have := HK3.out; omega
         case rel => exact ⟨(t365), (wrap64 (x7_3 + 1)), rS, H', ⟨by have := HK1.out; have := HJ5.out; have := HK3.out; omega⟩, ⟨sm HO_3 (fun _ hk => hk.2)⟩, ⟨rm HO367 (fun _ hk => hk.2)⟩, ⟨rm HO_6 (fun _ hk => hk.2)⟩, ⟨bA⟩⟩
        rw [if_neg c25] at H
        have c25b0 := decide_eq_false c25
        clear c25
        have H' := Aside0.mk H
        clear H
        go_wp2
        go_roundg k3
        case measure => have := HK1.out; have := HJ5.out; have := HK3.out; omega
        case rel => exact ⟨(y361), (x4_3), (wrap64 (x5_1 + 1)), rS, H', ⟨by have := HK1.out; have := HJ5.out; have := HK3.out; omega⟩, ⟨sK HO_3⟩, ⟨rm HO_4 (fun _ hk => trivial)⟩, ⟨bA⟩⟩
     replace c10 := Bool.eq_false_iff.mpr c10
     subst c10
     have H1 : (some x3_1) = some r := by rw [if_neg (show ¬ (false = true) by decide)] at H; exact H
     clear H
     have H := H1
     clear H1
     obtain rfl := Option.some.inj H
     go_wp2
     go_ret
     exact ⟨_, rA, sm HO_3 (fun _ hk => trivial), bA⟩

/-! ### spec_PlanFor: function 151 -/
def spec_PlanFor.l0 : Nat → List (S50) → List (S85) → List (List Int) → Int → Option ((List (S85)))
 | 0, _, _, _, _ => none
 | k + 1, x0, x3, x4, x5 => if x5 < (x4.length : Int) then (if 0 ≤ x5 then ((spec_LeastGreen.f k x0 (rd_L4 x4 x5)).bind fun t376 => (if x3.length < 4398046511104 then (spec_PlanFor.l0 k x0 (x3 ++ [(⟨rd_L4 x4 x5, t376⟩ : S85)]) x4 (wrap64 (x5 + 1))) else (none))) else (none)) else ((spec_IsPlan.f k x0 x3).bind fun t380 => (if t380 = true then (some x3) else (some (([] : List (S85))))))
def spec_PlanFor.f (k : Nat) (l0 : List (S50)) : Option ((List (S85))) := (spec_CoverOf.f k l0).bind fun t371 => (spec_PlanFor.l0 k l0 (([] : List (S85))) t371 0)
theorem spec_PlanFor.mono_l : ∀ k, (∀ y0 y1 y2 y3, LeO (spec_PlanFor.l0 k y0 y1 y2 y3) (spec_PlanFor.l0 (k + 1) y0 y1 y2 y3))
 | 0 => fun _ _ _ _ r h => by simp [spec_PlanFor.l0] at h
 | k + 1 => by
  have ih0 := spec_PlanFor.mono_l k
  ·
   intro y0 y1 y2 y3
   unfold spec_PlanFor.l0
   exact mz4 ih0 spec_CoverOf.mono spec_IsPlan.mono spec_LeastGreen.mono
theorem spec_PlanFor.mono : ∀ a0 k, LeO (spec_PlanFor.f k a0) (spec_PlanFor.f (k + 1) a0) := by
 intro a0 k
 have ih0 := spec_PlanFor.mono_l k
 unfold spec_PlanFor.f
 exact mz4 ih0 spec_CoverOf.mono spec_IsPlan.mono spec_LeastGreen.mono
def spec_PlanFor.T6 : Bool × List (List Nat × List Nat) := (true, [([], []), ([], []), ([], []), ([1, 2], [1, 2]), ([3], [3]), ([], []), ([], []), ([], []), ([6, 7], [6, 7]), ([8], [8]), ([5, 9], [5, 9]), ([4, 10], [4, 10]), ([11], [11]), ([0, 12, 10], [0, 12]), ([13, 13, 0, 1, 2, 3, 4, 5, 6, 7, 8, 9, 10, 11, 12, 13], [0, 13])])
def spec_PlanFor.B6 : List Nat := [0, 0, 0, 6, 14, 0, 0, 0, 192, 448, 992, 2046, 4094, 8191, 16383]
theorem spec_PlanFor.tab6 : rtab .any (opsOf Try.f151 6) = spec_PlanFor.T6 := by kernel_rfl
theorem spec_PlanFor.bits6 : waitsOk spec_PlanFor.T6.2 spec_PlanFor.B6 = true := by kernel_rfl
theorem spec_PlanFor.retag {α β : Type} {d : Kd α} {d' : Kd β} {e base : Nat} {w : World} {ok : Nat → Prop} {v : Value} (hs : d'.sz = d.sz) (h : d.R e w base ok v ([] : List α)) : d'.R e w base ok v ([] : List β) := by
  obtain ⟨h0, inner, ho, hr⟩ := h
  have hi : inner = [] := List.eq_nil_of_length_eq_zero (by rw [hr.1]; simp)
  subst hi
  exact ⟨h0, [], by rw [hs]; exact ho, ⟨by simp, fun j p hj => by simp at hj⟩⟩
theorem spec_PlanFor.toS {α : Type} {d : Kd α} {f : Nat → Nat} {e base : Nat} {w : World} {ok : Nat → Prop} {v : Value} {xs : List α} (h : (Kd.tag f d).R e w base ok v xs.zipIdx) : Kd.S d e w base ok v xs := ⟨f, h⟩
theorem spec_PlanFor.nilS {α : Type} {d : Kd α} {e base : Nat} {w : World} {ok : Nat → Prop} {v : Value} (h : d.R e w base ok v ([] : List α)) : Kd.S d e w base ok v ([] : List α) := ⟨fun _ => 0, (spec_PlanFor.retag (d := d) (d' := Kd.tag (fun _ => 0) d) rfl h : (Kd.tag (fun _ => 0) d).R e w base ok v ([] : List (α × Nat)))⟩
theorem spec_PlanFor.el {f : Nat → Nat} {e base n c : Nat} {w : World} {ok : Nat → Prop} {ad : Addr} {xs : List (List Int)} (h : (Kd.tag f (Kd.slice 3 (Kd.int .i64))).R e w base ok (.slice (some ad) n c) xs.zipIdx) (j : Nat) (hj : j < xs.length) :
    ∃ v, w.cell? (ad.add j) = some v ∧ (Kd.int .i64).R 3 w base (fun k => (ok k ∧ some k ≠ (Value.slice (some ad) n c).ownBlock) ∧ f k = j) v (xs.getD j ([] : List Int)) := by
  have h1 := Kd.R_reads' (Kd.S_R (spec_PlanFor.toS h))
  obtain ⟨h0, inner, ho, hr⟩ := h
  have h2 := hr.2 j (xs[j], j) (Kd.zip_at (List.getElem?_eq_getElem hj))
  obtain ⟨v, hv, hR⟩ := h2
  have e1 : xs.getD j ([] : List Int) = xs[j] := by simp [List.getD_eq_getElem?_getD, List.getElem?_eq_getElem hj]
  have hi : inner[j]? = some v := by
    have h3 : ((inner.drop (j * 1)).take 1)[0]? = some v := by
      rw [show (inner.drop (j * 1)).take 1 = [v] from hv]
      rfl
    rw [List.getElem?_take, if_pos (by decide), List.getElem?_drop] at h3
    simpa using h3
  refine ⟨v, ?_, by rw [e1]; exact hR⟩
  rcases ho.2 with ⟨hq, _⟩ | ⟨g, c', cur, hq, _, hh, _, _, _, ht⟩
  · cases hq
  · injection hq with ha _ _
    injection ha with ha
    subst ha
    rw [add_at, cell_of_row w g _ cur e (0, 0) hh, ← Array.getElem?_toList]
    have ht' : cur.toList.take (xs.zipIdx.length * 1) = inner := ht
    rw [← ht', List.getElem?_take] at hi
    split at hi
    · simpa using hi
    · cases hi
set_option maxHeartbeats 8000000 in
set_option maxRecDepth 100000 in
theorem spec_PlanFor.calls (k : Nat) (A0 : Option Addr) (c0 : Nat) (l0 : List (S50)) (r : List (S85)) (w : World) (hr0 : Kd.C k50 w A0 l0.length l0) (hc0 : l0.length ≤ c0) (h : spec_PlanFor.f k l0 = some r) :
  Calls Try.prog 151 #[.slice A0 l0.length c0] w fun e w' => ∃ v0_ : Value, e = .returned (v0_) ∧ Kd.S k85 85 w' w.heap.size (fun _ => True) v0_ r ∧ Below w.heap.size w w' := by
 have hu85 := Try.underlying85
 have HR0 := Aside0.mk hr0
 have HC0 := Aside0.mk hc0
 clear hr0 hc0
 have HB := Aside0.mk (Below.refl w.heap.size w)
 have H : ((spec_CoverOf.f k l0).bind fun t371 => (spec_PlanFor.l0 k l0 (([] : List (S85))) t371 0)) = some r := h
 clear h
 obtain ⟨y368, hy368⟩ : ∃ y_ : List (S85), y_ = (([] : List (S85))) := ⟨_, rfl⟩
 replace H : ((spec_CoverOf.f k l0).bind fun t371 => (spec_PlanFor.l0 k l0 y368 t371 0)) = some r := rH H hy368
 have Ny368 := Aside0.mk hy368
 clear hy368
 obtain ⟨t371, A2, H⟩ := bindE H
 try dsimp only at H
 have H' := Aside0.mk H
 clear H
 go_enter Try.func151, Try.ntmps151
 go_wp2_with (first | ((with_reducible refine gate_dst (N := 6) rfl ?_); refine Kd.R_lit k85 _ 85 ?hg (N := 6) ?hd (xs := ([] : List (S85))) (inner := []) (ok := fun _ => True) (okp := fun _ => True) ?hr ?hp (fun _ hk => hk) trivial (Below.refl _ _) (Nat.le_refl _) (by simp) ?_; (case hd => rfl); (case hg => rfl); (case hr => first | (go_simp; done) | (go_simp; rfl)); (case hp => exact (Reps.none _ _)); intro v369 w3 ho4 hb hg_ hnew_; clear hg_ hnew_; have HO370 := rl w ho4; replace HB := bs HB hb; clear hb ho4) | ((with_reducible refine gate_callee (f := 89) rfl ?_); refine gL (some 8) Try.func89 #[.slice A0 l0.length c0] ?_; (with_reducible refine (spec_CoverOf.calls k _ _ l0 t371 _ ?_ ?_ A2.out).mono ?_); exact cB HR0; exact HC0.out; rintro e w5 ⟨v372, rfl, ⟨f_, ho0⟩, hb⟩; refine ⟨_, rfl, ?_⟩; have HO373 := rl w (Kd.R_mono (ok' := fun k_ => True ∧ some k_ ≠ (v369 : Value).ownBlock) (Kd.R_bound ho0) (fun k_ hk_ => ⟨trivial, fun e_ => Nat.not_lt.2 hk_.2.1 (Kd.R_lt (rK HO370) k_ e_.symm)⟩)); replace HO370 := Aside0.mk (spec_PlanFor.retag (d := k85) (d' := Kd.tag f_ k85) rfl (Kd.R_below (rK HO370) hb)); replace HB := bs HB hb; (try clear hb); (try clear ho0)))
 go_loopg [3, 5] k (fun kq v3 v5 w' => ∃ (x3_1 : List (S85)) (x5_1 : Int), v5 = .int .i64 x5_1 ∧ Aside0 (spec_PlanFor.l0 kq l0 x3_1 t371 x5_1 = some r) ∧ Aside0 (kq ≤ k) ∧ Aside0 ((Kd.tag f_ k85).R 85 w' w.heap.size (fun _ => True) v3 x3_1.zipIdx) ∧ Aside0 ((Kd.tag f_ (Kd.slice 3 (Kd.int .i64))).R 35 w' w.heap.size (fun k_ => True ∧ some k_ ≠ (v3 : Value).ownBlock) v372 t371.zipIdx) ∧ Aside0 ((x3_1.length : Int) = x5_1) ∧ Aside0 (Below w.heap.size w w'))
 case atStart => exact ⟨(y368), (0), rS, H', ⟨Nat.le_refl _⟩, ⟨by rw [Ny368.out]; (with_reducible repeat (first | apply Kd.R_alloc | apply Kd.R_drewN | apply Kd.R_drew)); exact HO370.out⟩, ⟨rK HO373⟩, ⟨by rw [Ny368.out]; rfl⟩, ⟨bA⟩⟩
 case round =>
  clear H'
  obtain ⟨x3_1, x5_1, rfl, HA, HK1, HO_3, HO_4, HN, HB⟩ := hrel
  cases gk with
  | zero => exact absurd HA.out (by simp [spec_PlanFor.l0])
  | succ k1 =>
   have H := HA.out
   clear HA
   simp only [spec_PlanFor.l0] at H
   by_cases c6 : x5_1 < (t371.length : Int)
   ·
    rw [if_pos c6] at H
    have c6b0 := decide_eq_true c6
    clear c6
    have c7 : 0 ≤ x5_1 := ifN H
    replace H := ifT H
    have c7b0 := decide_eq_true c7
    clear c7
    obtain ⟨t376, A8, H⟩ := bindE H
    try dsimp only at H
    have c9 : x3_1.length < 4398046511104 := ifN H
    replace H := ifT H
    have LMc9 := Aside0.mk c9
    clear c9
    obtain ⟨y377, hy377⟩ : ∃ y_ : List (S85), y_ = (x3_1 ++ [(⟨rd_L4 t371 x5_1, t376⟩ : S85)]) := ⟨_, rfl⟩
    replace H : (spec_PlanFor.l0 k1 l0 y377 t371 (wrap64 (x5_1 + 1))) = some r := rH H hy377
    have Ny377 := Aside0.mk hy377
    clear hy377
    have H' := Aside0.mk H
    clear H
    obtain ⟨Ao10, co10, eo10⟩ := Kd.R_slice HO_4.out
    rw [List.length_zipIdx] at eo10
    subst eo10
    try go_wp2
    replace HO_3 := dr HO_3
    replace HO_4 := dr HO_4
    have HBo := HB
    replace HB := db HB
    obtain ⟨p374, q374⟩ : 0 ≤ (x5_1 : Int) ∧ x5_1 < (t371.length : Int) := ⟨dA, dA⟩
    obtain ⟨ad374, A374_0, c374_0, e374, hx374_0, hl374_0, hi374_0⟩ := at_L4 (Kd.R_reads' (Kd.S_R (spec_PlanFor.toS HO_4.out))).2.2 x5_1 p374 q374
    cases e374
    obtain ⟨ve374, hve374, hRe374⟩ := spec_PlanFor.el HO_4.out x5_1.toNat (by omega)
    obtain rfl := Option.some.inj (hve374.symm.trans hx374_0)
    have HL374_0 := Aside0.mk (hRe374)
    have HR374_0 := Aside0.mk hi374_0
    have HC374_0 := Aside0.mk hl374_0
    clear hi374_0 hl374_0
    obtain ⟨p374, q374⟩ := eT p374 q374
    obtain ⟨p375, q375⟩ : 0 ≤ (x5_1 : Int) ∧ x5_1 < (t371.length : Int) := ⟨dA, dA⟩
    obtain ⟨ad375, A375_0, c375_0, e375, hx375_0, hl375_0, hi375_0⟩ := at_L4 (Kd.R_reads' (Kd.S_R (spec_PlanFor.toS HO_4.out))).2.2 x5_1 p375 q375
    obtain rfl : ad374 = ad375 := (by injection e375)
    obtain ⟨ve375, hve375, hRe375⟩ := spec_PlanFor.el HO_4.out x5_1.toNat (by omega)
    obtain rfl := Option.some.inj (hve375.symm.trans hx375_0)
    have HL375_0 := Aside0.mk (hRe375)
    have HR375_0 := Aside0.mk hi375_0
    have HC375_0 := Aside0.mk hl375_0
    clear hi375_0 hl375_0
    obtain ⟨p375, q375⟩ := eT p375 q375
    have ea_ := Option.some.inj (hx374_0.symm.trans hx375_0)
    injection ea_ with ea_ en_ ec_
    subst ea_
    subst ec_
    clear en_
    refine start_ (n := 15) (S := fun w' => w'.cell? (ad374.add (x5_1).toNat) = some (.slice A374_0 (rd_L4 t371 x5_1).length c374_0) ∧ w'.cell? (ad374.add (x5_1).toNat) = some (.slice A374_0 (rd_L4 t371 x5_1).length c374_0)) (ds := [12, 13]) (mb 15 0) (by kernel_rfl) rfl rfl ⟨hx374_0, hx375_0⟩ (fun hHeld => ?_); refine with_tabW spec_PlanFor.tab6 spec_PlanFor.bits6 (fun HT_ HW_ => ?_)
    generalize wr.drew = w11 at HO_3 HO_4 HB HL374_0 HL375_0 HR374_0 HR375_0 hx374_0 hx375_0 hHeld ⊢
    refine pa 0 15 (mb 15 1) HT_ ?_
    refine pa 1 16 (mb 15 3) HT_ ?_
    refine pa 2 17 (mb 15 7) HT_ ?_
    refine pa 3 18 (mb 15 15) HT_ ?_
    refine pa 5 20 (mb 15 47) HT_ ?_
    refine pa 6 21 (mb 15 111) HT_ ?_
    refine pa 7 22 (mb 15 239) HT_ ?_
    refine pa 8 23 (mb 15 495) HT_ ?_
    refine ta2 4 19 (mb 15 511) HT_ HW_ hHeld ?_
    refine ta2 9 24 (mb 15 1023) HT_ HW_ hHeld ?_
    refine oa 10 25 (mb 15 2047) HT_ (fun K hK => ?_)
    refine gA Try.func113 #[.slice A0 l0.length c0, .slice A374_0 (rd_L4 t371 x5_1).length c374_0] ?_
    with_reducible refine (spec_LeastGreen.calls k1 _ _ l0 _ _ (rd_L4 t371 x5_1) t376 _ ?side1 ?side2 ?side3 ?side4 A8.out).mono ?_
    (case side1 => exact cB HR0)
    (case side2 => exact HC0.out)
    (case side3 => repeat (first | exact (by repeat (first | (with_reducible exact HR375_0.out) | (with_reducible refine Kd.C_alloc ?_ _) | (with_reducible refine Kd.C_drewN ?_ _) | (with_reducible refine Kd.C_drew ?_) | exact HR375_0.out)) | (with_reducible refine Kd.C_alloc ?_ _) | (with_reducible refine Kd.C_drewN ?_ _) | (with_reducible refine Kd.C_drew ?_)))
    (case side4 => exact HC375_0.out)
    rintro e w' ⟨rfl, ⟨nd, rfl⟩⟩
    refine ⟨_, rfl, ?_⟩
    refine hK.out _ _ ⟨hHeld.1, hHeld.2⟩ (fun hHeld => ?_)
    clear hK K
    refine nB ?_
    refine pa 11 26 (mb 15 4095) HT_ ?_
    refine last_ (i := 12) (N := some 27) (mb 15 8191) rfl rfl (one_of HT_.out (by kernel_rfl)) (by decide) (fun K hK => ?_)
    refine value_ (w1 := ?_) (v := ?_) (by rfl) rfl ?_ ?_
    rotate_left 2
    ·
     go_simp
     constructor
     ·
      rfl
     ·
      rfl
    refine hK.out _ _ ?_
    clear hK K
    refine nB ?_
    refine last_ (i := 13) (N := some 28) (mb 15 16383) rfl rfl (one_of HT_.out (by kernel_rfl)) (by decide) (fun K hK => ?_)
    refine Kd.R_append_step (Kd.tag f_ k85) (w0 := w) w.heap.size (by rfl) (.tmp 15) (.tmp 27) 25 85 (.agg #[(.slice none 0 0), (.int .i64 0)]) 32 rfl Try.underlying25 info85 rfl (show 0 < k85.sz by decide) (by omega) u3 x3_1.zipIdx ((⟨rd_L4 t371 x5_1, t376⟩ : S85), x3_1.length) [.slice A374_0 (rd_L4 t371 x5_1).length c374_0, .int .i64 t376] (fun _ => True) (n1 u3) rfl rfl ?aP (fun _ hk => ⟨trivial, hk⟩) (fun _ _ => trivial) ?aO ?aB ?aS ?aL ?_
    (case aP => have hz_ := Kd.R_mono HL374_0.out (fun k_ hk => (⟨hk.1.1.2, hk.2.trans (by have := HN.out; omega)⟩ : some k_ ≠ (u3 : Value).ownBlock ∧ f_ k_ = x3_1.length)); exact (show k85.M _ _ (fun k_ => some k_ ≠ (u3 : Value).ownBlock ∧ f_ k_ = x3_1.length) _ _ from k85_mkM _ _ _ (⟨rd_L4 t371 x5_1, t376⟩ : S85) (by (with_reducible repeat (first | apply Kd.R_alloc | apply Kd.R_drewN | apply Kd.R_drew)); exact hz_)))
    (case aB => exact bA)
    (case aO => exact (rK HO_3))
    (case aS => exact (below_size bA))
    (case aL => have := LMc9.out; rw [List.length_zipIdx]; omega)
    intro v378 w12 ho hb hg hat
    rw [← Kd.zip_snoc, ← Ny377.out] at ho
    have n0_ := Aside0.mk (Kd.R_after (ok := fun _ => True) (rK HO_4) hg hat)
    have n1_ := HL374_0
    have n2_ := HL375_0
    have n3_ := Aside0.mk (hb)
    have n4_ := Aside0.mk (ho)
    clear HO_4
    clear HL374_0
    clear HL375_0
    clear HB
    clear HO_3
    have HO_4 := n0_
    have HL374_0 := n1_
    have HL375_0 := n2_
    have HB := n3_
    have HO379 := n4_
    clear n0_ n1_ n2_ n3_ n4_
    clear ho hb hg hat
    refine hK.out _ _ ?_
    clear hK K
    refine nB ?_
    refine pa 14 3 (mb 15 32767) HT_ ?_
    refine eA HT_ ?_
    try go_wp2
    go_roundg k1
    case measure => have := HK1.out; omega
    case rel => exact ⟨(y377), (wrap64 (x5_1 + 1)), rS, H', ⟨by have := HK1.out; omega⟩, ⟨rK HO379⟩, ⟨rK HO_4⟩, ⟨by (have h1_ := HN.out; have h2_ := LMc9.out; rw [Ny377.out, List.length_append, List.length_singleton]; unfold wrap64; omega)⟩, ⟨bA⟩⟩
   rw [if_neg c6] at H
   have c6b0 := decide_eq_false c6
   clear c6
   obtain ⟨t380, A13, H⟩ := bindE H
   try dsimp only at H
   by_cases c14 : t380 = true
   ·
    subst c14
    have H1 : (some x3_1) = some r := by rw [if_pos rfl] at H; exact H
    clear H
    have H := H1
    clear H1
    obtain rfl := Option.some.inj H
    obtain ⟨Ao15, co15, eo15⟩ := Kd.R_slice HO_4.out
    rw [List.length_zipIdx] at eo15
    subst eo15
    obtain ⟨Ao16, co16, eo16⟩ := Kd.R_slice HO_3.out
    rw [List.length_zipIdx] at eo16
    subst eo16
    go_wp2_with (first | ((with_reducible refine gate_callee (f := 61) rfl ?_); refine gL (some 31) Try.func61 #[.slice A0 l0.length c0, .slice Ao16 x3_1.length co16] ?_; (with_reducible refine (spec_IsPlan.calls k1 _ _ l0 _ _ x3_1 true _ ?_ ?_ ?_ ?_ A13.out).mono ?_); exact cB HR0; exact HC0.out; (focus repeat (first | exact (Kd.R_reads' (Kd.S_R (spec_PlanFor.toS HO_3.out))).2.2 | (with_reducible refine Kd.C_alloc ?_ _) | (with_reducible refine Kd.C_drewN ?_ _) | (with_reducible refine Kd.C_drew ?_))); exact (Kd.R_reads' (Kd.S_R (spec_PlanFor.toS HO_3.out))).2.1; rintro e w17 ⟨rfl, hb⟩; refine ⟨_, rfl, ?_⟩; replace HO_3 := rb HO_3 hb; replace HO_4 := rb HO_4 hb; replace HB := bs HB hb; (try clear hb)))
    go_ret
    exact ⟨_, rA, spec_PlanFor.toS (rK HO_3), bA⟩
   replace c14 := Bool.eq_false_iff.mpr c14
   subst c14
   have H1 : (some (([] : List (S85)))) = some r := by rw [if_neg (show ¬ (false = true) by decide)] at H; exact H
   clear H
   have H := H1
   clear H1
   obtain ⟨y381, hy381⟩ : ∃ y_ : List (S85), y_ = (([] : List (S85))) := ⟨_, rfl⟩
   replace H : (some y381) = some r := rH H hy381
   have Ny381 := Aside0.mk hy381
   clear hy381
   obtain rfl := Option.some.inj H
   obtain ⟨Ao18, co18, eo18⟩ := Kd.R_slice HO_4.out
   rw [List.length_zipIdx] at eo18
   subst eo18
   obtain ⟨Ao19, co19, eo19⟩ := Kd.R_slice HO_3.out
   rw [List.length_zipIdx] at eo19
   subst eo19
   go_wp2_with (first | ((with_reducible refine gate_callee (f := 61) rfl ?_); refine gL (some 31) Try.func61 #[.slice A0 l0.length c0, .slice Ao19 x3_1.length co19] ?_; (with_reducible refine (spec_IsPlan.calls k1 _ _ l0 _ _ x3_1 false _ ?_ ?_ ?_ ?_ A13.out).mono ?_); exact cB HR0; exact HC0.out; (focus repeat (first | exact (Kd.R_reads' (Kd.S_R (spec_PlanFor.toS HO_3.out))).2.2 | (with_reducible refine Kd.C_alloc ?_ _) | (with_reducible refine Kd.C_drewN ?_ _) | (with_reducible refine Kd.C_drew ?_))); exact (Kd.R_reads' (Kd.S_R (spec_PlanFor.toS HO_3.out))).2.1; rintro e w20 ⟨rfl, hb⟩; refine ⟨_, rfl, ?_⟩; replace HO_3 := rb HO_3 hb; replace HO_4 := rb HO_4 hb; replace HB := bs HB hb; (try clear hb)) | ((with_reducible refine gate_dst (N := 33) rfl ?_); refine Kd.R_lit k85 _ 85 ?hg (N := 33) ?hd (xs := ([] : List (S85))) (inner := []) (ok := fun _ => True) (okp := fun _ => True) ?hr ?hp (fun _ hk => hk) trivial (Below.refl _ _) (Nat.le_refl _) (by simp) ?_; (case hd => rfl); (case hg => rfl); (case hr => first | (go_simp; done) | (go_simp; rfl)); (case hp => exact (Reps.none _ _)); intro v382 w21 ho22 hb hg_ hnew_; clear hg_ hnew_; replace HO_3 := rb HO_3 hb; replace HO_4 := rb HO_4 hb; have HO383 := rl w ho22; replace HB := bs HB hb; clear hb ho22))
   go_ret
   exact ⟨_, rA, by rw [Ny381.out]; exact spec_PlanFor.nilS (rK HO383), bA⟩

/-! ### spec_l8Draw: function 124 -/
mutual
def spec_l8Draw.l0 : Nat → List (S50) → List (S85) → Int → List Int → Int → Int → Option ((List (S50)) × (List (S85)) × Int × Int)
 | 0, _, _, _, _, _, _ => none
 | k + 1, x4, x5, x6, x1000, x1001, x1002 => if x6 < 4 then (spec_l8Draw.j1 k x4 x5 x6 ((x5.length : Int) == 0) x1000 x1001 x1002) else (spec_l8Draw.j1 k x4 x5 x6 false x1000 x1001 x1002)
def spec_l8Draw.j1 : Nat → List (S50) → List (S85) → Int → Bool → List Int → Int → Int → Option ((List (S50)) × (List (S85)) × Int × Int)
 | 0, _, _, _, _, _, _, _ => none
 | k + 1, x4, x5, x6, x18, x1000, x1001, x1002 => if x18 = true then ((spec_l5Draw.f k x1000 x1001 x1002).bind fun bt392 => ((spec_PlanFor.f k bt392.1).bind fun t397 => (spec_l8Draw.l0 k bt392.1 t397 (wrap64 (x6 + 1)) x1000 bt392.2.1 bt392.2.2))) else (spec_l8Draw.l1 k x4 x5 0 x1000 x1001 x1002)
def spec_l8Draw.l1 : Nat → List (S50) → List (S85) → Int → List Int → Int → Int → Option ((List (S50)) × (List (S85)) × Int × Int)
 | 0, _, _, _, _, _, _ => none
 | k + 1, x4, x5, x7, x1000, x1001, x1002 => if x7 < (x5.length : Int) then (if 0 ≤ x7 then ((spec_l1Below.f x1000 x1001 x1002 12).bind fun bt401 => (spec_l8Draw.l1 k x4 (x5.set (x7 : Int).toNat (⟨(rd_T85 x5 x7).f0, wrap64 (((rd_T85 x5 x7).f1) + bt401.1)⟩ : S85)) (wrap64 (x7 + 1)) x1000 bt401.2.1 bt401.2.2)) else (none)) else (some (x4, x5, x1001, x1002))
end
def spec_l8Draw.f (k : Nat) (s0_0 : List Int) (s0_1 : Int) (s0_2 : Int) : Option ((List (S50)) × (List (S85)) × Int × Int) := (spec_l5Draw.f k s0_0 s0_1 s0_2).bind fun bt384 => ((spec_PlanFor.f k bt384.1).bind fun t389 => (spec_l8Draw.l0 k bt384.1 t389 0 s0_0 bt384.2.1 bt384.2.2))
theorem spec_l8Draw.mono_l : ∀ k, (∀ y0 y1 y2 y3 y4 y5, LeO (spec_l8Draw.l0 k y0 y1 y2 y3 y4 y5) (spec_l8Draw.l0 (k + 1) y0 y1 y2 y3 y4 y5)) ∧ (∀ y0 y1 y2 y3 y4 y5 y6, LeO (spec_l8Draw.j1 k y0 y1 y2 y3 y4 y5 y6) (spec_l8Draw.j1 (k + 1) y0 y1 y2 y3 y4 y5 y6)) ∧ (∀ y0 y1 y2 y3 y4 y5, LeO (spec_l8Draw.l1 k y0 y1 y2 y3 y4 y5) (spec_l8Draw.l1 (k + 1) y0 y1 y2 y3 y4 y5))
 | 0 => ⟨fun _ _ _ _ _ _ r h => by simp [spec_l8Draw.l0] at h, fun _ _ _ _ _ _ _ r h => by simp [spec_l8Draw.j1] at h, fun _ _ _ _ _ _ r h => by simp [spec_l8Draw.l1] at h⟩
 | k + 1 => by
  obtain ⟨ih0, ih1, ih2⟩ := spec_l8Draw.mono_l k
  refine ⟨?_, ?_, ?_⟩
  ·
   intro y0 y1 y2 y3 y4 y5
   unfold spec_l8Draw.l0
   exact mz5 ih0 ih1 ih2 spec_PlanFor.mono spec_l5Draw.mono
  ·
   intro y0 y1 y2 y3 y4 y5 y6
   unfold spec_l8Draw.j1
   exact mz5 ih0 ih1 ih2 spec_PlanFor.mono spec_l5Draw.mono
  ·
   intro y0 y1 y2 y3 y4 y5
   unfold spec_l8Draw.l1
   exact mz5 ih0 ih1 ih2 spec_PlanFor.mono spec_l5Draw.mono
theorem spec_l8Draw.mono : ∀ a0 a1 a2 k, LeO (spec_l8Draw.f k a0 a1 a2) (spec_l8Draw.f (k + 1) a0 a1 a2) := by
 intro a0 a1 a2 k
 obtain ⟨ih0, ih1, ih2⟩ := spec_l8Draw.mono_l k
 unfold spec_l8Draw.f
 exact mz5 ih0 ih1 ih2 spec_PlanFor.mono spec_l5Draw.mono
def spec_l8Draw.T11 : Bool × List (List Nat × List Nat) := (true, [([], []), ([], []), ([], []), ([], []), ([2, 3], [2, 3]), ([4], [4]), ([5], [5]), ([], []), ([7], [7]), ([6, 8], [6, 8]), ([0, 1, 0, 1, 2, 3, 4, 5, 6, 7, 8, 9], [0, 1]), ([10, 0, 1, 2, 3, 4, 5, 6, 7, 8, 9], [10]), ([11, 9, 8, 0, 1, 2, 3, 4, 5, 6, 7, 8, 9], [9, 11])])
def spec_l8Draw.B11 : List Nat := [0, 0, 0, 0, 12, 28, 60, 0, 128, 508, 1023, 2047, 4095]
theorem spec_l8Draw.tab11 : rtab .any (opsOf Try.f124 11) = spec_l8Draw.T11 := by kernel_rfl
theorem spec_l8Draw.bits11 : waitsOk spec_l8Draw.T11.2 spec_l8Draw.B11 = true := by kernel_rfl
set_option maxHeartbeats 8000000 in
set_option maxRecDepth 100000 in
theorem spec_l8Draw.calls (k : Nat) (g : Nat) (s0_0 : List Int) (s0_1 : Int) (s0_2 : Int) (r1 : List (S50)) (r2 : List (S85)) (r3 : Int) (r4 : Int) (w0 w : World) (hI : IsS138 w0 w g s0_0 s0_1 s0_2) (hB : Below w0.heap.size w0 w) (h : spec_l8Draw.f k s0_0 s0_1 s0_2 = some (r1, r2, r3, r4)) :
  Calls Try.prog 124 #[.pointer (some ⟨g, 0, none⟩)] w fun e w' => ∃ v0_ v1_ : Value, e = .returned (.tuple #[v0_, v1_]) ∧ Kd.R k50 50 w' w.heap.size (fun _ => True) v0_ r1 ∧ Kd.S k85 85 w' w.heap.size (fun _ => True) v1_ r2 ∧ IsS138 w0 w' g s0_0 r3 r4 ∧ Below w0.heap.size w0 w' ∧ KeepBut w w' g none := by
 have HI0 := Aside0.mk hI
 have HK := Aside0.mk (KeepBut.refl w g none)
 have HL := Aside0.mk hB.size
 clear hI
 have HW0 := Aside0.mk hB.size
 have HB := Aside0.mk hB
 clear hB
 have H : ((spec_l5Draw.f k s0_0 s0_1 s0_2).bind fun bt384 => ((spec_PlanFor.f k bt384.1).bind fun t389 => (spec_l8Draw.l0 k bt384.1 t389 0 s0_0 bt384.2.1 bt384.2.2))) = some (r1, r2, r3, r4) := h
 clear h
 obtain ⟨⟨t384, t387, t388⟩, A2, H⟩ := bindE H
 try dsimp only at H
 obtain ⟨t389, A3, H⟩ := bindE H
 try dsimp only at H
 have H' := Aside0.mk H
 clear H
 go_enter Try.func124, Try.ntmps124
 go_wp2_with (first | ((with_reducible refine gate_callee (f := 150) rfl ?_); refine gL (some 9) Try.func150 #[.pointer (some ⟨g, 0, none⟩)] ?_; (with_reducible refine (spec_l5Draw.calls k g s0_0 s0_1 s0_2 t384 t387 t388 w0 _ ?_ ?_ A2.out).mono ?_); exact sI1380 HI0.out; exact sB1 HB.out (IsS138.ge HI0.out); rintro e w4 ⟨v385, rfl, ho0, hi, hb, hk⟩; refine ⟨_, rfl, ?_⟩; have HO386 := Aside0.mk (Kd.R_lower ho0 (keep_size (w := w) (g := g) (row := none) (by exact sK0 HK.out))); replace HK := Aside0.mk (KeepBut.trans (by exact sK0 HK.out) hk (.inl rfl)); replace HB := Aside0.mk (hb); replace HI0 := Aside0.mk (hi); (try clear hb); (try clear hk); (try clear hi); (try clear ho0); obtain ⟨Ao5, co5, eo5⟩ := Kd.R_slice HO386.out; subst eo5) | ((with_reducible refine gate_callee (f := 151) rfl ?_); refine gL (some 11) Try.func151 #[.slice Ao5 t384.length co5] ?_; (with_reducible refine (spec_PlanFor.calls k _ _ t384 t389 _ ?_ ?_ A3.out).mono ?_); exact cO ⟨(Kd.R_reads' HO386.out).2.2⟩; exact (Kd.R_reads' HO386.out).2.1; rintro e w6 ⟨v390, rfl, ho0, hb⟩; refine ⟨_, rfl, ?_⟩; replace HO386 := rb HO386 hb; have HO391 := Aside0.mk (Kd.S_lower ho0 (keep_size (w := w) (g := g) (row := none) (by exact sK0 HK.out))); replace HK := Aside0.mk (KeepBut.trans (by exact sK0 HK.out) (KeepBut.of_below hb g none) (.inl rfl)); replace HB := Aside0.mk (below_step (by exact sB1 HB.out (IsS138.ge HI0.out)) hb); replace HI0 := Aside0.mk (IsS138.below (by exact sI1380 HI0.out) hb); (try clear hb); (try clear ho0)))
 go_loopg [4, 5, 6] k (fun kq v4 v5 v6 w' => ∃ (x4_1 : List (S50)) (x5_1 : List (S85)) (x6_1 : Int) (x1001_1 : Int) (x1002_1 : Int), v6 = .int .i64 x6_1 ∧ Aside0 (spec_l8Draw.l0 kq x4_1 x5_1 x6_1 s0_0 x1001_1 x1002_1 = some (r1, r2, r3, r4)) ∧ Aside0 (kq ≤ k) ∧ Aside0 (Kd.R k50 50 w' w.heap.size (fun _ => True) v4 x4_1) ∧ Aside0 (Kd.S k85 85 w' w.heap.size (fun _ => True) v5 x5_1) ∧ Aside0 (IsS138 w0 w' g s0_0 x1001_1 x1002_1) ∧ Aside0 (KeepBut w w' g none) ∧ Aside0 (Below w0.heap.size w0 w'))
 case atStart => exact ⟨(t384), (t389), (0), (t387), (t388), rS, H', ⟨Nat.le_refl _⟩, ⟨rK HO386⟩, ⟨sK HO391⟩, ⟨by exact sI1380 HI0.out⟩, ⟨by exact sK0 HK.out⟩, ⟨by exact sB1 HB.out (IsS138.ge HI0.out)⟩⟩
 case round =>
  clear H'
  obtain ⟨x4_1, x5_1, x6_1, x1001_1, x1002_1, rfl, HA, HK1, HO_4, HO_5, HI0, HK, HB⟩ := hrel
  cases gk with
  | zero => exact absurd HA.out (by simp [spec_l8Draw.l0])
  | succ k1 =>
   have H := HA.out
   clear HA
   simp only [spec_l8Draw.l0] at H
   have HC7 := Aside0.mk H
   clear H
   go_upto_region 4 with (fail)
   go_cut [18] (fun v18 wc => ∃ (kq : Nat) (x18_6 : Bool), v18 = .bool x18_6 ∧ Aside0 (spec_l8Draw.j1 kq x4_1 x5_1 x6_1 x18_6 s0_0 x1001_1 x1002_1 = some (r1, r2, r3, r4)) ∧ Aside0 (kq ≤ k1) ∧ Aside0 (Kd.R k50 50 wc w.heap.size (fun _ => True) u4 x4_1) ∧ Aside0 (Kd.S k85 85 wc w.heap.size (fun _ => True) u5 x5_1) ∧ Aside0 (IsS138 w0 wc g s0_0 x1001_1 x1002_1) ∧ Aside0 (KeepBut w wc g none) ∧ Aside0 (Below w0.heap.size w0 wc))
   case first =>
    have H := HC7.out
    clear HC7
    by_cases c8 : x6_1 < 4
    ·
     rw [if_pos c8] at H
     have c8b0 := decide_eq_true c8
     clear c8
     (first | rw [c8b0] | (simp only [i64_w, i32_w]; rw [c8b0]) | skip)
     have H' := Aside0.mk H
     clear H
     obtain ⟨Ao9, co9, eo9⟩ := Kd.S_slice HO_5.out
     subst eo9
     go_wp2
     go_meet
     case rel => exact ⟨_, (((x5_1.length : Int) == 0)), rS, H', ⟨by have := HK1.out; first | omega | exact Nat.le_refl _⟩, ⟨rK HO_4⟩, ⟨sK HO_5⟩, ⟨by exact sI1380 HI0.out⟩, ⟨by exact sK0 HK.out⟩, ⟨by exact sB1 HB.out (IsS138.ge HI0.out)⟩⟩
    rw [if_neg c8] at H
    have c8b0 := decide_eq_false c8
    clear c8
    (first | rw [c8b0] | (simp only [i64_w, i32_w]; rw [c8b0]) | skip)
    have H' := Aside0.mk H
    clear H
    go_wp2
    go_meet
    case rel => exact ⟨_, (false), rS, H', ⟨by have := HK1.out; first | omega | exact Nat.le_refl _⟩, ⟨rK HO_4⟩, ⟨sK HO_5⟩, ⟨by exact sI1380 HI0.out⟩, ⟨by exact sK0 HK.out⟩, ⟨by exact sB1 HB.out (IsS138.ge HI0.out)⟩⟩
   case rest =>
    clear HC7
    obtain ⟨kq, x18_6, rfl, HA, HJ6, HO_4, HO_5, HI0, HK, HB⟩ := hcut
    cases kq with
    | zero => exact absurd HA.out (by simp [spec_l8Draw.j1])
    | succ kj6 =>
     have H := HA.out
     clear HA
     simp only [spec_l8Draw.j1] at H
     by_cases c10 : x18_6 = true
     ·
      subst c10
      have H1 : ((spec_l5Draw.f kj6 s0_0 x1001_1 x1002_1).bind fun bt392 => ((spec_PlanFor.f kj6 bt392.1).bind fun t397 => (spec_l8Draw.l0 kj6 bt392.1 t397 (wrap64 (x6_1 + 1)) s0_0 bt392.2.1 bt392.2.2))) = some (r1, r2, r3, r4) := by rw [if_pos rfl] at H; exact H
      clear H
      have H := H1
      clear H1
      obtain ⟨⟨t392, t395, t396⟩, A11, H⟩ := bindE H
      try dsimp only at H
      obtain ⟨t397, A12, H⟩ := bindE H
      try dsimp only at H
      have H' := Aside0.mk H
      clear H
      go_wp2_with (first | ((with_reducible refine gate_callee (f := 150) rfl ?_); refine gL (some 22) Try.func150 #[.pointer (some ⟨g, 0, none⟩)] ?_; (with_reducible refine (spec_l5Draw.calls kj6 g s0_0 x1001_1 x1002_1 t392 t395 t396 w0 _ ?_ ?_ A11.out).mono ?_); exact sI1380 HI0.out; exact sB1 HB.out (IsS138.ge HI0.out); rintro e w13 ⟨v393, rfl, ho0, hi, hb, hk⟩; refine ⟨_, rfl, ?_⟩; replace HO_5 := Aside0.mk (Kd.S_mono (Kd.S_keep (IsS138.apartS (show IsS138 w0 _ g s0_0 x1001_1 x1002_1 from by exact sI1380 HI0.out) (sK HO_5) (by decide)) hk (fun _ h => h.2)) (fun _ h => h.1)); have HO394 := Aside0.mk (Kd.R_lower (Kd.R_new' ho0 (Kd.R_lt (rK HO_4))) (keep_size (w := w) (g := g) (row := none) (by exact sK0 HK.out))); replace HO_4 := Aside0.mk (Kd.R_mono (Kd.R_told (Kd.R_oldK (IsS138.apart (show IsS138 w0 _ g s0_0 x1001_1 x1002_1 from by exact sI1380 HI0.out) (rK HO_4) (by decide)) hk) (Kd.R_base ho0)) (fun _ h_ => h_.1)); replace HK := Aside0.mk (KeepBut.trans (by exact sK0 HK.out) hk (.inl rfl)); replace HB := Aside0.mk (hb); replace HI0 := Aside0.mk (hi); (try clear hb); (try clear hk); (try clear hi); (try clear ho0); obtain ⟨Ao14, co14, eo14⟩ := Kd.R_slice HO394.out; subst eo14) | ((with_reducible refine gate_callee (f := 151) rfl ?_); refine gL (some 24) Try.func151 #[.slice Ao14 t392.length co14] ?_; (with_reducible refine (spec_PlanFor.calls kj6 _ _ t392 t397 _ ?_ ?_ A12.out).mono ?_); exact cO ⟨(Kd.R_reads' HO394.out).2.2⟩; exact (Kd.R_reads' HO394.out).2.1; rintro e w15 ⟨v398, rfl, ho0, hb⟩; refine ⟨_, rfl, ?_⟩; replace HO_4 := rb HO_4 hb; replace HO394 := rb HO394 hb; have HO399 := Aside0.mk (Kd.S_lower (Kd.S_new' ho0 (Kd.S_lt (sK HO_5))) (keep_size (w := w) (g := g) (row := none) (by exact sK0 HK.out))); replace HO_5 := Aside0.mk (Kd.S_elder' (sK HO_5) (Kd.S_base ho0) hb); replace HK := Aside0.mk (KeepBut.trans (by exact sK0 HK.out) (KeepBut.of_below hb g none) (.inl rfl)); replace HB := Aside0.mk (below_step (by exact sB1 HB.out (IsS138.ge HI0.out)) hb); replace HI0 := Aside0.mk (IsS138.below (by exact sI1380 HI0.out) hb); (try clear hb); (try clear ho0)))
      go_roundg kj6
      case measure => have := HK1.out; have := HJ6.out; omega
      case rel => exact ⟨(t392), (t397), (wrap64 (x6_1 + 1)), (t395), (t396), rS, H', ⟨by have := HK1.out; have := HJ6.out; omega⟩, ⟨rm HO394 (fun _ hk => trivial)⟩, ⟨sm HO399 (fun _ hk => trivial)⟩, ⟨by exact sI1380 HI0.out⟩, ⟨by exact sK0 HK.out⟩, ⟨by exact sB1 HB.out (IsS138.ge HI0.out)⟩⟩
     replace c10 := Bool.eq_false_iff.mpr c10
     subst c10
     have H1 : (spec_l8Draw.l1 kj6 x4_1 x5_1 0 s0_0 x1001_1 x1002_1) = some (r1, r2, r3, r4) := by rw [if_neg (show ¬ (false = true) by decide)] at H; exact H
     clear H
     have H := H1
     clear H1
     have H' := Aside0.mk H
     clear H
     go_wp2
     go_loopg [7] kj6 (fun kq v7 w' => ∃ (x5_3 : List (S85)) (x7_3 : Int) (x1001_3 : Int) (x1002_3 : Int), v7 = .int .i64 x7_3 ∧ Aside0 (spec_l8Draw.l1 kq x4_1 x5_3 x7_3 s0_0 x1001_3 x1002_3 = some (r1, r2, r3, r4)) ∧ Aside0 (kq ≤ kj6) ∧ Aside0 (Kd.R k50 50 w' w.heap.size (fun _ => True) u4 x4_1) ∧ Aside0 (Kd.S k85 85 w' w.heap.size (fun _ => True) u5 x5_3) ∧ Aside0 (IsS138 w0 w' g s0_0 x1001_3 x1002_3) ∧ Aside0 (KeepBut w w' g none) ∧ Aside0 (Below w0.heap.size w0 w'))
     case atStart => exact ⟨(x5_1), (0), (x1001_1), (x1002_1), rS, H', ⟨Nat.le_refl _⟩, ⟨rK HO_4⟩, ⟨sK HO_5⟩, ⟨by exact sI1380 HI0.out⟩, ⟨by exact sK0 HK.out⟩, ⟨by exact sB1 HB.out (IsS138.ge HI0.out)⟩⟩
     case round =>
      clear H'
      obtain ⟨x5_3, x7_3, x1001_3, x1002_3, rfl, HA, HK3, HO_4, HO_5, HI0, HK, HB⟩ := hrel
      cases gk with
      | zero => exact absurd HA.out (by simp [spec_l8Draw.l1])
      | succ k3 =>
       have H := HA.out
       clear HA
       simp only [spec_l8Draw.l1] at H
       by_cases c16 : x7_3 < (x5_3.length : Int)
       ·
        rw [if_pos c16] at H
        have c16b0 := decide_eq_true c16
        clear c16
        have c17 : 0 ≤ x7_3 := ifN H
        replace H := ifT H
        have c17b0 := decide_eq_true c17
        clear c17
        obtain ⟨⟨t401, t402, t403⟩, A18, H⟩ := bindE H
        try dsimp only at H
        obtain ⟨y404, hy404⟩ : ∃ y_ : List (S85), y_ = (x5_3.set (x7_3 : Int).toNat (⟨(rd_T85 x5_3 x7_3).f0, wrap64 (((rd_T85 x5_3 x7_3).f1) + t401)⟩ : S85)) := ⟨_, rfl⟩
        replace H : (spec_l8Draw.l1 k3 x4_1 y404 (wrap64 (x7_3 + 1)) s0_0 t402 t403) = some (r1, r2, r3, r4) := rH H hy404
        have Ny404 := Aside0.mk hy404
        clear hy404
        have H' := Aside0.mk H
        clear H
        obtain ⟨Ao20, co20, eo20⟩ := Kd.S_slice HO_5.out
        subst eo20
        try go_wp2
        replace HO_4 := dr HO_4
        replace HO_5 := ds HO_5
        replace HI0 := Aside0.mk (IsS138.drew HI0.out)
        replace HK := Aside0.mk (keep_drew HK.out)
        have HBo := HB
        replace HB := db HB
        obtain ⟨p400, q400⟩ : 0 ≤ (x7_3 : Int) ∧ x7_3 < (x5_3.length : Int) := ⟨dA, dA⟩
        obtain ⟨ad400, A400_0, c400_0, e400, hx400_0, hx400_1, hl400_0, hi400_0⟩ := at_T85 (Kd.S_reads' HO_5.out).2.2 x7_3 p400 q400
        cases e400
        obtain ⟨ce400, hce400, hMe400, hcc400⟩ := Kd.S_get HO_5.out z85 x7_3 p400 (by first | exact q400 | exact dA | (have e_ := (Kd.S_reads' HO_5.out).1; omega))
        obtain ⟨ve400_0, rfl, ge400_0⟩ := k85_openM hMe400
        have hv400_0 := hcc400 0 _ rfl
        rw [Nat.add_zero] at hv400_0
        replace hv400_0 := Option.some.inj (hv400_0.symm.trans hx400_0)
        rw [hv400_0] at ge400_0
        have HL400_0 := Aside0.mk (show Kd.R (Kd.int .i64) 3 _ _ _ _ ((rd_T85 x5_3 x7_3).f0) from ge400_0)
        clear hv400_0 ge400_0
        clear hcc400 hce400
        have HR400_0 := Aside0.mk hi400_0
        have HC400_0 := Aside0.mk hl400_0
        clear hi400_0 hl400_0
        obtain ⟨p400, q400⟩ := eT p400 q400
        refine start_ (n := 13) (S := fun w' => w'.cell? (ad400.add ((x7_3).toNat * 2)) = some (.slice A400_0 ((rd_T85 x5_3 x7_3).f0).length c400_0) ∧ w'.cell? ⟨(ad400.add ((x7_3).toNat * 2)).block, (ad400.add ((x7_3).toNat * 2)).off + 1, none⟩ = some (.int .i64 ((rd_T85 x5_3 x7_3).f1))) (ds := [12]) (mb 13 0) (by kernel_rfl) rfl rfl ⟨hx400_0, hx400_1⟩ (fun hHeld => ?_); refine with_tabW spec_l8Draw.tab11 spec_l8Draw.bits11 (fun HT_ HW_ => ?_)
        generalize wr.drew = w21 at HO_4 HO_5 HI0 HK HB HL400_0 HR400_0 hx400_0 hx400_1 hHeld ⊢
        refine pa 0 31 (mb 13 1) HT_ ?_
        refine pa 1 32 (mb 13 3) HT_ ?_
        refine pa 2 33 (mb 13 7) HT_ ?_
        refine pa 3 34 (mb 13 15) HT_ ?_
        refine pa 4 35 (mb 13 31) HT_ ?_
        refine pa 5 36 (mb 13 63) HT_ ?_
        refine pa 7 38 (mb 13 191) HT_ ?_
        refine ta2 6 37 (mb 13 255) HT_ HW_ hHeld ?_
        refine oa 8 39 (mb 13 511) HT_ (fun K hK => ?_)
        refine gA Try.func84 #[.pointer (some ⟨g, 0, none⟩), .int .i64 12] ?_
        with_reducible refine (spec_l1Below.calls g s0_0 x1001_3 x1002_3 12 t401 t402 t403 w0 _ ?side1 ?side2 A18.out).mono ?_
        (case side1 => exact sI1380 HI0.out)
        (case side2 => exact sB1 HB.out (IsS138.ge HI0.out))
        rintro e w22 ⟨rfl, hi, hb, hk⟩
        have HS0_ := keep_cell hk (hHeld.1) (by first | (rw [add_block]; exact Kd.own_blk (IsS138.own_neS HI0.out HO_5.out (by decide))) | (show (Addr.add _ _).block ≠ _; rw [add_block]; exact Kd.own_blk (IsS138.own_neS HI0.out HO_5.out (by decide))) | exact Kd.own_blk (IsS138.own_neS HI0.out HO_5.out (by decide)))
        have HS1_ := keep_cell hk (hHeld.2) (by first | (rw [add_block]; exact Kd.own_blk (IsS138.own_neS HI0.out HO_5.out (by decide))) | (show (Addr.add _ _).block ≠ _; rw [add_block]; exact Kd.own_blk (IsS138.own_neS HI0.out HO_5.out (by decide))) | exact Kd.own_blk (IsS138.own_neS HI0.out HO_5.out (by decide)))
        refine ⟨_, rfl, ?_⟩
        replace HO_4 := Aside0.mk (Kd.R_mono (Kd.R_keep (IsS138.apart (show IsS138 w0 _ g s0_0 x1001_3 x1002_3 from by exact sI1380 HI0.out) (rK HO_4) (by decide)) hk (fun _ h => h.2)) (fun _ h => h.1))
        replace HO_5 := Aside0.mk (Kd.S_mono (Kd.S_keep (IsS138.apartS (show IsS138 w0 _ g s0_0 x1001_3 x1002_3 from by exact sI1380 HI0.out) (sK HO_5) (by decide)) hk (fun _ h => h.2)) (fun _ h => h.1))
        replace HL400_0 := Aside0.mk (Kd.R_mono (Kd.R_keep (IsS138.apart (show IsS138 w0 _ g s0_0 x1001_3 x1002_3 from by exact sI1380 HI0.out) (by (with_reducible repeat (first | apply Kd.R_alloc | apply Kd.R_drewN | apply Kd.R_drew)); exact HL400_0.out) (by decide)) hk (fun _ h => h.2)) (fun _ h => h.1))
        replace HK := Aside0.mk (KeepBut.trans (by exact sK0 HK.out) hk (.inl rfl))
        replace HB := Aside0.mk (hb)
        replace HI0 := Aside0.mk (hi)
        (try clear hb)
        (try clear hb2)
        (try clear hk)
        (try clear hi)
        obtain ⟨p19, q19⟩ : 0 ≤ (x7_3 : Int) ∧ (x7_3 : Int) < ((x5_3.length : Int) : Int) := ⟨dA, dA⟩
        obtain ⟨go19, co19, eo19, gb19, gl19, cl19, HG19⟩ := Kd.S_form HO_5.out (by omega)
        (first | cases eo19 | (injection eo19 with ea_ en_ ec_; (first | subst ea_ | (injection ea_ with ea_; subst ea_)); subst ec_; clear en_))
        have GB19 := Aside0.mk gb19
        have GG19 := Aside0.mk HG19
        clear gb19 gl19 HG19
        (first | simp only [add_plain] at hx400_0 | skip)
        (first | simp only [add_plain] at hx400_1 | skip)
        obtain ⟨_, ce19, hcl19, hM19, hcc19, hfr19, _, _⟩ := Kd.S_elem HO_5.out z85 (x7_3 : Int) p19 q19
        obtain ⟨ve19_0, rfl, ge19_0⟩ := k85_openM hM19
        have hx19_0 : World.cell? _ ⟨go19, (x7_3 : Int).toNat * 2, none⟩ = some (ve19_0) := hcc19 0 _ rfl
        have hx19_1 : World.cell? _ ⟨go19, (x7_3 : Int).toNat * 2 + 1, none⟩ = some (.int .i64 ((rd_T85 x5_3 x7_3).f1)) := hcc19 1 _ rfl
        have hf19_0 : World.frozen? _ ⟨go19, (x7_3 : Int).toNat * 2, none⟩ = false := hfr19 0
        have hf19_1 : World.frozen? _ ⟨go19, (x7_3 : Int).toNat * 2 + 1, none⟩ = false := hfr19 1
        clear hcl19 hcc19 hfr19 hM19
        obtain ⟨p19, q19⟩ := eT p19 q19
        have HN0_go19 := Aside0.mk (show g ≠ go19 from by have h_ := IsS138.own_neS HI0.out HO_5.out (by decide); intro e_; exact h_ (by rw [e_]; rfl))
        have HX23 := Aside0.mk (show Kd.S k85 85 _ w.heap.size (fun k_ => ((fun _ => True)) k_ ∧ ¬ (fun _ => False) k_) (.slice (some ⟨go19, 0, none⟩) x5_3.length co20) x5_3 from (sm HO_5 (fun k_ hk => ⟨trivial, fun e_ => e_⟩)))
        obtain ⟨oki23, ce23, hcl23, hM23, hcc23, hfr23, hoki23, hH23⟩ := Kd.S_elem HX23.out z85 (x7_3 : Int) (dA) (by have h_ : (x7_3 : Int) < ((x5_3.length : Int) : Int) := dA; first | exact h_ | (have e_ := (Kd.S_reads' HO_5.out).1; omega) | simpa using h_)
        obtain ⟨ve23_0, rfl, ge23_0⟩ := k85_openM hM23
        have HP23 := (Kd.S_seg hH23 (dA) (by have h_ : (x7_3 : Int) < ((x5_3.length : Int) : Int) := dA; first | exact h_ | (have e_ := (Kd.S_reads' HO_5.out).1; omega) | simpa using h_) (seg := [.int .i64 (wrap64 (((rd_T85 x5_3 x7_3).f1) + t401))]) (j := 1) (show 2 ≤ 2 from by decide) (x' := (⟨(rd_T85 x5_3 x7_3).f0, wrap64 (((rd_T85 x5_3 x7_3).f1) + t401)⟩ : S85)) (k85_mkM _ _ _ (⟨(rd_T85 x5_3 x7_3).f0, wrap64 (((rd_T85 x5_3 x7_3).f1) + t401)⟩ : S85) ge23_0) (fun _ hk => Or.inl hk) (fun _ hk => hk.elim)).1
        rw [← Ny404.out] at HP23
        have HQ23 := Aside0.mk HP23
        clear hcl23 hcc23 hfr23 hM23 HP23
        refine hK.out _ _ ⟨HS0_, HS1_⟩ (fun hHeld => ?_)
        clear hK K
        refine nB ?_
        refine pa 9 40 (mb 13 1023) HT_ ?_
        refine pa 10 41 (mb 13 2047) HT_ ?_
        refine pa 11 42 (mb 13 4095) HT_ ?_
        refine last_ (i := 12) (N := none) (mb 13 8191) rfl rfl (one_of HT_.out (by kernel_rfl)) (by decide) (fun K hK => ?_)
        refine skip_ (w1 := ?_) (by rfl) rfl ?_ ?_
        rotate_left
        ·
         go_simp
         rfl
        refine hK.out _ _ ?_
        clear hK K
        refine eA HT_ ?_
        try go_wp2
        go_roundg k3
        case measure => have := HK1.out; have := HJ6.out; have := HK3.out; omega
        case rel => exact ⟨(y404), (wrap64 (x7_3 + 1)), (t402), (t403), rS, H', ⟨by have := HK1.out; have := HJ6.out; have := HK3.out; omega⟩, ⟨by (with_reducible repeat (first | apply Kd.R_alloc | apply Kd.R_drewN | apply Kd.R_drew)); exact Kd.R_mono (Kd.R_far (p := ⟨go19, (x7_3 : Int).toNat * 2 + 1, none⟩) (Kd.R_types HO_4.out GG19.out (by decide)) (fun _ hk => hk.2) (.int .i64 (wrap64 (((rd_T85 x5_3 x7_3).f1) + t401)))) (fun _ hk => trivial)⟩, ⟨by (with_reducible repeat (first | apply Kd.S_alloc | apply Kd.S_drewN | apply Kd.S_drew)); exact HQ23.out⟩, ⟨by exact sI1381 HI0.out HN0_go19.out⟩, ⟨by exact sK1 HK.out GB19.out⟩, ⟨by repeat (first | (with_reducible first | exact HB.out | apply below_alloc | apply pw_below_drewN | apply below_drew1 | refine below_set ?_ (Nat.le_trans HL.out GB19.out) | refine below_set ?_ (IsS138.ge HI0.out)) | exact HB.out)⟩⟩
       rw [if_neg c16] at H
       have c16b0 := decide_eq_false c16
       clear c16
       simp only [Option.some.injEq, Prod.mk.injEq] at H
       obtain ⟨rfl, rfl, rfl, rfl⟩ := H
       obtain ⟨Ao24, co24, eo24⟩ := Kd.S_slice HO_5.out
       subst eo24
       go_wp2
       go_ret2
       exact ⟨_, _, rA, rK HO_4, sK HO_5, by exact sI1380 HI0.out, by exact sB1 HB.out (IsS138.ge HI0.out), by exact sK0 HK.out⟩

/-! ### spec_l4Raw: function 129 -/
def spec_l4Raw.f (s0_0 : List Int) (s0_1 : Int) (s0_2 : Int) : Option (Int × Int × Int) := (spec_l1Int.f s0_0 s0_1 s0_2 (([(-1), 0, 4, 7, 20, 21, 9223372036854775807, (-9223372036854775808)] : List Int))).bind fun bt408 => (some (bt408.1, bt408.2.1, bt408.2.2))
set_option maxHeartbeats 8000000 in
set_option maxRecDepth 100000 in
theorem spec_l4Raw.calls (g : Nat) (s0_0 : List Int) (s0_1 : Int) (s0_2 : Int) (r1 : Int) (r2 : Int) (r3 : Int) (w0 w : World) (hI : IsS138 w0 w g s0_0 s0_1 s0_2) (hB : Below w0.heap.size w0 w) (h : spec_l4Raw.f s0_0 s0_1 s0_2 = some (r1, r2, r3)) :
  Calls Try.prog 129 #[.pointer (some ⟨g, 0, none⟩)] w fun e w' => e = .returned (.int .i64 r1) ∧ IsS138 w0 w' g s0_0 r2 r3 ∧ Below w0.heap.size w0 w' ∧ KeepBut w w' g none := by
 have HI0 := Aside0.mk hI
 have HK := Aside0.mk (KeepBut.refl w g none)
 have HL := Aside0.mk hB.size
 clear hI
 have HW0 := Aside0.mk hB.size
 have HB := Aside0.mk hB
 clear hB
 have H : ((spec_l1Int.f s0_0 s0_1 s0_2 (([(-1), 0, 4, 7, 20, 21, 9223372036854775807, (-9223372036854775808)] : List Int))).bind fun bt408 => (some (bt408.1, bt408.2.1, bt408.2.2))) = some (r1, r2, r3) := h
 clear h
 obtain ⟨y405, hy405⟩ : ∃ y_ : List Int, y_ = (([(-1), 0, 4, 7, 20, 21, 9223372036854775807, (-9223372036854775808)] : List Int)) := ⟨_, rfl⟩
 replace H : ((spec_l1Int.f s0_0 s0_1 s0_2 y405).bind fun bt408 => (some (bt408.1, bt408.2.1, bt408.2.2))) = some (r1, r2, r3) := rH H hy405
 have Ny405 := Aside0.mk hy405
 clear hy405
 obtain ⟨⟨t408, t409, t410⟩, A2, H⟩ := bindE H
 try dsimp only at H
 simp only [Option.some.injEq, Prod.mk.injEq] at H
 obtain ⟨rfl, rfl, rfl⟩ := H
 go_enter Try.func129, Try.ntmps129
 go_wp2_with (first | ((with_reducible refine gate_dst (N := 4) rfl ?_); refine Kd.R_lit (Kd.int .i64) _ 3 ?hg (N := 4) ?hd (xs := ([(-1), 0, 4, 7, 20, 21, 9223372036854775807, (-9223372036854775808)] : List Int)) (inner := [.int .i64 (-1), .int .i64 0, .int .i64 4, .int .i64 7, .int .i64 20, .int .i64 21, .int .i64 9223372036854775807, .int .i64 (-9223372036854775808)]) (ok := fun _ => True) (okp := fun _ => True) ?hr ?hp (fun _ hk => hk) trivial (Below.refl _ _) (Nat.le_refl _) (by simp) ?_; (case hd => rfl); (case hg => rfl); (case hr => first | (go_simp; done) | (go_simp; rfl)); (case hp => exact (Reps.one (show Kd.M (Kd.int .i64) _ _ _ (-1) [.int .i64 (-1)] from rfl) (Reps.one (show Kd.M (Kd.int .i64) _ _ _ 0 [.int .i64 0] from rfl) (Reps.one (show Kd.M (Kd.int .i64) _ _ _ 4 [.int .i64 4] from rfl) (Reps.one (show Kd.M (Kd.int .i64) _ _ _ 7 [.int .i64 7] from rfl) (Reps.one (show Kd.M (Kd.int .i64) _ _ _ 20 [.int .i64 20] from rfl) (Reps.one (show Kd.M (Kd.int .i64) _ _ _ 21 [.int .i64 21] from rfl) (Reps.one (show Kd.M (Kd.int .i64) _ _ _ 9223372036854775807 [.int .i64 9223372036854775807] from rfl) (Reps.one (show Kd.M (Kd.int .i64) _ _ _ (-9223372036854775808) [.int .i64 (-9223372036854775808)] from rfl) (Reps.none _ _)))))))))); intro v406 w3 ho4 hb hg_ hnew_; clear hg_ hnew_; (first | rw [← Ny405.out] at ho4 | (simp only [Int.reduceToNat] at ho4; rw [← Ny405.out] at ho4)); have HO407 := Aside0.mk (Kd.R_lower ho4 (keep_size (w := w) (g := g) (row := none) (by exact sK0 HK.out))); replace HK := Aside0.mk (KeepBut.trans (by exact sK0 HK.out) (KeepBut.of_below hb g none) (.inl rfl)); replace HB := Aside0.mk (below_step (by exact sB1 HB.out (IsS138.ge HI0.out)) hb); replace HI0 := Aside0.mk (IsS138.below (by exact sI1380 HI0.out) hb); clear hb ho4; obtain ⟨Ao5, co5, eo5⟩ := Kd.R_slice HO407.out; subst eo5) | ((with_reducible refine gate_callee (f := 94) rfl ?_); refine gL (some 5) Try.func94 #[.pointer (some ⟨g, 0, none⟩), .slice Ao5 y405.length co5] ?_; (with_reducible refine (spec_l1Int.calls g s0_0 s0_1 s0_2 _ _ y405 t408 t409 t410 w0 _ ?_ ?_ ?_ ?_ ?_ A2.out).mono ?_); exact sI1380 HI0.out; exact sB1 HB.out (IsS138.ge HI0.out); exact cO ⟨(Kd.R_reads' HO407.out).2.2⟩; exact (Kd.R_reads' HO407.out).2.1; exact far_slice (IsS138.own_ne HI0.out HO407.out (by decide)); rintro e w6 ⟨rfl, hi, hb, hk⟩; refine ⟨_, rfl, ?_⟩; replace HO407 := Aside0.mk (Kd.R_mono (Kd.R_keep (IsS138.apart (show IsS138 w0 _ g s0_0 s0_1 s0_2 from by exact sI1380 HI0.out) (rK HO407) (by decide)) hk (fun _ h => h.2)) (fun _ h => h.1)); replace HK := Aside0.mk (KeepBut.trans (by exact sK0 HK.out) hk (.inl rfl)); replace HB := Aside0.mk (hb); replace HI0 := Aside0.mk (hi); (try clear hb); (try clear hk); (try clear hi)))
 go_ret
 exact ⟨rA, by exact sI1380 HI0.out, by exact sB1 HB.out (IsS138.ge HI0.out), by exact sK0 HK.out⟩

/-! ### spec_l4Any: function 152 -/
def spec_l4Any.f (s0_0 : List Int) (s0_1 : Int) (s0_2 : Int) : Option (Int × Int × Int × Int × Int × Int) := (spec_l1Below.f s0_0 s0_1 s0_2 20).bind fun bt412 => ((spec_l4Draw.f s0_0 bt412.2.1 bt412.2.2 (wrap64 (1 + bt412.1))).bind fun bt415 => ((spec_l1Below.f s0_0 bt415.2.2.2.2.1 bt415.2.2.2.2.2 10).bind fun bt422 => (if bt422.1 = 0 then ((spec_l1Int.f s0_0 bt422.2.1 bt422.2.2 (([0, 20, 21] : List Int))).bind fun bt428 => (some (bt428.1, bt415.2.1, bt415.2.2.1, bt415.2.2.2.1, bt428.2.1, bt428.2.2))) else (if bt422.1 = 1 then ((spec_l1Int.f s0_0 bt422.2.1 bt422.2.2 (([0, 2, 4] : List Int))).bind fun bt434 => (some (bt415.1, bt434.1, bt415.2.2.1, bt415.2.2.2.1, bt434.2.1, bt434.2.2))) else (if bt422.1 = 2 then ((spec_l4Raw.f s0_0 bt422.2.1 bt422.2.2).bind fun bt437 => (some (bt415.1, bt415.2.1, bt437.1, bt415.2.2.2.1, bt437.2.1, bt437.2.2))) else (if bt422.1 = 3 then ((spec_l4Raw.f s0_0 bt422.2.1 bt422.2.2).bind fun bt440 => (some (bt415.1, bt415.2.1, bt415.2.2.1, bt440.1, bt440.2.1, bt440.2.2))) else (some (bt415.1, bt415.2.1, bt415.2.2.1, bt415.2.2.2.1, bt422.2.1, bt422.2.2))))))))
set_option maxHeartbeats 8000000 in
set_option maxRecDepth 100000 in
theorem spec_l4Any.calls (g : Nat) (s0_0 : List Int) (s0_1 : Int) (s0_2 : Int) (r1 : Int) (r2 : Int) (r3 : Int) (r4 : Int) (r5 : Int) (r6 : Int) (w0 w : World) (hI : IsS138 w0 w g s0_0 s0_1 s0_2) (hB : Below w0.heap.size w0 w) (h : spec_l4Any.f s0_0 s0_1 s0_2 = some (r1, r2, r3, r4, r5, r6)) :
  Calls Try.prog 152 #[.pointer (some ⟨g, 0, none⟩)] w fun e w' => e = .returned (.agg #[.int .i64 r1, .int .i64 r2, .int .i64 r3, .int .i64 r4]) ∧ IsS138 w0 w' g s0_0 r5 r6 ∧ Below w0.heap.size w0 w' ∧ KeepBut w w' g none := by
 have hu50 := Try.underlying50
 have HI0 := Aside0.mk hI
 have HK := Aside0.mk (KeepBut.refl w g none)
 have HL := Aside0.mk hB.size
 clear hI
 have HW0 := Aside0.mk hB.size
 have HB := Aside0.mk hB
 clear hB
 have H : ((spec_l1Below.f s0_0 s0_1 s0_2 20).bind fun bt412 => ((spec_l4Draw.f s0_0 bt412.2.1 bt412.2.2 (wrap64 (1 + bt412.1))).bind fun bt415 => ((spec_l1Below.f s0_0 bt415.2.2.2.2.1 bt415.2.2.2.2.2 10).bind fun bt422 => (if bt422.1 = 0 then ((spec_l1Int.f s0_0 bt422.2.1 bt422.2.2 (([0, 20, 21] : List Int))).bind fun bt428 => (some (bt428.1, bt415.2.1, bt415.2.2.1, bt415.2.2.2.1, bt428.2.1, bt428.2.2))) else (if bt422.1 = 1 then ((spec_l1Int.f s0_0 bt422.2.1 bt422.2.2 (([0, 2, 4] : List Int))).bind fun bt434 => (some (bt415.1, bt434.1, bt415.2.2.1, bt415.2.2.2.1, bt434.2.1, bt434.2.2))) else (if bt422.1 = 2 then ((spec_l4Raw.f s0_0 bt422.2.1 bt422.2.2).bind fun bt437 => (some (bt415.1, bt415.2.1, bt437.1, bt415.2.2.2.1, bt437.2.1, bt437.2.2))) else (if bt422.1 = 3 then ((spec_l4Raw.f s0_0 bt422.2.1 bt422.2.2).bind fun bt440 => (some (bt415.1, bt415.2.1, bt415.2.2.1, bt440.1, bt440.2.1, bt440.2.2))) else (some (bt415.1, bt415.2.1, bt415.2.2.1, bt415.2.2.2.1, bt422.2.1, bt422.2.2))))))))) = some (r1, r2, r3, r4, r5, r6) := h
 clear h
 obtain ⟨⟨t412, t413, t414⟩, A2, H⟩ := bindE H
 try dsimp only at H
 obtain ⟨⟨t415, t416, t417, t418, t419, t420⟩, A3, H⟩ := bindE H
 try dsimp only at H
 obtain ⟨⟨t422, t423, t424⟩, A4, H⟩ := bindE H
 try dsimp only at H
 go_enter Try.func152, Try.ntmps152
 go_upto_region 3 with (first | ((with_reducible refine gate_dst (N := 2) rfl ?_); refine bE (N := 2) (cs := #[.int .i64 0, .int .i64 0, .int .i64 0, .int .i64 0]) (t := 50) ?_; intro gb411 hg w7 hbox hb; have n0_ := Aside0.mk (IsS138.below (by exact sI1380 HI0.out) hb); have n1_ := Aside0.mk (KeepBut.trans (by exact sK0 HK.out) (KeepBut.of_below hb g none) (.inl rfl)); have n2_ := Aside0.mk (below_step (by exact sB1 HB.out (IsS138.ge HI0.out)) hb); have n3_ := Aside0.mk (hbox); have n4_ := Aside0.mk ((by rw [hg]; exact (keep_size (w := w) (g := g) (row := none) (by exact sK0 HK.out)) : w.heap.size ≤ gb411)); have n5_ := Aside0.mk ((Nat.le_trans HW0.out (by rw [hg]; exact (keep_size (w := w) (g := g) (row := none) (by exact sK0 HK.out)) : w.heap.size ≤ gb411) : w0.heap.size ≤ gb411)); have n6_ := Aside0.mk ((by rw [hg]; exact Nat.ne_of_lt (IsS138.lt (show IsS138 w0 _ g s0_0 s0_1 s0_2 from by exact sI1380 HI0.out)) : g ≠ gb411)); have n7_ := Aside0.mk ((by rw [hg]; exact Nat.ne_of_gt (IsS138.lt (show IsS138 w0 _ g s0_0 s0_1 s0_2 from by exact sI1380 HI0.out)) : gb411 ≠ g)); clear HI0; clear HK; clear HB; have HI0 := n0_; have HK := n1_; have HB := n2_; have BK411 := n3_; have GW411 := n4_; have GE411 := n5_; have NB0_411 := n6_; have NB411_0 := n7_; clear n0_ n1_ n2_ n3_ n4_ n5_ n6_ n7_; clear hb hbox hg) | ((with_reducible refine gate_callee (f := 84) rfl ?_); refine gL (some 6) Try.func84 #[.pointer (some ⟨g, 0, none⟩), .int .i64 20] ?_; (with_reducible refine (spec_l1Below.calls g s0_0 s0_1 s0_2 20 t412 t413 t414 w0 _ ?_ ?_ A2.out).mono ?_); exact sI1381 HI0.out NB0_411.out; exact sB2 HB.out (IsS138.ge HI0.out) GE411.out; rintro e w8 ⟨rfl, hi, hb, hk⟩; refine ⟨_, rfl, ?_⟩; replace BK411 := Aside0.mk (KeepBut.blk hk (g' := gb411) (o := .cells #[.int .i64 0, .int .i64 0, .int .i64 0, .int .i64 0] 50 (0, 0)) (bK BK411) NB411_0.out (by simp)); replace HK := Aside0.mk (KeepBut.trans (by exact sK1 HK.out GW411.out) hk (.inl rfl)); replace HB := Aside0.mk (hb); replace HI0 := Aside0.mk (hi); (try clear hb); (try clear hk); (try clear hi)) | ((with_reducible refine gate_callee (f := 174) rfl ?_); refine gL (some 8) Try.func174 #[.pointer (some ⟨g, 0, none⟩), .int .i64 (wrap64 (1 + t412))] ?_; (with_reducible refine (spec_l4Draw.calls g s0_0 t413 t414 (wrap64 (1 + t412)) t415 t416 t417 t418 t419 t420 w0 _ ?_ ?_ A3.out).mono ?_); exact sI1381 HI0.out NB0_411.out; exact sB2 HB.out (IsS138.ge HI0.out) GE411.out; rintro e w9 ⟨rfl, hi, hb, hk⟩; refine ⟨_, rfl, ?_⟩; replace BK411 := Aside0.mk (KeepBut.blk hk (g' := gb411) (o := .cells #[.int .i64 0, .int .i64 0, .int .i64 0, .int .i64 0] 50 (0, 0)) (bK BK411) NB411_0.out (by simp)); replace HK := Aside0.mk (KeepBut.trans (by exact sK1 HK.out GW411.out) hk (.inl rfl)); replace HB := Aside0.mk (hb); replace HI0 := Aside0.mk (hi); (try clear hb); (try clear hk); (try clear hi)) | ((with_reducible refine gate_dst (N := 3) rfl ?_); refine bE (N := 3) (cs := #[.int .i64 0, .int .i64 0, .int .i64 0, .int .i64 0]) (t := 50) ?_; intro gb421 hg w10 hbox hb; have n0_ := Aside0.mk (IsS138.below (by exact sI1381 HI0.out NB0_411.out) hb); have n1_ := kb BK411 hb; have n2_ := Aside0.mk (KeepBut.trans (by exact sK1 HK.out GW411.out) (KeepBut.of_below hb g none) (.inl rfl)); have n3_ := Aside0.mk (below_step (by exact sB2 HB.out (IsS138.ge HI0.out) GE411.out) hb); have n4_ := Aside0.mk (hbox); have n5_ := Aside0.mk ((by rw [hg]; exact (keep_size (w := w) (g := g) (row := none) (by exact sK1 HK.out GW411.out)) : w.heap.size ≤ gb421)); have n6_ := Aside0.mk ((Nat.le_trans HW0.out (by rw [hg]; exact (keep_size (w := w) (g := g) (row := none) (by exact sK1 HK.out GW411.out)) : w.heap.size ≤ gb421) : w0.heap.size ≤ gb421)); have n7_ := nl BK411 hg; have n8_ := nr BK411 hg; have n9_ := Aside0.mk ((by rw [hg]; exact Nat.ne_of_lt (IsS138.lt (show IsS138 w0 _ g s0_0 t419 t420 from by exact sI1381 HI0.out NB0_411.out)) : g ≠ gb421)); have n10_ := Aside0.mk ((by rw [hg]; exact Nat.ne_of_gt (IsS138.lt (show IsS138 w0 _ g s0_0 t419 t420 from by exact sI1381 HI0.out NB0_411.out)) : gb421 ≠ g)); clear HI0; clear BK411; clear HK; clear HB; have HI0 := n0_; have BK411 := n1_; have HK := n2_; have HB := n3_; have BK421 := n4_; have GW421 := n5_; have GE421 := n6_; have NB411_421 := n7_; have NB421_411 := n8_; have NB0_421 := n9_; have NB421_0 := n10_; clear n0_ n1_ n2_ n3_ n4_ n5_ n6_ n7_ n8_ n9_ n10_; clear hb hbox hg; have hnb11 := NB421_411.out; have hnc11 := NB411_421.out; have hnb12 := NB421_0.out; have hnc12 := NB0_421.out; have hcz13_0 : w10.cell? ⟨gb421, 0, none⟩ = some (.int .i64 0) := bC BK421 0; have hcz13_1 : w10.cell? ⟨gb421, 1, none⟩ = some (.int .i64 0) := bC BK421 1; have hcz13_2 : w10.cell? ⟨gb421, 2, none⟩ = some (.int .i64 0) := bC BK421 2; have hcz13_3 : w10.cell? ⟨gb421, 3, none⟩ = some (.int .i64 0) := bC BK421 3; have hfz13_0 := blk_frozen BK421.out 0; have hfz13_1 := blk_frozen BK421.out 1; have hfz13_2 := blk_frozen BK421.out 2; have hfz13_3 := blk_frozen BK421.out 3) | ((with_reducible refine gate_callee (f := 84) rfl ?_); refine gL (some 10) Try.func84 #[.pointer (some ⟨g, 0, none⟩), .int .i64 10] ?_; (with_reducible refine (spec_l1Below.calls g s0_0 t419 t420 10 t422 t423 t424 w0 _ ?_ ?_ A4.out).mono ?_); exact sI1382 HI0.out NB0_411.out NB0_421.out; exact sB3 HB.out (IsS138.ge HI0.out) GE411.out GE421.out; rintro e w14 ⟨rfl, hi, hb, hk⟩; refine ⟨_, rfl, ?_⟩; replace BK411 := Aside0.mk (KeepBut.blk hk (g' := gb411) (o := .cells #[.int .i64 0, .int .i64 0, .int .i64 0, .int .i64 0] 50 (0, 0)) (kf BK411 NB411_421) NB411_0.out (by simp)); replace BK421 := Aside0.mk (KeepBut.blk hk (g' := gb421) (o := .cells #[.int .i64 t415, .int .i64 t416, .int .i64 t417, .int .i64 t418] 50 (0, 0)) (kp BK421) NB421_0.out (by simp)); replace HK := Aside0.mk (KeepBut.trans (by exact sK2 HK.out GW411.out GW421.out) hk (.inl rfl)); replace HB := Aside0.mk (hb); replace HI0 := Aside0.mk (hi); (try clear hb); (try clear hk); (try clear hi)))
 by_cases c5 : t422 = 0
 ·
  rw [if_pos c5] at H
  have c5b0 : (t422 == 0) = true := beq_iff_eq.mpr c5
  have c5b1 : (t422 != 0) = false := bne_eq_false_iff_eq.mpr c5
  clear c5
  obtain ⟨y425, hy425⟩ : ∃ y_ : List Int, y_ = (([0, 20, 21] : List Int)) := ⟨_, rfl⟩
  replace H : ((spec_l1Int.f s0_0 t423 t424 y425).bind fun bt428 => (some (bt428.1, t416, t417, t418, bt428.2.1, bt428.2.2))) = some (r1, r2, r3, r4, r5, r6) := rH H hy425
  have Ny425 := Aside0.mk hy425
  clear hy425
  obtain ⟨⟨t428, t429, t430⟩, A6, H⟩ := bindE H
  try dsimp only at H
  simp only [Option.some.injEq, Prod.mk.injEq] at H
  obtain ⟨rfl, rfl, rfl, rfl, rfl, rfl⟩ := H
  go_wp2_with (first | ((with_reducible refine gate_dst (N := 14) rfl ?_); refine Kd.R_lit (Kd.int .i64) _ 3 ?hg (N := 14) ?hd (xs := ([0, 20, 21] : List Int)) (inner := [.int .i64 0, .int .i64 20, .int .i64 21]) (ok := fun _ => True) (okp := fun _ => True) ?hr ?hp (fun _ hk => hk) trivial (Below.refl _ _) (Nat.le_refl _) (by simp) ?_; (case hd => rfl); (case hg => rfl); (case hr => first | (go_simp; done) | (go_simp; rfl)); (case hp => exact (Reps.one (show Kd.M (Kd.int .i64) _ _ _ 0 [.int .i64 0] from rfl) (Reps.one (show Kd.M (Kd.int .i64) _ _ _ 20 [.int .i64 20] from rfl) (Reps.one (show Kd.M (Kd.int .i64) _ _ _ 21 [.int .i64 21] from rfl) (Reps.none _ _))))); intro v426 w15 ho16 hb hg_ hnew_; clear hg_ hnew_; (first | rw [← Ny425.out] at ho16 | (simp only [Int.reduceToNat] at ho16; rw [← Ny425.out] at ho16)); have HO427 := Aside0.mk (Kd.R_lower ho16 (keep_size (w := w) (g := g) (row := none) (by exact sK2 HK.out GW411.out GW421.out))); replace BK411 := kb BK411 hb; replace BK421 := kb BK421 hb; replace HK := Aside0.mk (KeepBut.trans (by exact sK2 HK.out GW411.out GW421.out) (KeepBut.of_below hb g none) (.inl rfl)); replace HB := Aside0.mk (below_step (by exact sB3 HB.out (IsS138.ge HI0.out) GE411.out GE421.out) hb); replace HI0 := Aside0.mk (IsS138.below (by exact sI1382 HI0.out NB0_411.out NB0_421.out) hb); clear hb ho16; obtain ⟨Ao17, co17, eo17⟩ := Kd.R_slice HO427.out; subst eo17) | ((with_reducible refine gate_callee (f := 94) rfl ?_); refine gL (some 15) Try.func94 #[.pointer (some ⟨g, 0, none⟩), .slice Ao17 y425.length co17] ?_; (with_reducible refine (spec_l1Int.calls g s0_0 t423 t424 _ _ y425 t428 t429 t430 w0 _ ?_ ?_ ?_ ?_ ?_ A6.out).mono ?_); exact sI1382 HI0.out NB0_411.out NB0_421.out; exact sB3 HB.out (IsS138.ge HI0.out) GE411.out GE421.out; exact cO ⟨(Kd.R_reads' HO427.out).2.2⟩; exact (Kd.R_reads' HO427.out).2.1; exact far_slice (IsS138.own_ne HI0.out HO427.out (by decide)); rintro e w18 ⟨rfl, hi, hb, hk⟩; refine ⟨_, rfl, ?_⟩; replace BK411 := Aside0.mk (KeepBut.blk hk (g' := gb411) (o := .cells #[.int .i64 0, .int .i64 0, .int .i64 0, .int .i64 0] 50 (0, 0)) (bK BK411) NB411_0.out (by simp)); replace BK421 := Aside0.mk (KeepBut.blk hk (g' := gb421) (o := .cells #[.int .i64 t415, .int .i64 t416, .int .i64 t417, .int .i64 t418] 50 (0, 0)) (bK BK421) NB421_0.out (by simp)); replace HO427 := Aside0.mk (Kd.R_mono (Kd.R_keep (IsS138.apart (show IsS138 w0 _ g s0_0 t423 t424 from by exact sI1382 HI0.out NB0_411.out NB0_421.out) (rK HO427) (by decide)) hk (fun _ h => h.2)) (fun _ h => h.1)); replace HK := Aside0.mk (KeepBut.trans (by exact sK2 HK.out GW411.out GW421.out) hk (.inl rfl)); replace HB := Aside0.mk (hb); replace HI0 := Aside0.mk (hi); (try clear hb); (try clear hk); (try clear hi); obtain ⟨_, _, _, _, _, _, _, _⟩ := blkc4 BK421; have hnb20 := NB411_0.out; have hnc20 := NB0_411.out; obtain ⟨_, _, _, _, _, _, _, _⟩ := blkc4 BK411))
  refine bodyPost_ret (results_cell_row rfl _ _ gb411 50 #[.int .i64 t428, .int .i64 t416, .int .i64 t417, .int .i64 t418] (0, 0) _ rfl (kP BK411 NB411_421) Try.underlying50 rfl (by kernel_rfl)) rfl ?_
  exact ⟨rA, by exact sI1382 HI0.out NB0_411.out NB0_421.out, by exact sB3 HB.out (IsS138.ge HI0.out) GE411.out GE421.out, by exact sK2 HK.out GW411.out GW421.out⟩
 rw [if_neg c5] at H
 have c5b0 : (t422 == 0) = false := beq_eq_false_iff_ne.mpr c5
 have c5b1 : (t422 != 0) = true := bne_iff_ne.mpr c5
 by_cases c22 : t422 = 1
 ·
  rw [if_pos c22] at H
  have c22b0 : (t422 == 1) = true := beq_iff_eq.mpr c22
  have c22b1 : (t422 != 1) = false := bne_eq_false_iff_eq.mpr c22
  clear c22
  obtain ⟨y431, hy431⟩ : ∃ y_ : List Int, y_ = (([0, 2, 4] : List Int)) := ⟨_, rfl⟩
  replace H : ((spec_l1Int.f s0_0 t423 t424 y431).bind fun bt434 => (some (t415, bt434.1, t417, t418, bt434.2.1, bt434.2.2))) = some (r1, r2, r3, r4, r5, r6) := rH H hy431
  have Ny431 := Aside0.mk hy431
  clear hy431
  obtain ⟨⟨t434, t435, t436⟩, A23, H⟩ := bindE H
  try dsimp only at H
  simp only [Option.some.injEq, Prod.mk.injEq] at H
  obtain ⟨rfl, rfl, rfl, rfl, rfl, rfl⟩ := H
  go_wp2_with (first | ((with_reducible refine gate_dst (N := 20) rfl ?_); refine Kd.R_lit (Kd.int .i64) _ 3 ?hg (N := 20) ?hd (xs := ([0, 2, 4] : List Int)) (inner := [.int .i64 0, .int .i64 2, .int .i64 4]) (ok := fun _ => True) (okp := fun _ => True) ?hr ?hp (fun _ hk => hk) trivial (Below.refl _ _) (Nat.le_refl _) (by simp) ?_; (case hd => rfl); (case hg => rfl); (case hr => first | (go_simp; done) | (go_simp; rfl)); (case hp => exact (Reps.one (show Kd.M (Kd.int .i64) _ _ _ 0 [.int .i64 0] from rfl) (Reps.one (show Kd.M (Kd.int .i64) _ _ _ 2 [.int .i64 2] from rfl) (Reps.one (show Kd.M (Kd.int .i64) _ _ _ 4 [.int .i64 4] from rfl) (Reps.none _ _))))); intro v432 w32 ho33 hb hg_ hnew_; clear hg_ hnew_; (first | rw [← Ny431.out] at ho33 | (simp only [Int.reduceToNat] at ho33; rw [← Ny431.out] at ho33)); have HO433 := Aside0.mk (Kd.R_lower ho33 (keep_size (w := w) (g := g) (row := none) (by exact sK2 HK.out GW411.out GW421.out))); replace BK411 := kb BK411 hb; replace BK421 := kb BK421 hb; replace HK := Aside0.mk (KeepBut.trans (by exact sK2 HK.out GW411.out GW421.out) (KeepBut.of_below hb g none) (.inl rfl)); replace HB := Aside0.mk (below_step (by exact sB3 HB.out (IsS138.ge HI0.out) GE411.out GE421.out) hb); replace HI0 := Aside0.mk (IsS138.below (by exact sI1382 HI0.out NB0_411.out NB0_421.out) hb); clear hb ho33; obtain ⟨Ao34, co34, eo34⟩ := Kd.R_slice HO433.out; subst eo34) | ((with_reducible refine gate_callee (f := 94) rfl ?_); refine gL (some 21) Try.func94 #[.pointer (some ⟨g, 0, none⟩), .slice Ao34 y431.length co34] ?_; (with_reducible refine (spec_l1Int.calls g s0_0 t423 t424 _ _ y431 t434 t435 t436 w0 _ ?_ ?_ ?_ ?_ ?_ A23.out).mono ?_); exact sI1382 HI0.out NB0_411.out NB0_421.out; exact sB3 HB.out (IsS138.ge HI0.out) GE411.out GE421.out; exact cO ⟨(Kd.R_reads' HO433.out).2.2⟩; exact (Kd.R_reads' HO433.out).2.1; exact far_slice (IsS138.own_ne HI0.out HO433.out (by decide)); rintro e w35 ⟨rfl, hi, hb, hk⟩; refine ⟨_, rfl, ?_⟩; replace BK411 := Aside0.mk (KeepBut.blk hk (g' := gb411) (o := .cells #[.int .i64 0, .int .i64 0, .int .i64 0, .int .i64 0] 50 (0, 0)) (bK BK411) NB411_0.out (by simp)); replace BK421 := Aside0.mk (KeepBut.blk hk (g' := gb421) (o := .cells #[.int .i64 t415, .int .i64 t416, .int .i64 t417, .int .i64 t418] 50 (0, 0)) (bK BK421) NB421_0.out (by simp)); replace HO433 := Aside0.mk (Kd.R_mono (Kd.R_keep (IsS138.apart (show IsS138 w0 _ g s0_0 t423 t424 from by exact sI1382 HI0.out NB0_411.out NB0_421.out) (rK HO433) (by decide)) hk (fun _ h => h.2)) (fun _ h => h.1)); replace HK := Aside0.mk (KeepBut.trans (by exact sK2 HK.out GW411.out GW421.out) hk (.inl rfl)); replace HB := Aside0.mk (hb); replace HI0 := Aside0.mk (hi); (try clear hb); (try clear hk); (try clear hi); obtain ⟨_, _, _, _, _, _, _, _⟩ := blkc4 BK421; have hnb37 := NB411_0.out; have hnc37 := NB0_411.out; obtain ⟨_, _, _, _, _, _, _, _⟩ := blkc4 BK411))
  refine bodyPost_ret (results_cell_row rfl _ _ gb411 50 #[.int .i64 t415, .int .i64 t434, .int .i64 t417, .int .i64 t418] (0, 0) _ rfl (kP BK411 NB411_421) Try.underlying50 rfl (by kernel_rfl)) rfl ?_
  exact ⟨rA, by exact sI1382 HI0.out NB0_411.out NB0_421.out, by exact sB3 HB.out (IsS138.ge HI0.out) GE411.out GE421.out, by exact sK2 HK.out GW411.out GW421.out⟩
 rw [if_neg c22] at H
 have c22b0 : (t422 == 1) = false := beq_eq_false_iff_ne.mpr c22
 have c22b1 : (t422 != 1) = true := bne_iff_ne.mpr c22
 by_cases c39 : t422 = 2
 ·
  rw [if_pos c39] at H
  have c39b0 : (t422 == 2) = true := beq_iff_eq.mpr c39
  have c39b1 : (t422 != 2) = false := bne_eq_false_iff_eq.mpr c39
  clear c39
  obtain ⟨⟨t437, t438, t439⟩, A40, H⟩ := bindE H
  try dsimp only at H
  simp only [Option.some.injEq, Prod.mk.injEq] at H
  obtain ⟨rfl, rfl, rfl, rfl, rfl, rfl⟩ := H
  go_wp2_with (first | ((with_reducible refine gate_callee (f := 129) rfl ?_); refine gL (some 26) Try.func129 #[.pointer (some ⟨g, 0, none⟩)] ?_; (with_reducible refine (spec_l4Raw.calls g s0_0 t423 t424 t437 t438 t439 w0 _ ?_ ?_ A40.out).mono ?_); exact sI1382 HI0.out NB0_411.out NB0_421.out; exact sB3 HB.out (IsS138.ge HI0.out) GE411.out GE421.out; rintro e w49 ⟨rfl, hi, hb, hk⟩; refine ⟨_, rfl, ?_⟩; replace BK411 := Aside0.mk (KeepBut.blk hk (g' := gb411) (o := .cells #[.int .i64 0, .int .i64 0, .int .i64 0, .int .i64 0] 50 (0, 0)) (bK BK411) NB411_0.out (by simp)); replace BK421 := Aside0.mk (KeepBut.blk hk (g' := gb421) (o := .cells #[.int .i64 t415, .int .i64 t416, .int .i64 t417, .int .i64 t418] 50 (0, 0)) (bK BK421) NB421_0.out (by simp)); replace HK := Aside0.mk (KeepBut.trans (by exact sK2 HK.out GW411.out GW421.out) hk (.inl rfl)); replace HB := Aside0.mk (hb); replace HI0 := Aside0.mk (hi); (try clear hb); (try clear hk); (try clear hi); obtain ⟨_, _, _, _, _, _, _, _⟩ := blkc4 BK421; have hnb51 := NB411_0.out; have hnc51 := NB0_411.out; obtain ⟨_, _, _, _, _, _, _, _⟩ := blkc4 BK411))
  refine bodyPost_ret (results_cell_row rfl _ _ gb411 50 #[.int .i64 t415, .int .i64 t416, .int .i64 t437, .int .i64 t418] (0, 0) _ rfl (kP BK411 NB411_421) Try.underlying50 rfl (by kernel_rfl)) rfl ?_
  exact ⟨rA, by exact sI1382 HI0.out NB0_411.out NB0_421.out, by exact sB3 HB.out (IsS138.ge HI0.out) GE411.out GE421.out, by exact sK2 HK.out GW411.out GW421.out⟩
 rw [if_neg c39] at H
 have c39b0 : (t422 == 2) = false := beq_eq_false_iff_ne.mpr c39
 have c39b1 : (t422 != 2) = true := bne_iff_ne.mpr c39
 by_cases c53 : t422 = 3
 ·
  rw [if_pos c53] at H
  have c53b0 : (t422 == 3) = true := beq_iff_eq.mpr c53
  have c53b1 : (t422 != 3) = false := bne_eq_false_iff_eq.mpr c53
  clear c53
  obtain ⟨⟨t440, t441, t442⟩, A54, H⟩ := bindE H
  try dsimp only at H
  simp only [Option.some.injEq, Prod.mk.injEq] at H
  obtain ⟨rfl, rfl, rfl, rfl, rfl, rfl⟩ := H
  go_wp2_with (first | ((with_reducible refine gate_callee (f := 129) rfl ?_); refine gL (some 31) Try.func129 #[.pointer (some ⟨g, 0, none⟩)] ?_; (with_reducible refine (spec_l4Raw.calls g s0_0 t423 t424 t440 t441 t442 w0 _ ?_ ?_ A54.out).mono ?_); exact sI1382 HI0.out NB0_411.out NB0_421.out; exact sB3 HB.out (IsS138.ge HI0.out) GE411.out GE421.out; rintro e w63 ⟨rfl, hi, hb, hk⟩; refine ⟨_, rfl, ?_⟩; replace BK411 := Aside0.mk (KeepBut.blk hk (g' := gb411) (o := .cells #[.int .i64 0, .int .i64 0, .int .i64 0, .int .i64 0] 50 (0, 0)) (bK BK411) NB411_0.out (by simp)); replace BK421 := Aside0.mk (KeepBut.blk hk (g' := gb421) (o := .cells #[.int .i64 t415, .int .i64 t416, .int .i64 t417, .int .i64 t418] 50 (0, 0)) (bK BK421) NB421_0.out (by simp)); replace HK := Aside0.mk (KeepBut.trans (by exact sK2 HK.out GW411.out GW421.out) hk (.inl rfl)); replace HB := Aside0.mk (hb); replace HI0 := Aside0.mk (hi); (try clear hb); (try clear hk); (try clear hi); obtain ⟨_, _, _, _, _, _, _, _⟩ := blkc4 BK421; have hnb65 := NB411_0.out; have hnc65 := NB0_411.out; obtain ⟨_, _, _, _, _, _, _, _⟩ := blkc4 BK411))
  refine bodyPost_ret (results_cell_row rfl _ _ gb411 50 #[.int .i64 t415, .int .i64 t416, .int .i64 t417, .int .i64 t440] (0, 0) _ rfl (kP BK411 NB411_421) Try.underlying50 rfl (by kernel_rfl)) rfl ?_
  exact ⟨rA, by exact sI1382 HI0.out NB0_411.out NB0_421.out, by exact sB3 HB.out (IsS138.ge HI0.out) GE411.out GE421.out, by exact sK2 HK.out GW411.out GW421.out⟩
 rw [if_neg c53] at H
 have c53b0 : (t422 == 3) = false := beq_eq_false_iff_ne.mpr c53
 have c53b1 : (t422 != 3) = true := bne_iff_ne.mpr c53
 simp only [Option.some.injEq, Prod.mk.injEq] at H
 obtain ⟨rfl, rfl, rfl, rfl, rfl, rfl⟩ := H
 obtain ⟨_, _, _, _, _, _, _, _⟩ := blkc4 BK421
 have hnb76 := NB411_0.out
 have hnc76 := NB0_411.out
 obtain ⟨_, _, _, _, _, _, _, _⟩ := blkc4 BK411
 go_wp2
 refine bodyPost_ret (results_cell_row rfl _ _ gb411 50 #[.int .i64 t415, .int .i64 t416, .int .i64 t417, .int .i64 t418] (0, 0) _ rfl (kp BK411) Try.underlying50 rfl (by kernel_rfl)) rfl ?_
 exact ⟨rA, by exact sI1382 HI0.out NB0_411.out NB0_421.out, by exact sB3 HB.out (IsS138.ge HI0.out) GE411.out GE421.out, by exact sK2 HK.out GW411.out GW421.out⟩

/-! ### spec_l5Any: function 125 -/
def spec_l5Any.f (k : Nat) (s0_0 : List Int) (s0_1 : Int) (s0_2 : Int) : Option ((List (S50)) × Int × Int) := (spec_l5Draw.f k s0_0 s0_1 s0_2).bind fun bt443 => ((spec_l1Once.f s0_0 bt443.2.1 bt443.2.2 6).bind fun bt448 => (if bt448.1 = true then ((spec_l1Below.f s0_0 bt448.2.1 bt448.2.2 (bt443.1.length : Int)).bind fun bt451 => ((spec_l4Any.f s0_0 bt451.2.1 bt451.2.2).bind fun bt454 => (if 0 ≤ bt451.1 then (if bt451.1 < (bt443.1.length : Int) then (some ((bt443.1.set (bt451.1 : Int).toNat (⟨bt454.1, bt454.2.1, bt454.2.2.1, bt454.2.2.2.1⟩ : S50)), bt454.2.2.2.2.1, bt454.2.2.2.2.2)) else (none)) else (none)))) else (some (bt443.1, bt448.2.1, bt448.2.2))))
theorem spec_l5Any.mono : ∀ a0 a1 a2 k, LeO (spec_l5Any.f k a0 a1 a2) (spec_l5Any.f (k + 1) a0 a1 a2) := by
 intro a0 a1 a2 k
 unfold spec_l5Any.f
 exact mz1 spec_l5Draw.mono
set_option maxHeartbeats 8000000 in
set_option maxRecDepth 100000 in
theorem spec_l5Any.calls (k : Nat) (g : Nat) (s0_0 : List Int) (s0_1 : Int) (s0_2 : Int) (r1 : List (S50)) (r2 : Int) (r3 : Int) (w0 w : World) (hI : IsS138 w0 w g s0_0 s0_1 s0_2) (hB : Below w0.heap.size w0 w) (h : spec_l5Any.f k s0_0 s0_1 s0_2 = some (r1, r2, r3)) :
  Calls Try.prog 125 #[.pointer (some ⟨g, 0, none⟩)] w fun e w' => ∃ v0_ : Value, e = .returned (v0_) ∧ Kd.R k50 50 w' w.heap.size (fun _ => True) v0_ r1 ∧ IsS138 w0 w' g s0_0 r2 r3 ∧ Below w0.heap.size w0 w' ∧ KeepBut w w' g none := by
 have hu50 := Try.underlying50
 have HI0 := Aside0.mk hI
 have HK := Aside0.mk (KeepBut.refl w g none)
 have HL := Aside0.mk hB.size
 clear hI
 have HW0 := Aside0.mk hB.size
 have HB := Aside0.mk hB
 clear hB
 have H : ((spec_l5Draw.f k s0_0 s0_1 s0_2).bind fun bt443 => ((spec_l1Once.f s0_0 bt443.2.1 bt443.2.2 6).bind fun bt448 => (if bt448.1 = true then ((spec_l1Below.f s0_0 bt448.2.1 bt448.2.2 (bt443.1.length : Int)).bind fun bt451 => ((spec_l4Any.f s0_0 bt451.2.1 bt451.2.2).bind fun bt454 => (if 0 ≤ bt451.1 then (if bt451.1 < (bt443.1.length : Int) then (some ((bt443.1.set (bt451.1 : Int).toNat (⟨bt454.1, bt454.2.1, bt454.2.2.1, bt454.2.2.2.1⟩ : S50)), bt454.2.2.2.2.1, bt454.2.2.2.2.2)) else (none)) else (none)))) else (some (bt443.1, bt448.2.1, bt448.2.2))))) = some (r1, r2, r3) := h
 clear h
 obtain ⟨⟨t443, t446, t447⟩, A2, H⟩ := bindE H
 try dsimp only at H
 obtain ⟨⟨t448, t449, t450⟩, A3, H⟩ := bindE H
 try dsimp only at H
 by_cases c4 : t448 = true
 ·
  subst c4
  have H1 : ((spec_l1Below.f s0_0 t449 t450 (t443.length : Int)).bind fun bt451 => ((spec_l4Any.f s0_0 bt451.2.1 bt451.2.2).bind fun bt454 => (if 0 ≤ bt451.1 then (if bt451.1 < (t443.length : Int) then (some ((t443.set (bt451.1 : Int).toNat (⟨bt454.1, bt454.2.1, bt454.2.2.1, bt454.2.2.2.1⟩ : S50)), bt454.2.2.2.2.1, bt454.2.2.2.2.2)) else (none)) else (none)))) = some (r1, r2, r3) := by rw [if_pos rfl] at H; exact H
  clear H
  have H := H1
  clear H1
  obtain ⟨⟨t451, t452, t453⟩, A5, H⟩ := bindE H
  try dsimp only at H
  obtain ⟨⟨t454, t455, t456, t457, t458, t459⟩, A6, H⟩ := bindE H
  try dsimp only at H
  have c7 : 0 ≤ t451 := ifN H
  replace H := ifT H
  have c7b0 := decide_eq_true c7
  clear c7
  have c8 : t451 < (t443.length : Int) := ifN H
  replace H := ifT H
  have c8b0 := decide_eq_true c8
  clear c8
  obtain ⟨y460, hy460⟩ : ∃ y_ : List (S50), y_ = (t443.set (t451 : Int).toNat (⟨t454, t455, t456, t457⟩ : S50)) := ⟨_, rfl⟩
  replace H : (some (y460, t458, t459)) = some (r1, r2, r3) := rH H hy460
  have Ny460 := Aside0.mk hy460
  clear hy460
  simp only [Option.some.injEq, Prod.mk.injEq] at H
  obtain ⟨rfl, rfl, rfl⟩ := H
  go_enter Try.func125, Try.ntmps125
  go_wp2_with (first | ((with_reducible refine gate_callee (f := 150) rfl ?_); refine gL (some 5) Try.func150 #[.pointer (some ⟨g, 0, none⟩)] ?_; (with_reducible refine (spec_l5Draw.calls k g s0_0 s0_1 s0_2 t443 t446 t447 w0 _ ?_ ?_ A2.out).mono ?_); exact sI1380 HI0.out; exact sB1 HB.out (IsS138.ge HI0.out); rintro e w10 ⟨v444, rfl, ho0, hi, hb, hk⟩; refine ⟨_, rfl, ?_⟩; have HO445 := Aside0.mk (Kd.R_lower ho0 (keep_size (w := w) (g := g) (row := none) (by exact sK0 HK.out))); replace HK := Aside0.mk (KeepBut.trans (by exact sK0 HK.out) hk (.inl rfl)); replace HB := Aside0.mk (hb); replace HI0 := Aside0.mk (hi); (try clear hb); (try clear hk); (try clear hi); (try clear ho0)) | ((with_reducible refine gate_callee (f := 93) rfl ?_); refine gL (some 7) Try.func93 #[.pointer (some ⟨g, 0, none⟩), .int .i64 6] ?_; (with_reducible refine (spec_l1Once.calls g s0_0 t446 t447 6 true t449 t450 w0 _ ?_ ?_ A3.out).mono ?_); exact sI1380 HI0.out; exact sB1 HB.out (IsS138.ge HI0.out); rintro e w11 ⟨rfl, hi, hb, hk⟩; refine ⟨_, rfl, ?_⟩; replace HO445 := Aside0.mk (Kd.R_mono (Kd.R_keep (IsS138.apart (show IsS138 w0 _ g s0_0 t446 t447 from by exact sI1380 HI0.out) (rK HO445) (by decide)) hk (fun _ h => h.2)) (fun _ h => h.1)); replace HK := Aside0.mk (KeepBut.trans (by exact sK0 HK.out) hk (.inl rfl)); replace HB := Aside0.mk (hb); replace HI0 := Aside0.mk (hi); (try clear hb); (try clear hk); (try clear hi); obtain ⟨Ao12, co12, eo12⟩ := Kd.R_slice HO445.out; subst eo12) | ((with_reducible refine gate_callee (f := 84) rfl ?_); refine gL (some 12) Try.func84 #[.pointer (some ⟨g, 0, none⟩), .int .i64 (t443.length : Int)] ?_; (with_reducible refine (spec_l1Below.calls g s0_0 t449 t450 (t443.length : Int) t451 t452 t453 w0 _ ?_ ?_ A5.out).mono ?_); exact sI1380 HI0.out; exact sB1 HB.out (IsS138.ge HI0.out); rintro e w13 ⟨rfl, hi, hb, hk⟩; refine ⟨_, rfl, ?_⟩; replace HO445 := Aside0.mk (Kd.R_mono (Kd.R_keep (IsS138.apart (show IsS138 w0 _ g s0_0 t449 t450 from by exact sI1380 HI0.out) (rK HO445) (by decide)) hk (fun _ h => h.2)) (fun _ h => h.1)); replace HK := Aside0.mk (KeepBut.trans (by exact sK0 HK.out) hk (.inl rfl)); replace HB := Aside0.mk (hb); replace HI0 := Aside0.mk (hi); (try clear hb); (try clear hk); (try clear hi)) | ((with_reducible refine gate_callee (f := 152) rfl ?_); refine gL (some 14) Try.func152 #[.pointer (some ⟨g, 0, none⟩)] ?_; (with_reducible refine (spec_l4Any.calls g s0_0 t452 t453 t454 t455 t456 t457 t458 t459 w0 _ ?_ ?_ A6.out).mono ?_); exact sI1380 HI0.out; exact sB1 HB.out (IsS138.ge HI0.out); rintro e w14 ⟨rfl, hi, hb, hk⟩; refine ⟨_, rfl, ?_⟩; replace HO445 := Aside0.mk (Kd.R_mono (Kd.R_keep (IsS138.apart (show IsS138 w0 _ g s0_0 t452 t453 from by exact sI1380 HI0.out) (rK HO445) (by decide)) hk (fun _ h => h.2)) (fun _ h => h.1)); replace HK := Aside0.mk (KeepBut.trans (by exact sK0 HK.out) hk (.inl rfl)); replace HB := Aside0.mk (hb); replace HI0 := Aside0.mk (hi); (try clear hb); (try clear hk); (try clear hi); have p9 : 0 ≤ (t451 : Int) := dA; have q9 : (t451 : Int) < ((t443.length : Int) : Int) := dA; obtain ⟨go9, co9, eo9, gb9, gl9, cl9, HG9⟩ := Kd.R_form HO445.out (by omega); (first | cases eo9 | (injection eo9 with ea_ en_ ec_; (first | subst ea_ | (injection ea_ with ea_; subst ea_)); subst ec_; clear en_)); have GB9 := Aside0.mk gb9; have GG9 := Aside0.mk HG9; clear gb9 gl9 HG9; obtain ⟨ce9, hcl9, hM9, hcc9, hfr9⟩ := Kd.R_elem HO445.out z50 (t451 : Int) p9 q9; obtain rfl := k50_openM hM9; have hx9_0 : w14.cell? ⟨go9, (t451 : Int).toNat * 4, none⟩ = some (.int .i64 ((rd_T50 t443 t451).f0)) := hcc9 0 _ rfl; have hx9_1 : w14.cell? ⟨go9, (t451 : Int).toNat * 4 + 1, none⟩ = some (.int .i64 ((rd_T50 t443 t451).f1)) := hcc9 1 _ rfl; have hx9_2 : w14.cell? ⟨go9, (t451 : Int).toNat * 4 + 2, none⟩ = some (.int .i64 ((rd_T50 t443 t451).f2)) := hcc9 2 _ rfl; have hx9_3 : w14.cell? ⟨go9, (t451 : Int).toNat * 4 + 3, none⟩ = some (.int .i64 ((rd_T50 t443 t451).f3)) := hcc9 3 _ rfl; have hf9_0 : w14.frozen? ⟨go9, (t451 : Int).toNat * 4, none⟩ = false := hfr9 0; have hf9_1 : w14.frozen? ⟨go9, (t451 : Int).toNat * 4 + 1, none⟩ = false := hfr9 1; have hf9_2 : w14.frozen? ⟨go9, (t451 : Int).toNat * 4 + 2, none⟩ = false := hfr9 2; have hf9_3 : w14.frozen? ⟨go9, (t451 : Int).toNat * 4 + 3, none⟩ = false := hfr9 3; clear hcl9 hcc9 hfr9 hM9; replace p9 := eq_true p9; replace q9 := eq_true q9; have HX15 := Aside0.mk (show Kd.R k50 50 w14 w.heap.size (fun _ => True) (.slice (some ⟨go9, 0, none⟩) t443.length co12) t443 from (rK HO445)); obtain ⟨ce15, hcl15, hM15, hcc15, hfr15⟩ := Kd.R_elem HX15.out z50 (t451 : Int) (dA) (by have h_ : (t451 : Int) < ((t443.length : Int) : Int) := dA; first | exact h_ | (have e_ := (Kd.R_reads' HO445.out).1; omega) | simpa using h_); obtain rfl := k50_openM hM15; have HP15 := Kd.R_seg HX15.out (t451 : Int) (dA) (by have h_ : (t451 : Int) < ((t443.length : Int) : Int) := dA; first | exact h_ | (have e_ := (Kd.R_reads' HO445.out).1; omega) | simpa using h_) (seg := [.int .i64 t454, .int .i64 t455, .int .i64 t456, .int .i64 t457]) (j := 0) hcl15 hcc15 (show 4 ≤ 4 from by decide) (x' := (⟨t454, t455, t456, t457⟩ : S50)) (k50_mkM _ _ _ (⟨t454, t455, t456, t457⟩ : S50) ) (fun _ hk => hk); have hx15_0 := hcc15 0 _ rfl; (try simp only [show (k50).sz = 4 from rfl, Nat.mul_one, Nat.add_zero] at hx15_0); have hf15_0 := hfr15 0; (try simp only [show (k50).sz = 4 from rfl, Nat.mul_one, Nat.add_zero] at hf15_0); have hx15_1 := hcc15 1 _ rfl; (try simp only [show (k50).sz = 4 from rfl, Nat.mul_one, Nat.add_zero] at hx15_1); have hf15_1 := hfr15 1; (try simp only [show (k50).sz = 4 from rfl, Nat.mul_one, Nat.add_zero] at hf15_1); have hx15_2 := hcc15 2 _ rfl; (try simp only [show (k50).sz = 4 from rfl, Nat.mul_one, Nat.add_zero] at hx15_2); have hf15_2 := hfr15 2; (try simp only [show (k50).sz = 4 from rfl, Nat.mul_one, Nat.add_zero] at hf15_2); have hx15_3 := hcc15 3 _ rfl; (try simp only [show (k50).sz = 4 from rfl, Nat.mul_one, Nat.add_zero] at hx15_3); have hf15_3 := hfr15 3; (try simp only [show (k50).sz = 4 from rfl, Nat.mul_one, Nat.add_zero] at hf15_3); clear hcl15 hcc15 hfr15 hM15) | ((with_reducible refine gate_store (t := 50) (p := 15) rfl ?_); refine store_event (t := 50) (p := 15) (v := ?vo_w16) (w1 := ((((w14.setCell ⟨go9, (t451 : Int).toNat * 4, none⟩ (.int .i64 t454)).setCell ⟨go9, (t451 : Int).toNat * 4 + 1, none⟩ (.int .i64 t455)).setCell ⟨go9, (t451 : Int).toNat * 4 + 2, none⟩ (.int .i64 t456)).setCell ⟨go9, (t451 : Int).toNat * 4 + 3, none⟩ (.int .i64 t457))) ?hg ?ho ?hn ?hr ?_; (case ho => rfl); (case hg => rfl); (case hn => rfl); (case hr => first | (go_simp; done) | (go_simp; rfl)); intro w16 hw; have hg : w14.grownBy w16 (some go9) := (by rw [hw]; exact HP15.2); have hp_ : Kd.R k50 50 w16 w.heap.size (fun _ => True) (.slice (some ⟨go9, 0, none⟩) t443.length co12) y460 := (by rw [hw, Ny460.out]; exact HP15.1); clear HP15; have n0_ := Aside0.mk (IsS138.grown (by exact sI1380 HI0.out) hg (IsS138.own_ne HI0.out HO445.out (by decide))); have n1_ := Aside0.mk (hp_); have n2_ := Aside0.mk ((by rw [hw]; exact below_set (below_set (below_set (below_set (HB.out) (Nat.le_trans HL.out GB9.out)) (Nat.le_trans HL.out GB9.out)) (Nat.le_trans HL.out GB9.out)) (Nat.le_trans HL.out GB9.out) : Below w0.heap.size w0 w16)); have n3_ := Aside0.mk (KeepBut.trans (by exact sK0 HK.out) (KeepBut.of_grown hg g) (Kd.R_base2 HO445.out)); clear HI0; clear HO445; clear HB; clear HK; have HI0 := n0_; have HO445 := n1_; have HB := n2_; have HK := n3_; clear n0_ n1_ n2_ n3_; clear hg hw hp_))
  go_ret
  exact ⟨_, rA, rK HO445, by exact sI1380 HI0.out, by exact sB1 HB.out (IsS138.ge HI0.out), by exact sK0 HK.out⟩
 replace c4 := Bool.eq_false_iff.mpr c4
 subst c4
 have H1 : (some (t443, t449, t450)) = some (r1, r2, r3) := by rw [if_neg (show ¬ (false = true) by decide)] at H; exact H
 clear H
 have H := H1
 clear H1
 simp only [Option.some.injEq, Prod.mk.injEq] at H
 obtain ⟨rfl, rfl, rfl⟩ := H
 go_enter Try.func125, Try.ntmps125
 go_wp2_with (first | ((with_reducible refine gate_callee (f := 150) rfl ?_); refine gL (some 5) Try.func150 #[.pointer (some ⟨g, 0, none⟩)] ?_; (with_reducible refine (spec_l5Draw.calls k g s0_0 s0_1 s0_2 t443 t446 t447 w0 _ ?_ ?_ A2.out).mono ?_); exact sI1380 HI0.out; exact sB1 HB.out (IsS138.ge HI0.out); rintro e w17 ⟨v444, rfl, ho0, hi, hb, hk⟩; refine ⟨_, rfl, ?_⟩; have HO445 := Aside0.mk (Kd.R_lower ho0 (keep_size (w := w) (g := g) (row := none) (by exact sK0 HK.out))); replace HK := Aside0.mk (KeepBut.trans (by exact sK0 HK.out) hk (.inl rfl)); replace HB := Aside0.mk (hb); replace HI0 := Aside0.mk (hi); (try clear hb); (try clear hk); (try clear hi); (try clear ho0)) | ((with_reducible refine gate_callee (f := 93) rfl ?_); refine gL (some 7) Try.func93 #[.pointer (some ⟨g, 0, none⟩), .int .i64 6] ?_; (with_reducible refine (spec_l1Once.calls g s0_0 t446 t447 6 false t449 t450 w0 _ ?_ ?_ A3.out).mono ?_); exact sI1380 HI0.out; exact sB1 HB.out (IsS138.ge HI0.out); rintro e w18 ⟨rfl, hi, hb, hk⟩; refine ⟨_, rfl, ?_⟩; replace HO445 := Aside0.mk (Kd.R_mono (Kd.R_keep (IsS138.apart (show IsS138 w0 _ g s0_0 t446 t447 from by exact sI1380 HI0.out) (rK HO445) (by decide)) hk (fun _ h => h.2)) (fun _ h => h.1)); replace HK := Aside0.mk (KeepBut.trans (by exact sK0 HK.out) hk (.inl rfl)); replace HB := Aside0.mk (hb); replace HI0 := Aside0.mk (hi); (try clear hb); (try clear hk); (try clear hi)))
 go_ret
 exact ⟨_, rA, rK HO445, by exact sI1380 HI0.out, by exact sB1 HB.out (IsS138.ge HI0.out), by exact sK0 HK.out⟩

/-! ### spec_l8Any: function 82 -/
def spec_l8Any.f (k : Nat) (s0_0 : List Int) (s0_1 : Int) (s0_2 : Int) : Option ((List (S50)) × (List (S85)) × Int × Int) := (spec_l8Draw.f k s0_0 s0_1 s0_2).bind fun bt461 => (if (bt461.2.1.length : Int) = 0 then (some (bt461.1, bt461.2.1, bt461.2.2.1, bt461.2.2.2)) else ((spec_l1Below.f s0_0 bt461.2.2.1 bt461.2.2.2 (bt461.2.1.length : Int)).bind fun bt469 => ((spec_l1Below.f s0_0 bt469.2.1 bt469.2.2 10).bind fun bt472 => (if bt472.1 = 0 then ((spec_l1Int.f s0_0 bt472.2.1 bt472.2.2 (([4, 60, 61, 9223372036854775807] : List Int))).bind fun bt478 => (if 0 ≤ bt469.1 then (if bt469.1 < (bt461.2.1.length : Int) then (some (bt461.1, (bt461.2.1.set (bt469.1 : Int).toNat (⟨(rd_T85 bt461.2.1 bt469.1).f0, bt478.1⟩ : S85)), bt478.2.1, bt478.2.2)) else (none)) else (none))) else (if bt472.1 = 1 then (if 0 ≤ bt469.1 then (if bt469.1 < (bt461.2.1.length : Int) then (if 1 ≤ (((rd_T85 bt461.2.1 bt469.1).f0).length : Int) then (some (bt461.1, (bt461.2.1.set (bt469.1 : Int).toNat (⟨(((rd_T85 bt461.2.1 bt469.1).f0).drop 1), (rd_T85 bt461.2.1 bt469.1).f1⟩ : S85)), bt472.2.1, bt472.2.2)) else (none)) else (none)) else (none)) else (if bt472.1 = 2 then ((spec_l5Any.f k s0_0 bt472.2.1 bt472.2.2).bind fun bt489 => (some (bt489.1, bt461.2.1, bt489.2.1, bt489.2.2))) else (if bt472.1 = 3 then (if 1 ≤ (bt461.2.1.length : Int) then (some (bt461.1, (bt461.2.1.drop 1), bt472.2.1, bt472.2.2)) else (none)) else (some (bt461.1, bt461.2.1, bt472.2.1, bt472.2.2)))))))))
theorem spec_l8Any.mono : ∀ a0 a1 a2 k, LeO (spec_l8Any.f k a0 a1 a2) (spec_l8Any.f (k + 1) a0 a1 a2) := by
 intro a0 a1 a2 k
 unfold spec_l8Any.f
 exact mz2 spec_l5Any.mono spec_l8Draw.mono
set_option maxHeartbeats 8000000 in
set_option maxRecDepth 100000 in
theorem spec_l8Any.calls (k : Nat) (g : Nat) (s0_0 : List Int) (s0_1 : Int) (s0_2 : Int) (r1 : List (S50)) (r2 : List (S85)) (r3 : Int) (r4 : Int) (w0 w : World) (hI : IsS138 w0 w g s0_0 s0_1 s0_2) (hB : Below w0.heap.size w0 w) (h : spec_l8Any.f k s0_0 s0_1 s0_2 = some (r1, r2, r3, r4)) :
  Calls Try.prog 82 #[.pointer (some ⟨g, 0, none⟩)] w fun e w' => ∃ v0_ v1_ : Value, e = .returned (.tuple #[v0_, v1_]) ∧ Kd.R k50 50 w' w.heap.size (fun k_ => (w.heap.size ≤ k_)) v0_ r1 ∧ Kd.V k85 85 w' w.heap.size (fun k_ => (w.heap.size ≤ k_) ∧ some k_ ≠ (v0_ : Value).ownBlock) v1_ r2 ∧ IsS138 w0 w' g s0_0 r3 r4 ∧ Below w0.heap.size w0 w' ∧ KeepBut w w' g none := by
 have HI0 := Aside0.mk hI
 have HK := Aside0.mk (KeepBut.refl w g none)
 have HL := Aside0.mk hB.size
 clear hI
 have HW0 := Aside0.mk hB.size
 have HB := Aside0.mk hB
 clear hB
 have H : ((spec_l8Draw.f k s0_0 s0_1 s0_2).bind fun bt461 => (if (bt461.2.1.length : Int) = 0 then (some (bt461.1, bt461.2.1, bt461.2.2.1, bt461.2.2.2)) else ((spec_l1Below.f s0_0 bt461.2.2.1 bt461.2.2.2 (bt461.2.1.length : Int)).bind fun bt469 => ((spec_l1Below.f s0_0 bt469.2.1 bt469.2.2 10).bind fun bt472 => (if bt472.1 = 0 then ((spec_l1Int.f s0_0 bt472.2.1 bt472.2.2 (([4, 60, 61, 9223372036854775807] : List Int))).bind fun bt478 => (if 0 ≤ bt469.1 then (if bt469.1 < (bt461.2.1.length : Int) then (some (bt461.1, (bt461.2.1.set (bt469.1 : Int).toNat (⟨(rd_T85 bt461.2.1 bt469.1).f0, bt478.1⟩ : S85)), bt478.2.1, bt478.2.2)) else (none)) else (none))) else (if bt472.1 = 1 then (if 0 ≤ bt469.1 then (if bt469.1 < (bt461.2.1.length : Int) then (if 1 ≤ (((rd_T85 bt461.2.1 bt469.1).f0).length : Int) then (some (bt461.1, (bt461.2.1.set (bt469.1 : Int).toNat (⟨(((rd_T85 bt461.2.1 bt469.1).f0).drop 1), (rd_T85 bt461.2.1 bt469.1).f1⟩ : S85)), bt472.2.1, bt472.2.2)) else (none)) else (none)) else (none)) else (if bt472.1 = 2 then ((spec_l5Any.f k s0_0 bt472.2.1 bt472.2.2).bind fun bt489 => (some (bt489.1, bt461.2.1, bt489.2.1, bt489.2.2))) else (if bt472.1 = 3 then (if 1 ≤ (bt461.2.1.length : Int) then (some (bt461.1, (bt461.2.1.drop 1), bt472.2.1, bt472.2.2)) else (none)) else (some (bt461.1, bt461.2.1, bt472.2.1, bt472.2.2)))))))))) = some (r1, r2, r3, r4) := h
 clear h
 obtain ⟨⟨t461, t464, t467, t468⟩, A2, H⟩ := bindE H
 try dsimp only at H
 by_cases c3 : (t464.length : Int) = 0
 ·
  rw [if_pos c3] at H
  have c3b0 : ((t464.length : Int) == 0) = true := beq_iff_eq.mpr c3
  have c3b1 : ((t464.length : Int) != 0) = false := bne_eq_false_iff_eq.mpr c3
  clear c3
  simp only [Option.some.injEq, Prod.mk.injEq] at H
  obtain ⟨rfl, rfl, rfl, rfl⟩ := H
  go_enter Try.func82, Try.ntmps82
  go_wp2_with (first | ((with_reducible refine gate_callee (f := 124) rfl ?_); refine gL (some 9) Try.func124 #[.pointer (some ⟨g, 0, none⟩)] ?_; (with_reducible refine (spec_l8Draw.calls k g s0_0 s0_1 s0_2 t461 t464 t467 t468 w0 _ ?_ ?_ A2.out).mono ?_); exact sI1380 HI0.out; exact sB1 HB.out (IsS138.ge HI0.out); rintro e w4 ⟨v462, v465, rfl, ho0, ho1, hi, hb, hk⟩; refine ⟨_, rfl, ?_⟩; have HO463 := Aside0.mk (Kd.R_lower (Kd.R_newM (M := fun k_ => (w.heap.size ≤ k_)) ho0 (keep_size (w := w) (g := g) (row := none) (by exact sK0 HK.out)) (fun k_ h_ => h_)) (keep_size (w := w) (g := g) (row := none) (by exact sK0 HK.out))); have HO466 := Aside0.mk (Kd.N_lower (Kd.N_mono (ok' := fun k_ => (w.heap.size ≤ k_) ∧ some k_ ≠ (v462 : Value).ownBlock ∧ k_ ≠ g) (Kd.S_N (Kd.S_bound (Kd.S_apart' ho1 (Kd.R_typed ho0) (by decide)))) (fun k_ hk_ => ⟨(Nat.le_trans (keep_size (w := w) (g := g) (row := none) (by exact sK0 HK.out)) hk_.2.1), hk_.1.2, (IsS138.fresh (by exact sI1380 HI0.out) k_ hk_.2.1)⟩)) (keep_size (w := w) (g := g) (row := none) (by exact sK0 HK.out))); replace HK := Aside0.mk (KeepBut.trans (by exact sK0 HK.out) hk (.inl rfl)); replace HB := Aside0.mk (hb); replace HI0 := Aside0.mk (hi); (try clear hb); (try clear hk); (try clear hi); (try clear ho0); (try clear ho1); obtain ⟨Ao5, co5, eo5⟩ := Kd.N_slice HO466.out; subst eo5))
  go_ret2
  exact ⟨_, _, rA, rm HO463 (fun _ hk => hk.1), Kd.N_V (nm HO466 (fun _ hk => ⟨hk.1, hk.2.1⟩)), by exact sI1380 HI0.out, by exact sB1 HB.out (IsS138.ge HI0.out), by exact sK0 HK.out⟩
 rw [if_neg c3] at H
 have c3b0 : ((t464.length : Int) == 0) = false := beq_eq_false_iff_ne.mpr c3
 have c3b1 : ((t464.length : Int) != 0) = true := bne_iff_ne.mpr c3
 have c3b2 : ¬ (t464 = []) := fun h_ => c3 (by rw [h_]; rfl)
 obtain ⟨⟨t469, t470, t471⟩, A6, H⟩ := bindE H
 try dsimp only at H
 obtain ⟨⟨t472, t473, t474⟩, A7, H⟩ := bindE H
 try dsimp only at H
 by_cases c8 : t472 = 0
 ·
  rw [if_pos c8] at H
  have c8b0 : (t472 == 0) = true := beq_iff_eq.mpr c8
  have c8b1 : (t472 != 0) = false := bne_eq_false_iff_eq.mpr c8
  clear c8
  obtain ⟨y475, hy475⟩ : ∃ y_ : List Int, y_ = (([4, 60, 61, 9223372036854775807] : List Int)) := ⟨_, rfl⟩
  replace H : ((spec_l1Int.f s0_0 t473 t474 y475).bind fun bt478 => (if 0 ≤ t469 then (if t469 < (t464.length : Int) then (some (t461, (t464.set (t469 : Int).toNat (⟨(rd_T85 t464 t469).f0, bt478.1⟩ : S85)), bt478.2.1, bt478.2.2)) else (none)) else (none))) = some (r1, r2, r3, r4) := rH H hy475
  have Ny475 := Aside0.mk hy475
  clear hy475
  obtain ⟨⟨t478, t479, t480⟩, A9, H⟩ := bindE H
  try dsimp only at H
  have c10 : 0 ≤ t469 := ifN H
  replace H := ifT H
  have c10b0 := decide_eq_true c10
  clear c10
  have c11 : t469 < (t464.length : Int) := ifN H
  replace H := ifT H
  have c11b0 := decide_eq_true c11
  clear c11
  obtain ⟨y481, hy481⟩ : ∃ y_ : List (S85), y_ = (t464.set (t469 : Int).toNat (⟨(rd_T85 t464 t469).f0, t478⟩ : S85)) := ⟨_, rfl⟩
  replace H : (some (t461, y481, t479, t480)) = some (r1, r2, r3, r4) := rH H hy481
  have Ny481 := Aside0.mk hy481
  clear hy481
  simp only [Option.some.injEq, Prod.mk.injEq] at H
  obtain ⟨rfl, rfl, rfl, rfl⟩ := H
  go_enter Try.func82, Try.ntmps82
  go_wp2_with (first | ((with_reducible refine gate_callee (f := 124) rfl ?_); refine gL (some 9) Try.func124 #[.pointer (some ⟨g, 0, none⟩)] ?_; (with_reducible refine (spec_l8Draw.calls k g s0_0 s0_1 s0_2 t461 t464 t467 t468 w0 _ ?_ ?_ A2.out).mono ?_); exact sI1380 HI0.out; exact sB1 HB.out (IsS138.ge HI0.out); rintro e w13 ⟨v462, v465, rfl, ho0, ho1, hi, hb, hk⟩; refine ⟨_, rfl, ?_⟩; have HO463 := Aside0.mk (Kd.R_lower (Kd.R_newM (M := fun k_ => (w.heap.size ≤ k_)) ho0 (keep_size (w := w) (g := g) (row := none) (by exact sK0 HK.out)) (fun k_ h_ => h_)) (keep_size (w := w) (g := g) (row := none) (by exact sK0 HK.out))); have HO466 := Aside0.mk (Kd.N_lower (Kd.N_mono (ok' := fun k_ => (w.heap.size ≤ k_) ∧ some k_ ≠ (v462 : Value).ownBlock ∧ k_ ≠ g) (Kd.S_N (Kd.S_bound (Kd.S_apart' ho1 (Kd.R_typed ho0) (by decide)))) (fun k_ hk_ => ⟨(Nat.le_trans (keep_size (w := w) (g := g) (row := none) (by exact sK0 HK.out)) hk_.2.1), hk_.1.2, (IsS138.fresh (by exact sI1380 HI0.out) k_ hk_.2.1)⟩)) (keep_size (w := w) (g := g) (row := none) (by exact sK0 HK.out))); replace HK := Aside0.mk (KeepBut.trans (by exact sK0 HK.out) hk (.inl rfl)); replace HB := Aside0.mk (hb); replace HI0 := Aside0.mk (hi); (try clear hb); (try clear hk); (try clear hi); (try clear ho0); (try clear ho1); obtain ⟨Ao14, co14, eo14⟩ := Kd.N_slice HO466.out; subst eo14) | ((with_reducible refine gate_callee (f := 84) rfl ?_); refine gL (some 20) Try.func84 #[.pointer (some ⟨g, 0, none⟩), .int .i64 (t464.length : Int)] ?_; (with_reducible refine (spec_l1Below.calls g s0_0 t467 t468 (t464.length : Int) t469 t470 t471 w0 _ ?_ ?_ A6.out).mono ?_); exact sI1380 HI0.out; exact sB1 HB.out (IsS138.ge HI0.out); rintro e w15 ⟨rfl, hi, hb, hk⟩; refine ⟨_, rfl, ?_⟩; have n0_ := Aside0.mk (Kd.R_mono (Kd.R_keep (IsS138.apart (show IsS138 w0 _ g s0_0 t467 t468 from by exact sI1380 HI0.out) (rK HO463) (by decide)) hk (fun _ h => h.2)) (fun _ h => h.1)); have n1_ := Aside0.mk (Kd.N_mono (Kd.N_keep (Kd.N_mono (ok := fun k_ => (((w.heap.size ≤ k_)) ∧ (some k_ ≠ (v462 : Value).ownBlock ∧ k_ ≠ g))) (by (with_reducible repeat (first | apply Kd.N_alloc | apply Kd.N_drewN | apply Kd.N_drew)); exact HO466.out) (fun k_ hk_ => (⟨hk_, hk_.2.2⟩ : _ ∧ k_ ≠ g))) hk (fun _ h => h.2)) (fun _ h => h.1)); have n2_ := Aside0.mk (KeepBut.trans (by exact sK0 HK.out) hk (.inl rfl)); have n3_ := Aside0.mk (hb); have n4_ := Aside0.mk (hi); clear HO463; clear HO466; clear HK; clear HB; clear HI0; have HO463 := n0_; have HO466 := n1_; have HK := n2_; have HB := n3_; have HI0 := n4_; clear n0_ n1_ n2_ n3_ n4_; (try clear hb); (try clear hk); (try clear hi)) | ((with_reducible refine gate_callee (f := 84) rfl ?_); refine gL (some 22) Try.func84 #[.pointer (some ⟨g, 0, none⟩), .int .i64 10] ?_; (with_reducible refine (spec_l1Below.calls g s0_0 t470 t471 10 t472 t473 t474 w0 _ ?_ ?_ A7.out).mono ?_); exact sI1380 HI0.out; exact sB1 HB.out (IsS138.ge HI0.out); rintro e w16 ⟨rfl, hi, hb, hk⟩; refine ⟨_, rfl, ?_⟩; have n0_ := Aside0.mk (Kd.R_mono (Kd.R_keep (IsS138.apart (show IsS138 w0 _ g s0_0 t470 t471 from by exact sI1380 HI0.out) (rK HO463) (by decide)) hk (fun _ h => h.2)) (fun _ h => h.1)); have n1_ := Aside0.mk (Kd.N_mono (Kd.N_keep (Kd.N_mono (ok := fun k_ => (((w.heap.size ≤ k_)) ∧ (some k_ ≠ (v462 : Value).ownBlock ∧ k_ ≠ g))) (by (with_reducible repeat (first | apply Kd.N_alloc | apply Kd.N_drewN | apply Kd.N_drew)); exact HO466.out) (fun k_ hk_ => (⟨hk_, hk_.2.2⟩ : _ ∧ k_ ≠ g))) hk (fun _ h => h.2)) (fun _ h => h.1)); have n2_ := Aside0.mk (KeepBut.trans (by exact sK0 HK.out) hk (.inl rfl)); have n3_ := Aside0.mk (hb); have n4_ := Aside0.mk (hi); clear HO463; clear HO466; clear HK; clear HB; clear HI0; have HO463 := n0_; have HO466 := n1_; have HK := n2_; have HB := n3_; have HI0 := n4_; clear n0_ n1_ n2_ n3_ n4_; (try clear hb); (try clear hk); (try clear hi)) | ((with_reducible refine gate_dst (N := 28) rfl ?_); refine Kd.R_lit (Kd.int .i64) _ 3 ?hg (N := 28) ?hd (xs := ([4, 60, 61, 9223372036854775807] : List Int)) (inner := [.int .i64 4, .int .i64 60, .int .i64 61, .int .i64 9223372036854775807]) (ok := fun _ => True) (okp := fun _ => True) ?hr ?hp (fun _ hk => hk) trivial (Below.refl _ _) (Nat.le_refl _) (by simp) ?_; (case hd => rfl); (case hg => rfl); (case hr => first | (go_simp; done) | (go_simp; rfl)); (case hp => exact (Reps.one (show Kd.M (Kd.int .i64) _ _ _ 4 [.int .i64 4] from rfl) (Reps.one (show Kd.M (Kd.int .i64) _ _ _ 60 [.int .i64 60] from rfl) (Reps.one (show Kd.M (Kd.int .i64) _ _ _ 61 [.int .i64 61] from rfl) (Reps.one (show Kd.M (Kd.int .i64) _ _ _ 9223372036854775807 [.int .i64 9223372036854775807] from rfl) (Reps.none _ _)))))); intro v476 w17 ho18 hb hg_ hnew_; clear hg_ hnew_; (first | rw [← Ny475.out] at ho18 | (simp only [Int.reduceToNat] at ho18; rw [← Ny475.out] at ho18)); have n0_ := rb HO463 hb; have n1_ := Aside0.mk (Kd.N_elder' (by (with_reducible repeat (first | apply Kd.N_alloc | apply Kd.N_drewN | apply Kd.N_drew)); exact HO466.out) (Kd.R_base ho18) hb); have n2_ := Aside0.mk (Kd.R_lower (Kd.R_newM (M := fun k_ => (w.heap.size ≤ k_)) ho18 (keep_size (w := w) (g := g) (row := none) (by exact sK0 HK.out)) (fun k_ h_ => h_)) (keep_size (w := w) (g := g) (row := none) (by exact sK0 HK.out))); have n3_ := Aside0.mk (IsS138.below (by exact sI1380 HI0.out) hb); have n4_ := Aside0.mk (KeepBut.trans (by exact sK0 HK.out) (KeepBut.of_below hb g none) (.inl rfl)); have n5_ := Aside0.mk (below_step (by exact sB1 HB.out (IsS138.ge HI0.out)) hb); clear HO463; clear HO466; clear HI0; clear HK; clear HB; have HO463 := n0_; have HO466 := n1_; have HO477 := n2_; have HI0 := n3_; have HK := n4_; have HB := n5_; clear n0_ n1_ n2_ n3_ n4_ n5_; clear hb ho18; obtain ⟨Ao19, co19, eo19⟩ := Kd.R_slice HO477.out; subst eo19) | ((with_reducible refine gate_callee (f := 94) rfl ?_); refine gL (some 29) Try.func94 #[.pointer (some ⟨g, 0, none⟩), .slice Ao19 y475.length co19] ?_; (with_reducible refine (spec_l1Int.calls g s0_0 t473 t474 _ _ y475 t478 t479 t480 w0 _ ?_ ?_ ?_ ?_ ?_ A9.out).mono ?_); exact sI1380 HI0.out; exact sB1 HB.out (IsS138.ge HI0.out); exact cO ⟨(Kd.R_reads' HO477.out).2.2⟩; exact (Kd.R_reads' HO477.out).2.1; exact far_slice (IsS138.own_ne HI0.out HO477.out (by decide)); rintro e w20 ⟨rfl, hi, hb, hk⟩; refine ⟨_, rfl, ?_⟩; have n0_ := Aside0.mk (Kd.R_mono (Kd.R_keep (IsS138.apart (show IsS138 w0 _ g s0_0 t473 t474 from by exact sI1380 HI0.out) (rK HO463) (by decide)) hk (fun _ h => h.2)) (fun _ h => h.1)); have n1_ := Aside0.mk (Kd.N_mono (Kd.N_keep (Kd.N_mono (ok := fun k_ => ((((w.heap.size ≤ k_)) ∧ (some k_ ≠ (v462 : Value).ownBlock ∧ k_ ≠ g)) ∧ some k_ ≠ (.slice Ao19 y475.length co19 : Value).ownBlock)) (by (with_reducible repeat (first | apply Kd.N_alloc | apply Kd.N_drewN | apply Kd.N_drew)); exact HO466.out) (fun k_ hk_ => (⟨hk_, hk_.1.2.2⟩ : _ ∧ k_ ≠ g))) hk (fun _ h => h.2)) (fun _ h => h.1)); have n2_ := Aside0.mk (Kd.R_mono (Kd.R_keep (IsS138.apart (show IsS138 w0 _ g s0_0 t473 t474 from by exact sI1380 HI0.out) (rK HO477) (by decide)) hk (fun _ h => h.2)) (fun _ h => h.1)); have n3_ := Aside0.mk (KeepBut.trans (by exact sK0 HK.out) hk (.inl rfl)); have n4_ := Aside0.mk (hb); have n5_ := Aside0.mk (hi); clear HO463; clear HO466; clear HO477; clear HK; clear HB; clear HI0; have HO463 := n0_; have HO466 := n1_; have HO477 := n2_; have HK := n3_; have HB := n4_; have HI0 := n5_; clear n0_ n1_ n2_ n3_ n4_ n5_; (try clear hb); (try clear hk); (try clear hi); have p12 : 0 ≤ (t469 : Int) := dA; have q12 : (t469 : Int) < ((t464.length : Int) : Int) := dA; obtain ⟨go12, co12, eo12, gb12, gl12, cl12, HG12⟩ := Kd.N_form HO466.out (by omega); (first | cases eo12 | (injection eo12 with ea_ en_ ec_; (first | subst ea_ | (injection ea_ with ea_; subst ea_)); subst ec_; clear en_)); have GB12 := Aside0.mk gb12; have GG12 := Aside0.mk HG12; clear gb12 gl12 HG12; obtain ⟨ce12, hcl12, hM12, hcc12, hfr12⟩ := Kd.N_elem HO466.out z85 (t469 : Int) p12 q12; obtain ⟨ua12_0, uc12_0, rfl, ul12_0, ge12_0⟩ := k85_openF hM12; have hx12_0 : w20.cell? ⟨go12, (t469 : Int).toNat * 2, none⟩ = some (.slice ua12_0 ((rd_T85 t464 t469).f0).length uc12_0) := hcc12 0 _ rfl; have hx12_1 : w20.cell? ⟨go12, (t469 : Int).toNat * 2 + 1, none⟩ = some (.int .i64 ((rd_T85 t464 t469).f1)) := hcc12 1 _ rfl; have hf12_0 : w20.frozen? ⟨go12, (t469 : Int).toNat * 2, none⟩ = false := hfr12 0; have hf12_1 : w20.frozen? ⟨go12, (t469 : Int).toNat * 2 + 1, none⟩ = false := hfr12 1; clear hcl12 hcc12 hfr12 hM12; replace p12 := eq_true p12; replace q12 := eq_true q12; have n_ := Aside0.mk (Kd.N_mono (ok' := (fun k_ => (w.heap.size ≤ k_) ∧ some k_ ≠ (v462 : Value).ownBlock ∧ some k_ ≠ (.slice Ao19 y475.length co19 : Value).ownBlock)) HO466.out (fun k_ hk => ⟨hk.1.1, ⟨hk.1.2.1, hk.2⟩⟩)); clear HO466; have HO466 := n_; clear n_; have HX21 := Aside0.mk (show Kd.N k85 85 w20 w.heap.size (fun k_ => (w.heap.size ≤ k_) ∧ some k_ ≠ (v462 : Value).ownBlock ∧ some k_ ≠ (.slice Ao19 y475.length co19 : Value).ownBlock) (.slice (some ⟨go12, 0, none⟩) t464.length co14) t464 from (by (with_reducible repeat (first | apply Kd.N_alloc | apply Kd.N_drewN | apply Kd.N_drew)); exact HO466.out)); obtain ⟨ce21, hcl21, hM21, hcc21, hfr21⟩ := Kd.N_elem HX21.out z85 (t469 : Int) (dA) (by have h_ : (t469 : Int) < ((t464.length : Int) : Int) := dA; first | exact h_ | (have e_ := (Kd.N_reads' HO466.out).1; omega) | simpa using h_); obtain ⟨ua21_0, uc21_0, rfl, ul21_0, ge21_0⟩ := k85_openF hM21; have HP21 := Kd.N_seg HX21.out (t469 : Int) (dA) (by have h_ : (t469 : Int) < ((t464.length : Int) : Int) := dA; first | exact h_ | (have e_ := (Kd.N_reads' HO466.out).1; omega) | simpa using h_) (seg := [.int .i64 t478]) (j := 1) hcl21 hcc21 (show 2 ≤ 2 from by decide) (x' := (⟨(rd_T85 t464 t469).f0, t478⟩ : S85)) (k85_mkF _ _ (⟨(rd_T85 t464 t469).f0, t478⟩ : S85) ul21_0 ge21_0) (fun _ hk => hk); have hx21_1 := hcc21 1 _ rfl; (try simp only [show (k85).sz = 2 from rfl, Nat.mul_one, Nat.add_zero] at hx21_1); have hf21_1 := hfr21 1; (try simp only [show (k85).sz = 2 from rfl, Nat.mul_one, Nat.add_zero] at hf21_1); clear hcl21 hcc21 hfr21 hM21) | ((with_reducible refine gate_store (t := 3) (p := 31) rfl ?_); refine store_event (t := 3) (p := 31) (v := ?vo_w22) (w1 := (w20.setCell ⟨go12, (t469 : Int).toNat * 2 + 1, none⟩ (.int .i64 t478))) ?hg ?ho ?hn ?hr ?_; (case ho => rfl); (case hg => rfl); (case hn => rfl); (case hr => first | (go_simp; done) | (go_simp; rfl)); intro w22 hw; have hg : w20.grownBy w22 (some go12) := (by rw [hw]; exact HP21.2); have hp_ : Kd.N k85 85 w22 w.heap.size (fun k_ => (w.heap.size ≤ k_) ∧ some k_ ≠ (v462 : Value).ownBlock ∧ some k_ ≠ (.slice Ao19 y475.length co19 : Value).ownBlock) (.slice (some ⟨go12, 0, none⟩) t464.length co14) y481 := (by rw [hw, Ny481.out]; exact HP21.1); clear HP21; have n0_ := Aside0.mk (IsS138.grown (by exact sI1380 HI0.out) hg (IsS138.own_neN HI0.out HO466.out (by decide))); have n1_ := Aside0.mk (Kd.R_over' (v := (.slice (some ⟨go12, 0, none⟩) t464.length co14)) (rK HO463) (Kd.N_typed HO466.out) (by decide) hg); have n2_ := Aside0.mk (hp_); have n3_ := Aside0.mk (Kd.R_over' (v := (.slice (some ⟨go12, 0, none⟩) t464.length co14)) (rK HO477) (Kd.N_typed HO466.out) (by decide) hg); have n4_ := Aside0.mk ((by rw [hw]; exact below_set (HB.out) (Nat.le_trans HL.out GB12.out) : Below w0.heap.size w0 w22)); have n5_ := Aside0.mk (KeepBut.trans (by exact sK0 HK.out) (KeepBut.of_grown hg g) (Kd.N_base2 HO466.out)); clear HI0; clear HO463; clear HO466; clear HO477; clear HB; clear HK; have HI0 := n0_; have HO463 := n1_; have HO466 := n2_; have HO477 := n3_; have HB := n4_; have HK := n5_; clear n0_ n1_ n2_ n3_ n4_ n5_; clear hg hw hp_))
  go_ret2
  exact ⟨_, _, rA, rm HO463 (fun _ hk => hk.1), Kd.N_V (nm HO466 (fun _ hk => ⟨hk.1, hk.2.1⟩)), by exact sI1380 HI0.out, by exact sB1 HB.out (IsS138.ge HI0.out), by exact sK0 HK.out⟩
 rw [if_neg c8] at H
 have c8b0 : (t472 == 0) = false := beq_eq_false_iff_ne.mpr c8
 have c8b1 : (t472 != 0) = true := bne_iff_ne.mpr c8
 by_cases c23 : t472 = 1
 ·
  rw [if_pos c23] at H
  have c23b0 : (t472 == 1) = true := beq_iff_eq.mpr c23
  have c23b1 : (t472 != 1) = false := bne_eq_false_iff_eq.mpr c23
  clear c23
  have c24 : 0 ≤ t469 := ifN H
  replace H := ifT H
  have c24b0 := decide_eq_true c24
  clear c24
  have c25 : t469 < (t464.length : Int) := ifN H
  replace H := ifT H
  have c25b0 := decide_eq_true c25
  clear c25
  have c26 : 1 ≤ (((rd_T85 t464 t469).f0).length : Int) := ifN H
  replace H := ifT H
  have c26b0 := eq_true c26
  have c26b1 := decide_eq_true c26
  clear c26
  obtain ⟨y483, hy483⟩ : ∃ y_ : List Int, y_ = (((rd_T85 t464 t469).f0).drop 1) := ⟨_, rfl⟩
  replace H : (some (t461, (t464.set (t469 : Int).toNat (⟨y483, (rd_T85 t464 t469).f1⟩ : S85)), t473, t474)) = some (r1, r2, r3, r4) := rH H hy483
  have Ny483 := Aside0.mk hy483
  clear hy483
  obtain ⟨y488, hy488⟩ : ∃ y_ : List (S85), y_ = (t464.set (t469 : Int).toNat (⟨y483, (rd_T85 t464 t469).f1⟩ : S85)) := ⟨_, rfl⟩
  replace H : (some (t461, y488, t473, t474)) = some (r1, r2, r3, r4) := rH H hy488
  have Ny488 := Aside0.mk hy488
  clear hy488
  simp only [Option.some.injEq, Prod.mk.injEq] at H
  obtain ⟨rfl, rfl, rfl, rfl⟩ := H
  go_enter Try.func82, Try.ntmps82
  go_wp2_with (first | ((with_reducible refine gate_callee (f := 124) rfl ?_); refine gL (some 9) Try.func124 #[.pointer (some ⟨g, 0, none⟩)] ?_; (with_reducible refine (spec_l8Draw.calls k g s0_0 s0_1 s0_2 t461 t464 t467 t468 w0 _ ?_ ?_ A2.out).mono ?_); exact sI1380 HI0.out; exact sB1 HB.out (IsS138.ge HI0.out); rintro e w28 ⟨v462, v465, rfl, ho0, ho1, hi, hb, hk⟩; refine ⟨_, rfl, ?_⟩; have HO463 := Aside0.mk (Kd.R_lower (Kd.R_newM (M := fun k_ => (w.heap.size ≤ k_)) ho0 (keep_size (w := w) (g := g) (row := none) (by exact sK0 HK.out)) (fun k_ h_ => h_)) (keep_size (w := w) (g := g) (row := none) (by exact sK0 HK.out))); have HO466 := Aside0.mk (Kd.N_lower (Kd.N_mono (ok' := fun k_ => (w.heap.size ≤ k_) ∧ some k_ ≠ (v462 : Value).ownBlock ∧ k_ ≠ g) (Kd.S_N (Kd.S_bound (Kd.S_apart' ho1 (Kd.R_typed ho0) (by decide)))) (fun k_ hk_ => ⟨(Nat.le_trans (keep_size (w := w) (g := g) (row := none) (by exact sK0 HK.out)) hk_.2.1), hk_.1.2, (IsS138.fresh (by exact sI1380 HI0.out) k_ hk_.2.1)⟩)) (keep_size (w := w) (g := g) (row := none) (by exact sK0 HK.out))); replace HK := Aside0.mk (KeepBut.trans (by exact sK0 HK.out) hk (.inl rfl)); replace HB := Aside0.mk (hb); replace HI0 := Aside0.mk (hi); (try clear hb); (try clear hk); (try clear hi); (try clear ho0); (try clear ho1); obtain ⟨Ao29, co29, eo29⟩ := Kd.N_slice HO466.out; subst eo29) | ((with_reducible refine gate_callee (f := 84) rfl ?_); refine gL (some 20) Try.func84 #[.pointer (some ⟨g, 0, none⟩), .int .i64 (t464.length : Int)] ?_; (with_reducible refine (spec_l1Below.calls g s0_0 t467 t468 (t464.length : Int) t469 t470 t471 w0 _ ?_ ?_ A6.out).mono ?_); exact sI1380 HI0.out; exact sB1 HB.out (IsS138.ge HI0.out); rintro e w30 ⟨rfl, hi, hb, hk⟩; refine ⟨_, rfl, ?_⟩; have n0_ := Aside0.mk (Kd.R_mono (Kd.R_keep (IsS138.apart (show IsS138 w0 _ g s0_0 t467 t468 from by exact sI1380 HI0.out) (rK HO463) (by decide)) hk (fun _ h => h.2)) (fun _ h => h.1)); have n1_ := Aside0.mk (Kd.N_mono (Kd.N_keep (Kd.N_mono (ok := fun k_ => (((w.heap.size ≤ k_)) ∧ (some k_ ≠ (v462 : Value).ownBlock ∧ k_ ≠ g))) (by (with_reducible repeat (first | apply Kd.N_alloc | apply Kd.N_drewN | apply Kd.N_drew)); exact HO466.out) (fun k_ hk_ => (⟨hk_, hk_.2.2⟩ : _ ∧ k_ ≠ g))) hk (fun _ h => h.2)) (fun _ h => h.1)); have n2_ := Aside0.mk (KeepBut.trans (by exact sK0 HK.out) hk (.inl rfl)); have n3_ := Aside0.mk (hb); have n4_ := Aside0.mk (hi); clear HO463; clear HO466; clear HK; clear HB; clear HI0; have HO463 := n0_; have HO466 := n1_; have HK := n2_; have HB := n3_; have HI0 := n4_; clear n0_ n1_ n2_ n3_ n4_; (try clear hb); (try clear hk); (try clear hi)) | ((with_reducible refine gate_callee (f := 84) rfl ?_); refine gL (some 22) Try.func84 #[.pointer (some ⟨g, 0, none⟩), .int .i64 10] ?_; (with_reducible refine (spec_l1Below.calls g s0_0 t470 t471 10 t472 t473 t474 w0 _ ?_ ?_ A7.out).mono ?_); exact sI1380 HI0.out; exact sB1 HB.out (IsS138.ge HI0.out); rintro e w31 ⟨rfl, hi, hb, hk⟩; refine ⟨_, rfl, ?_⟩; have n0_ := Aside0.mk (Kd.R_mono (Kd.R_keep (IsS138.apart (show IsS138 w0 _ g s0_0 t470 t471 from by exact sI1380 HI0.out) (rK HO463) (by decide)) hk (fun _ h => h.2)) (fun _ h => h.1)); have n1_ := Aside0.mk (Kd.N_mono (Kd.N_keep (Kd.N_mono (ok := fun k_ => (((w.heap.size ≤ k_)) ∧ (some k_ ≠ (v462 : Value).ownBlock ∧ k_ ≠ g))) (by (with_reducible repeat (first | apply Kd.N_alloc | apply Kd.N_drewN | apply Kd.N_drew)); exact HO466.out) (fun k_ hk_ => (⟨hk_, hk_.2.2⟩ : _ ∧ k_ ≠ g))) hk (fun _ h => h.2)) (fun _ h => h.1)); have n2_ := Aside0.mk (KeepBut.trans (by exact sK0 HK.out) hk (.inl rfl)); have n3_ := Aside0.mk (hb); have n4_ := Aside0.mk (hi); clear HO463; clear HO466; clear HK; clear HB; clear HI0; have HO463 := n0_; have HO466 := n1_; have HK := n2_; have HB := n3_; have HI0 := n4_; clear n0_ n1_ n2_ n3_ n4_; (try clear hb); (try clear hk); (try clear hi); have p482 : 0 ≤ (t469 : Int) := dA; have q482 : t469 < (t464.length : Int) := dA; obtain ⟨ad482, A482_0, c482_0, e482, hx482_0, hx482_1, hl482_0, hi482_0⟩ := at_T85 (Kd.N_reads' HO466.out).2.2 t469 p482 q482; cases e482; obtain ⟨ce482, hce482, hMe482, hcc482⟩ := Kd.N_get HO466.out z85 t469 p482 (by first | exact q482 | exact dA | (have e_ := (Kd.N_reads' HO466.out).1; omega)); obtain ⟨ua482_0, uc482_0, rfl, ul482_0, ge482_0⟩ := k85_openF hMe482; have hv482_0 := hcc482 0 _ rfl; rw [Nat.add_zero] at hv482_0; replace hv482_0 := Option.some.inj (hv482_0.symm.trans hx482_0); injection hv482_0 with hva_ hvn_ hvc_; rw [hva_] at ge482_0; rw [hvc_] at ul482_0; have HL482_0 := Aside0.mk (show Kd.V (Kd.int .i64) 3 _ w.heap.size _ _ ((rd_T85 t464 t469).f0) from Kd.V_mk ul482_0 ge482_0); clear hva_ hvn_ hvc_ ge482_0 ul482_0; clear hcc482 hce482; have HR482_0 := Aside0.mk hi482_0; have HC482_0 := Aside0.mk hl482_0; clear hi482_0 hl482_0; replace p482 := eq_true p482; replace q482 := eq_true q482; have q32 : (1 : Int) ≤ ((((rd_T85 t464 t469).f0).length : Int) : Int) := dA; obtain ⟨i032, hi032, _, hsz32, _⟩ := info_parts info3; have hroom32 : ((rd_T85 t464 t469).f0).length ≤ c482_0 := HC482_0.out; have hC32 : Kd.F (Kd.int .i64) _ _ A482_0 ((rd_T85 t464 t469).f0).length ((rd_T85 t464 t469).f0) := (Kd.V_at (base := w.heap.size) HL482_0.out).2.2; have hcut32 := cut_from (P := Try.prog) 35 3 .i64 Try.underlying35 hi032 1 hsz32 A482_0 ((rd_T85 t464 t469).f0).length c482_0 1 (by omega) q32; have hr32 := Kd.F_cut (m := (1 : Int).toNat) (c := c482_0) hC32 (by omega) hroom32; obtain ⟨A32, hA32⟩ : ∃ z_, z_ = (if c482_0 = (1 : Int).toNat then A482_0 else (A482_0 : Option Addr).map (·.add ((1 : Int).toNat * 1))) := ⟨_, rfl⟩; obtain ⟨c32, hc32⟩ : ∃ z_, z_ = c482_0 - (1 : Int).toNat := ⟨_, rfl⟩; have hy32 : y483.length = ((rd_T85 t464 t469).f0).length - (1 : Int).toNat := (by rw [Ny483.out, List.length_drop] <;> omega); rw [show ((rd_T85 t464 t469).f0).drop (1 : Int).toNat = y483 from Ny483.out.symm] at hr32; replace hr32 : Kd.F (Kd.int .i64) _ _ A32 y483.length y483 := (by rw [hA32]; exact hr32); rw [← hy32, ← hA32, ← hc32] at hcut32; have HO487 := Aside0.mk (show Kd.V (Kd.int .i64) 3 _ w.heap.size _ (.slice A32 y483.length c32) y483 from Kd.V_mk (by rw [hy32, hc32]; exact Nat.sub_le_sub_right hroom32 _) hr32); have HC487 := Aside0.mk (show y483.length ≤ c32 from by rw [hy32, hc32]; exact Nat.sub_le_sub_right hroom32 _); clear hr32 hC32 hroom32 hi032 hsz32 hc32; have KY32 := Aside0.mk hy32; have KA32 := Aside0.mk hA32; clear hy32 hA32; replace q32 := eq_true q32; have p27 : 0 ≤ (t469 : Int) := dA; have q27 : (t469 : Int) < ((t464.length : Int) : Int) := dA; obtain ⟨go27, co27, eo27, gb27, gl27, cl27, HG27⟩ := Kd.N_form HO466.out (by omega); (first | cases eo27 | (injection eo27 with ea_ en_ ec_; (first | subst ea_ | (injection ea_ with ea_; subst ea_)); subst ec_; clear en_)); have GB27 := Aside0.mk gb27; have GG27 := Aside0.mk HG27; clear gb27 gl27 HG27; (first | simp only [add_plain] at hx482_0 | skip); (first | simp only [add_plain] at hx482_1 | skip); obtain ⟨ce27, hcl27, hM27, hcc27, hfr27⟩ := Kd.N_elem HO466.out z85 (t469 : Int) p27 q27; obtain ⟨ua27_0, uc27_0, rfl, ul27_0, ge27_0⟩ := k85_openF hM27; have hx27_0 : w31.cell? ⟨go27, (t469 : Int).toNat * 2, none⟩ = some (.slice ua27_0 ((rd_T85 t464 t469).f0).length uc27_0) := hcc27 0 _ rfl; have hx27_1 : w31.cell? ⟨go27, (t469 : Int).toNat * 2 + 1, none⟩ = some (.int .i64 ((rd_T85 t464 t469).f1)) := hcc27 1 _ rfl; have hf27_0 : w31.frozen? ⟨go27, (t469 : Int).toNat * 2, none⟩ = false := hfr27 0; have hf27_1 : w31.frozen? ⟨go27, (t469 : Int).toNat * 2 + 1, none⟩ = false := hfr27 1; clear hcl27 hcc27 hfr27 hM27; replace p27 := eq_true p27; replace q27 := eq_true q27; have HX33 := Aside0.mk (show Kd.N k85 85 w31 w.heap.size (fun k_ => (w.heap.size ≤ k_) ∧ some k_ ≠ (v462 : Value).ownBlock ∧ k_ ≠ g) (.slice (some ⟨go27, 0, none⟩) t464.length co29) t464 from (by (with_reducible repeat (first | apply Kd.N_alloc | apply Kd.N_drewN | apply Kd.N_drew)); exact HO466.out)); obtain ⟨ce33, hcl33, hM33, hcc33, hfr33⟩ := Kd.N_elem HX33.out z85 (t469 : Int) (dA) (by have h_ : (t469 : Int) < ((t464.length : Int) : Int) := dA; first | exact h_ | (have e_ := (Kd.N_reads' HO466.out).1; omega) | simpa using h_); obtain ⟨ua33_0, uc33_0, rfl, ul33_0, ge33_0⟩ := k85_openF hM33; have HP33 := Kd.N_seg HX33.out (t469 : Int) (dA) (by have h_ : (t469 : Int) < ((t464.length : Int) : Int) := dA; first | exact h_ | (have e_ := (Kd.N_reads' HO466.out).1; omega) | simpa using h_) (seg := [.slice A32 y483.length c32]) (j := 0) hcl33 hcc33 (show 1 ≤ 2 from by decide) (x' := (⟨y483, (rd_T85 t464 t469).f1⟩ : S85)) (k85_mkF _ _ (⟨y483, (rd_T85 t464 t469).f1⟩ : S85) (Kd.V_reads' (Kd.V_mono (ok' := (fun k_ => ((fun k_ => (w.heap.size ≤ k_) ∧ some k_ ≠ (v462 : Value).ownBlock ∧ k_ ≠ g)) k_ ∧ k_ ≠ go27)) (HO487.out) (fun k_ hk => ⟨⟨hk.1.1, ⟨hk.1.2.1, hk.1.2.2⟩⟩, fun e_ => (hk.2) (by rw [e_]; rfl)⟩))).2.1 (Kd.V_F (Kd.V_mono (ok' := (fun k_ => ((fun k_ => (w.heap.size ≤ k_) ∧ some k_ ≠ (v462 : Value).ownBlock ∧ k_ ≠ g)) k_ ∧ k_ ≠ go27)) (HO487.out) (fun k_ hk => ⟨⟨hk.1.1, ⟨hk.1.2.1, hk.1.2.2⟩⟩, fun e_ => (hk.2) (by rw [e_]; rfl)⟩)))) (fun _ hk => hk); have hx33_0 := hcc33 0 _ rfl; (try simp only [show (k85).sz = 2 from rfl, Nat.mul_one, Nat.add_zero] at hx33_0); have hf33_0 := hfr33 0; (try simp only [show (k85).sz = 2 from rfl, Nat.mul_one, Nat.add_zero] at hf33_0); clear hcl33 hcc33 hfr33 hM33) | ((with_reducible refine gate_store (t := 35) (p := 43) rfl ?_); refine store_event (t := 35) (p := 43) (v := ?vo_w34) (w1 := (w31.setCell ⟨go27, (t469 : Int).toNat * 2, none⟩ (.slice A32 y483.length c32))) ?hg ?ho ?hn ?hr ?_; (case ho => rfl); (case hg => rfl); (case hn => rfl); (case hr => first | (go_simp; done) | (go_simp; rfl)); intro w34 hw; have hg : w31.grownBy w34 (some go27) := (by rw [hw]; exact HP33.2); have hp_ : Kd.N k85 85 w34 w.heap.size (fun k_ => (w.heap.size ≤ k_) ∧ some k_ ≠ (v462 : Value).ownBlock ∧ k_ ≠ g) (.slice (some ⟨go27, 0, none⟩) t464.length co29) y488 := (by rw [hw, Ny488.out]; exact HP33.1); clear HP33; have n0_ := Aside0.mk (IsS138.grown (by exact sI1380 HI0.out) hg (IsS138.own_neN HI0.out HO466.out (by decide))); have n1_ := Aside0.mk (Kd.R_over' (v := (.slice (some ⟨go27, 0, none⟩) t464.length co29)) (rK HO463) (Kd.N_typed HO466.out) (by decide) hg); have n2_ := Aside0.mk (hp_); have n3_ := Aside0.mk (Kd.V_afterv (v := (.slice (some ⟨go27, 0, none⟩) t464.length co29)) (v1 := (.slice (some ⟨go27, 0, none⟩) t464.length co29)) (ok := (fun k_ => (w.heap.size ≤ k_) ∧ some k_ ≠ (v462 : Value).ownBlock ∧ k_ ≠ g)) (by (with_reducible repeat (first | apply Kd.V_alloc | apply Kd.V_drewN | apply Kd.V_drew)); exact HL482_0.out) hg (.inl rfl)); have n4_ := Aside0.mk (Kd.V_afterv (v := (.slice (some ⟨go27, 0, none⟩) t464.length co29)) (v1 := (.slice (some ⟨go27, 0, none⟩) t464.length co29)) (ok := (fun k_ => (w.heap.size ≤ k_) ∧ some k_ ≠ (v462 : Value).ownBlock ∧ k_ ≠ g)) (by (with_reducible repeat (first | apply Kd.V_alloc | apply Kd.V_drewN | apply Kd.V_drew)); exact HO487.out) hg (.inl rfl)); have n5_ := Aside0.mk ((by rw [hw]; exact below_set (HB.out) (Nat.le_trans HL.out GB27.out) : Below w0.heap.size w0 w34)); have n6_ := Aside0.mk (KeepBut.trans (by exact sK0 HK.out) (KeepBut.of_grown hg g) (Kd.N_base2 HO466.out)); clear HI0; clear HO463; clear HO466; clear HL482_0; clear HO487; clear HB; clear HK; have HI0 := n0_; have HO463 := n1_; have HO466 := n2_; have HL482_0 := n3_; have HO487 := n4_; have HB := n5_; have HK := n6_; clear n0_ n1_ n2_ n3_ n4_ n5_ n6_; clear hg hw hp_))
  go_ret2
  exact ⟨_, _, rA, rm HO463 (fun _ hk => hk.1), Kd.N_V (nm HO466 (fun _ hk => ⟨hk.1, hk.2.1⟩)), by exact sI1380 HI0.out, by exact sB1 HB.out (IsS138.ge HI0.out), by exact sK0 HK.out⟩
 rw [if_neg c23] at H
 have c23b0 : (t472 == 1) = false := beq_eq_false_iff_ne.mpr c23
 have c23b1 : (t472 != 1) = true := bne_iff_ne.mpr c23
 by_cases c35 : t472 = 2
 ·
  rw [if_pos c35] at H
  have c35b0 : (t472 == 2) = true := beq_iff_eq.mpr c35
  have c35b1 : (t472 != 2) = false := bne_eq_false_iff_eq.mpr c35
  clear c35
  obtain ⟨⟨t489, t492, t493⟩, A36, H⟩ := bindE H
  try dsimp only at H
  simp only [Option.some.injEq, Prod.mk.injEq] at H
  obtain ⟨rfl, rfl, rfl, rfl⟩ := H
  go_enter Try.func82, Try.ntmps82
  go_wp2_with (first | ((with_reducible refine gate_callee (f := 124) rfl ?_); refine gL (some 9) Try.func124 #[.pointer (some ⟨g, 0, none⟩)] ?_; (with_reducible refine (spec_l8Draw.calls k g s0_0 s0_1 s0_2 t461 t464 t467 t468 w0 _ ?_ ?_ A2.out).mono ?_); exact sI1380 HI0.out; exact sB1 HB.out (IsS138.ge HI0.out); rintro e w37 ⟨v462, v465, rfl, ho0, ho1, hi, hb, hk⟩; refine ⟨_, rfl, ?_⟩; have HO463 := Aside0.mk (Kd.R_lower (Kd.R_newM (M := fun k_ => (w.heap.size ≤ k_)) ho0 (keep_size (w := w) (g := g) (row := none) (by exact sK0 HK.out)) (fun k_ h_ => h_)) (keep_size (w := w) (g := g) (row := none) (by exact sK0 HK.out))); have HO466 := Aside0.mk (Kd.N_lower (Kd.N_mono (ok' := fun k_ => (w.heap.size ≤ k_) ∧ some k_ ≠ (v462 : Value).ownBlock ∧ k_ ≠ g) (Kd.S_N (Kd.S_bound (Kd.S_apart' ho1 (Kd.R_typed ho0) (by decide)))) (fun k_ hk_ => ⟨(Nat.le_trans (keep_size (w := w) (g := g) (row := none) (by exact sK0 HK.out)) hk_.2.1), hk_.1.2, (IsS138.fresh (by exact sI1380 HI0.out) k_ hk_.2.1)⟩)) (keep_size (w := w) (g := g) (row := none) (by exact sK0 HK.out))); replace HK := Aside0.mk (KeepBut.trans (by exact sK0 HK.out) hk (.inl rfl)); replace HB := Aside0.mk (hb); replace HI0 := Aside0.mk (hi); (try clear hb); (try clear hk); (try clear hi); (try clear ho0); (try clear ho1); obtain ⟨Ao38, co38, eo38⟩ := Kd.N_slice HO466.out; subst eo38) | ((with_reducible refine gate_callee (f := 84) rfl ?_); refine gL (some 20) Try.func84 #[.pointer (some ⟨g, 0, none⟩), .int .i64 (t464.length : Int)] ?_; (with_reducible refine (spec_l1Below.calls g s0_0 t467 t468 (t464.length : Int) t469 t470 t471 w0 _ ?_ ?_ A6.out).mono ?_); exact sI1380 HI0.out; exact sB1 HB.out (IsS138.ge HI0.out); rintro e w39 ⟨rfl, hi, hb, hk⟩; refine ⟨_, rfl, ?_⟩; have n0_ := Aside0.mk (Kd.R_mono (Kd.R_keep (IsS138.apart (show IsS138 w0 _ g s0_0 t467 t468 from by exact sI1380 HI0.out) (rK HO463) (by decide)) hk (fun _ h => h.2)) (fun _ h => h.1)); have n1_ := Aside0.mk (Kd.N_mono (Kd.N_keep (Kd.N_mono (ok := fun k_ => (((w.heap.size ≤ k_)) ∧ (some k_ ≠ (v462 : Value).ownBlock ∧ k_ ≠ g))) (by (with_reducible repeat (first | apply Kd.N_alloc | apply Kd.N_drewN | apply Kd.N_drew)); exact HO466.out) (fun k_ hk_ => (⟨hk_, hk_.2.2⟩ : _ ∧ k_ ≠ g))) hk (fun _ h => h.2)) (fun _ h => h.1)); have n2_ := Aside0.mk (KeepBut.trans (by exact sK0 HK.out) hk (.inl rfl)); have n3_ := Aside0.mk (hb); have n4_ := Aside0.mk (hi); clear HO463; clear HO466; clear HK; clear HB; clear HI0; have HO463 := n0_; have HO466 := n1_; have HK := n2_; have HB := n3_; have HI0 := n4_; clear n0_ n1_ n2_ n3_ n4_; (try clear hb); (try clear hk); (try clear hi)) | ((with_reducible refine gate_callee (f := 84) rfl ?_); refine gL (some 22) Try.func84 #[.pointer (some ⟨g, 0, none⟩), .int .i64 10] ?_; (with_reducible refine (spec_l1Below.calls g s0_0 t470 t471 10 t472 t473 t474 w0 _ ?_ ?_ A7.out).mono ?_); exact sI1380 HI0.out; exact sB1 HB.out (IsS138.ge HI0.out); rintro e w40 ⟨rfl, hi, hb, hk⟩; refine ⟨_, rfl, ?_⟩; have n0_ := Aside0.mk (Kd.R_mono (Kd.R_keep (IsS138.apart (show IsS138 w0 _ g s0_0 t470 t471 from by exact sI1380 HI0.out) (rK HO463) (by decide)) hk (fun _ h => h.2)) (fun _ h => h.1)); have n1_ := Aside0.mk (Kd.N_mono (Kd.N_keep (Kd.N_mono (ok := fun k_ => (((w.heap.size ≤ k_)) ∧ (some k_ ≠ (v462 : Value).ownBlock ∧ k_ ≠ g))) (by (with_reducible repeat (first | apply Kd.N_alloc | apply Kd.N_drewN | apply Kd.N_drew)); exact HO466.out) (fun k_ hk_ => (⟨hk_, hk_.2.2⟩ : _ ∧ k_ ≠ g))) hk (fun _ h => h.2)) (fun _ h => h.1)); have n2_ := Aside0.mk (KeepBut.trans (by exact sK0 HK.out) hk (.inl rfl)); have n3_ := Aside0.mk (hb); have n4_ := Aside0.mk (hi); clear HO463; clear HO466; clear HK; clear HB; clear HI0; have HO463 := n0_; have HO466 := n1_; have HK := n2_; have HB := n3_; have HI0 := n4_; clear n0_ n1_ n2_ n3_ n4_; (try clear hb); (try clear hk); (try clear hi)) | ((with_reducible refine gate_callee (f := 125) rfl ?_); refine gL (some 47) Try.func125 #[.pointer (some ⟨g, 0, none⟩)] ?_; (with_reducible refine (spec_l5Any.calls k g s0_0 t473 t474 t489 t492 t493 w0 _ ?_ ?_ A36.out).mono ?_); exact sI1380 HI0.out; exact sB1 HB.out (IsS138.ge HI0.out); rintro e w41 ⟨v490, rfl, ho0, hi, hb, hk⟩; refine ⟨_, rfl, ?_⟩; have n0_ := Aside0.mk (Kd.R_mono (Kd.R_told (Kd.R_oldK (IsS138.apart (show IsS138 w0 _ g s0_0 t473 t474 from by exact sI1380 HI0.out) (rK HO463) (by decide)) hk) (Kd.R_base ho0)) (fun _ h_ => h_.1)); have n1_ := Aside0.mk (Kd.N_mono (Kd.N_told (Kd.N_oldK (Kd.N_mono (ok := fun k_ => (((w.heap.size ≤ k_)) ∧ (some k_ ≠ (v462 : Value).ownBlock ∧ k_ ≠ g))) (by (with_reducible repeat (first | apply Kd.N_alloc | apply Kd.N_drewN | apply Kd.N_drew)); exact HO466.out) (fun k_ hk_ => (⟨hk_, hk_.2.2⟩ : _ ∧ k_ ≠ g))) hk) (Kd.R_base ho0)) (fun _ h_ => h_.1)); have n2_ := Aside0.mk (Kd.R_lower (Kd.R_new' (Kd.R_newM (M := fun k_ => (w.heap.size ≤ k_)) ho0 (keep_size (w := w) (g := g) (row := none) (by exact sK0 HK.out)) (fun k_ h_ => h_)) (Kd.R_lt (rK HO463))) (keep_size (w := w) (g := g) (row := none) (by exact sK0 HK.out))); have n3_ := Aside0.mk (KeepBut.trans (by exact sK0 HK.out) hk (.inl rfl)); have n4_ := Aside0.mk (hb); have n5_ := Aside0.mk (hi); clear HO463; clear HO466; clear HK; clear HB; clear HI0; have HO463 := n0_; have HO466 := n1_; have HO491 := n2_; have HK := n3_; have HB := n4_; have HI0 := n5_; clear n0_ n1_ n2_ n3_ n4_ n5_; (try clear hb); (try clear hk); (try clear hi); (try clear ho0)))
  go_ret2
  exact ⟨_, _, rA, rm HO491 (fun _ hk => hk.1.1), Kd.N_V (nm HO466 (fun _ hk => ⟨hk.1.1, hk.2⟩)), by exact sI1380 HI0.out, by exact sB1 HB.out (IsS138.ge HI0.out), by exact sK0 HK.out⟩
 rw [if_neg c35] at H
 have c35b0 : (t472 == 2) = false := beq_eq_false_iff_ne.mpr c35
 have c35b1 : (t472 != 2) = true := bne_iff_ne.mpr c35
 by_cases c42 : t472 = 3
 ·
  rw [if_pos c42] at H
  have c42b0 : (t472 == 3) = true := beq_iff_eq.mpr c42
  have c42b1 : (t472 != 3) = false := bne_eq_false_iff_eq.mpr c42
  clear c42
  have c43 : 1 ≤ (t464.length : Int) := ifN H
  replace H := ifT H
  have c43b0 := eq_true c43
  have c43b1 := decide_eq_true c43
  clear c43
  obtain ⟨y494, hy494⟩ : ∃ y_ : List (S85), y_ = (t464.drop 1) := ⟨_, rfl⟩
  replace H : (some (t461, y494, t473, t474)) = some (r1, r2, r3, r4) := rH H hy494
  have Ny494 := Aside0.mk hy494
  clear hy494
  simp only [Option.some.injEq, Prod.mk.injEq] at H
  obtain ⟨rfl, rfl, rfl, rfl⟩ := H
  go_enter Try.func82, Try.ntmps82
  go_wp2_with (first | ((with_reducible refine gate_callee (f := 124) rfl ?_); refine gL (some 9) Try.func124 #[.pointer (some ⟨g, 0, none⟩)] ?_; (with_reducible refine (spec_l8Draw.calls k g s0_0 s0_1 s0_2 t461 t464 t467 t468 w0 _ ?_ ?_ A2.out).mono ?_); exact sI1380 HI0.out; exact sB1 HB.out (IsS138.ge HI0.out); rintro e w44 ⟨v462, v465, rfl, ho0, ho1, hi, hb, hk⟩; refine ⟨_, rfl, ?_⟩; have HO463 := Aside0.mk (Kd.R_lower (Kd.R_newM (M := fun k_ => (w.heap.size ≤ k_)) ho0 (keep_size (w := w) (g := g) (row := none) (by exact sK0 HK.out)) (fun k_ h_ => h_)) (keep_size (w := w) (g := g) (row := none) (by exact sK0 HK.out))); have HO466 := Aside0.mk (Kd.N_lower (Kd.N_mono (ok' := fun k_ => (w.heap.size ≤ k_) ∧ some k_ ≠ (v462 : Value).ownBlock ∧ k_ ≠ g) (Kd.S_N (Kd.S_bound (Kd.S_apart' ho1 (Kd.R_typed ho0) (by decide)))) (fun k_ hk_ => ⟨(Nat.le_trans (keep_size (w := w) (g := g) (row := none) (by exact sK0 HK.out)) hk_.2.1), hk_.1.2, (IsS138.fresh (by exact sI1380 HI0.out) k_ hk_.2.1)⟩)) (keep_size (w := w) (g := g) (row := none) (by exact sK0 HK.out))); replace HK := Aside0.mk (KeepBut.trans (by exact sK0 HK.out) hk (.inl rfl)); replace HB := Aside0.mk (hb); replace HI0 := Aside0.mk (hi); (try clear hb); (try clear hk); (try clear hi); (try clear ho0); (try clear ho1); obtain ⟨Ao45, co45, eo45⟩ := Kd.N_slice HO466.out; subst eo45) | ((with_reducible refine gate_callee (f := 84) rfl ?_); refine gL (some 20) Try.func84 #[.pointer (some ⟨g, 0, none⟩), .int .i64 (t464.length : Int)] ?_; (with_reducible refine (spec_l1Below.calls g s0_0 t467 t468 (t464.length : Int) t469 t470 t471 w0 _ ?_ ?_ A6.out).mono ?_); exact sI1380 HI0.out; exact sB1 HB.out (IsS138.ge HI0.out); rintro e w46 ⟨rfl, hi, hb, hk⟩; refine ⟨_, rfl, ?_⟩; have n0_ := Aside0.mk (Kd.R_mono (Kd.R_keep (IsS138.apart (show IsS138 w0 _ g s0_0 t467 t468 from by exact sI1380 HI0.out) (rK HO463) (by decide)) hk (fun _ h => h.2)) (fun _ h => h.1)); have n1_ := Aside0.mk (Kd.N_mono (Kd.N_keep (Kd.N_mono (ok := fun k_ => (((w.heap.size ≤ k_)) ∧ (some k_ ≠ (v462 : Value).ownBlock ∧ k_ ≠ g))) (by (with_reducible repeat (first | apply Kd.N_alloc | apply Kd.N_drewN | apply Kd.N_drew)); exact HO466.out) (fun k_ hk_ => (⟨hk_, hk_.2.2⟩ : _ ∧ k_ ≠ g))) hk (fun _ h => h.2)) (fun _ h => h.1)); have n2_ := Aside0.mk (KeepBut.trans (by exact sK0 HK.out) hk (.inl rfl)); have n3_ := Aside0.mk (hb); have n4_ := Aside0.mk (hi); clear HO463; clear HO466; clear HK; clear HB; clear HI0; have HO463 := n0_; have HO466 := n1_; have HK := n2_; have HB := n3_; have HI0 := n4_; clear n0_ n1_ n2_ n3_ n4_; (try clear hb); (try clear hk); (try clear hi)) | ((with_reducible refine gate_callee (f := 84) rfl ?_); refine gL (some 22) Try.func84 #[.pointer (some ⟨g, 0, none⟩), .int .i64 10] ?_; (with_reducible refine (spec_l1Below.calls g s0_0 t470 t471 10 t472 t473 t474 w0 _ ?_ ?_ A7.out).mono ?_); exact sI1380 HI0.out; exact sB1 HB.out (IsS138.ge HI0.out); rintro e w47 ⟨rfl, hi, hb, hk⟩; refine ⟨_, rfl, ?_⟩; have n0_ := Aside0.mk (Kd.R_mono (Kd.R_keep (IsS138.apart (show IsS138 w0 _ g s0_0 t470 t471 from by exact sI1380 HI0.out) (rK HO463) (by decide)) hk (fun _ h => h.2)) (fun _ h => h.1)); have n1_ := Aside0.mk (Kd.N_mono (Kd.N_keep (Kd.N_mono (ok := fun k_ => (((w.heap.size ≤ k_)) ∧ (some k_ ≠ (v462 : Value).ownBlock ∧ k_ ≠ g))) (by (with_reducible repeat (first | apply Kd.N_alloc | apply Kd.N_drewN | apply Kd.N_drew)); exact HO466.out) (fun k_ hk_ => (⟨hk_, hk_.2.2⟩ : _ ∧ k_ ≠ g))) hk (fun _ h => h.2)) (fun _ h => h.1)); have n2_ := Aside0.mk (KeepBut.trans (by exact sK0 HK.out) hk (.inl rfl)); have n3_ := Aside0.mk (hb); have n4_ := Aside0.mk (hi); clear HO463; clear HO466; clear HK; clear HB; clear HI0; have HO463 := n0_; have HO466 := n1_; have HK := n2_; have HB := n3_; have HI0 := n4_; clear n0_ n1_ n2_ n3_ n4_; (try clear hb); (try clear hk); (try clear hi); have q48 : (1 : Int) ≤ ((t464.length : Int) : Int) := dA; obtain ⟨i048, hi048, _, hsz48, _⟩ := info_parts info85; have hroom48 : t464.length ≤ co45 := (Kd.N_reads' HO466.out).2.1; have hC48 : Kd.F k85 _ _ Ao45 t464.length t464 := (Kd.V_at (base := w.heap.size) (Kd.N_V HO466.out)).2.2; have hcut48 := cut_from (P := Try.prog) 25 85 .i64 Try.underlying25 hi048 2 hsz48 Ao45 t464.length co45 1 (by omega) q48; have hr48 := Kd.F_cut (m := (1 : Int).toNat) (c := co45) hC48 (by omega) hroom48; obtain ⟨A48, hA48⟩ : ∃ z_, z_ = (if co45 = (1 : Int).toNat then Ao45 else (Ao45 : Option Addr).map (·.add ((1 : Int).toNat * 2))) := ⟨_, rfl⟩; obtain ⟨c48, hc48⟩ : ∃ z_, z_ = co45 - (1 : Int).toNat := ⟨_, rfl⟩; have hy48 : y494.length = t464.length - (1 : Int).toNat := (by rw [Ny494.out, List.length_drop] <;> omega); rw [show (t464).drop (1 : Int).toNat = y494 from Ny494.out.symm] at hr48; replace hr48 : Kd.F k85 _ _ A48 y494.length y494 := (by rw [hA48]; exact hr48); rw [← hy48, ← hA48, ← hc48] at hcut48; have HO498 := Aside0.mk (show Kd.V k85 85 _ w.heap.size _ (.slice A48 y494.length c48) y494 from Kd.V_mk (by rw [hy48, hc48]; exact Nat.sub_le_sub_right hroom48 _) hr48); have HC498 := Aside0.mk (show y494.length ≤ c48 from by rw [hy48, hc48]; exact Nat.sub_le_sub_right hroom48 _); clear hr48 hC48 hroom48 hi048 hsz48 hc48; have KY48 := Aside0.mk hy48; have KA48 := Aside0.mk hA48; clear hy48 hA48; replace q48 := eq_true q48))
  go_ret2
  exact ⟨_, _, rA, rm HO463 (fun _ hk => hk.1), by (with_reducible repeat (first | apply Kd.V_alloc | apply Kd.V_drewN | apply Kd.V_drew)); exact Kd.V_mono HO498.out (fun _ hk => ⟨hk.1, hk.2.1⟩), by exact sI1380 HI0.out, by exact sB1 HB.out (IsS138.ge HI0.out), by exact sK0 HK.out⟩
 rw [if_neg c42] at H
 have c42b0 : (t472 == 3) = false := beq_eq_false_iff_ne.mpr c42
 have c42b1 : (t472 != 3) = true := bne_iff_ne.mpr c42
 simp only [Option.some.injEq, Prod.mk.injEq] at H
 obtain ⟨rfl, rfl, rfl, rfl⟩ := H
 go_enter Try.func82, Try.ntmps82
 go_wp2_with (first | ((with_reducible refine gate_callee (f := 124) rfl ?_); refine gL (some 9) Try.func124 #[.pointer (some ⟨g, 0, none⟩)] ?_; (with_reducible refine (spec_l8Draw.calls k g s0_0 s0_1 s0_2 t461 t464 t467 t468 w0 _ ?_ ?_ A2.out).mono ?_); exact sI1380 HI0.out; exact sB1 HB.out (IsS138.ge HI0.out); rintro e w49 ⟨v462, v465, rfl, ho0, ho1, hi, hb, hk⟩; refine ⟨_, rfl, ?_⟩; have HO463 := Aside0.mk (Kd.R_lower (Kd.R_newM (M := fun k_ => (w.heap.size ≤ k_)) ho0 (keep_size (w := w) (g := g) (row := none) (by exact sK0 HK.out)) (fun k_ h_ => h_)) (keep_size (w := w) (g := g) (row := none) (by exact sK0 HK.out))); have HO466 := Aside0.mk (Kd.N_lower (Kd.N_mono (ok' := fun k_ => (w.heap.size ≤ k_) ∧ some k_ ≠ (v462 : Value).ownBlock ∧ k_ ≠ g) (Kd.S_N (Kd.S_bound (Kd.S_apart' ho1 (Kd.R_typed ho0) (by decide)))) (fun k_ hk_ => ⟨(Nat.le_trans (keep_size (w := w) (g := g) (row := none) (by exact sK0 HK.out)) hk_.2.1), hk_.1.2, (IsS138.fresh (by exact sI1380 HI0.out) k_ hk_.2.1)⟩)) (keep_size (w := w) (g := g) (row := none) (by exact sK0 HK.out))); replace HK := Aside0.mk (KeepBut.trans (by exact sK0 HK.out) hk (.inl rfl)); replace HB := Aside0.mk (hb); replace HI0 := Aside0.mk (hi); (try clear hb); (try clear hk); (try clear hi); (try clear ho0); (try clear ho1); obtain ⟨Ao50, co50, eo50⟩ := Kd.N_slice HO466.out; subst eo50) | ((with_reducible refine gate_callee (f := 84) rfl ?_); refine gL (some 20) Try.func84 #[.pointer (some ⟨g, 0, none⟩), .int .i64 (t464.length : Int)] ?_; (with_reducible refine (spec_l1Below.calls g s0_0 t467 t468 (t464.length : Int) t469 t470 t471 w0 _ ?_ ?_ A6.out).mono ?_); exact sI1380 HI0.out; exact sB1 HB.out (IsS138.ge HI0.out); rintro e w51 ⟨rfl, hi, hb, hk⟩; refine ⟨_, rfl, ?_⟩; have n0_ := Aside0.mk (Kd.R_mono (Kd.R_keep (IsS138.apart (show IsS138 w0 _ g s0_0 t467 t468 from by exact sI1380 HI0.out) (rK HO463) (by decide)) hk (fun _ h => h.2)) (fun _ h => h.1)); have n1_ := Aside0.mk (Kd.N_mono (Kd.N_keep (Kd.N_mono (ok := fun k_ => (((w.heap.size ≤ k_)) ∧ (some k_ ≠ (v462 : Value).ownBlock ∧ k_ ≠ g))) (by (with_reducible repeat (first | apply Kd.N_alloc | apply Kd.N_drewN | apply Kd.N_drew)); exact HO466.out) (fun k_ hk_ => (⟨hk_, hk_.2.2⟩ : _ ∧ k_ ≠ g))) hk (fun _ h => h.2)) (fun _ h => h.1)); have n2_ := Aside0.mk (KeepBut.trans (by exact sK0 HK.out) hk (.inl rfl)); have n3_ := Aside0.mk (hb); have n4_ := Aside0.mk (hi); clear HO463; clear HO466; clear HK; clear HB; clear HI0; have HO463 := n0_; have HO466 := n1_; have HK := n2_; have HB := n3_; have HI0 := n4_; clear n0_ n1_ n2_ n3_ n4_; (try clear hb); (try clear hk); (try clear hi)) | ((with_reducible refine gate_callee (f := 84) rfl ?_); refine gL (some 22) Try.func84 #[.pointer (some ⟨g, 0, none⟩), .int .i64 10] ?_; (with_reducible refine (spec_l1Below.calls g s0_0 t470 t471 10 t472 t473 t474 w0 _ ?_ ?_ A7.out).mono ?_); exact sI1380 HI0.out; exact sB1 HB.out (IsS138.ge HI0.out); rintro e w52 ⟨rfl, hi, hb, hk⟩; refine ⟨_, rfl, ?_⟩; have n0_ := Aside0.mk (Kd.R_mono (Kd.R_keep (IsS138.apart (show IsS138 w0 _ g s0_0 t470 t471 from by exact sI1380 HI0.out) (rK HO463) (by decide)) hk (fun _ h => h.2)) (fun _ h => h.1)); have n1_ := Aside0.mk (Kd.N_mono (Kd.N_keep (Kd.N_mono (ok := fun k_ => (((w.heap.size ≤ k_)) ∧ (some k_ ≠ (v462 : Value).ownBlock ∧ k_ ≠ g))) (by (with_reducible repeat (first | apply Kd.N_alloc | apply Kd.N_drewN | apply Kd.N_drew)); exact HO466.out) (fun k_ hk_ => (⟨hk_, hk_.2.2⟩ : _ ∧ k_ ≠ g))) hk (fun _ h => h.2)) (fun _ h => h.1)); have n2_ := Aside0.mk (KeepBut.trans (by exact sK0 HK.out) hk (.inl rfl)); have n3_ := Aside0.mk (hb); have n4_ := Aside0.mk (hi); clear HO463; clear HO466; clear HK; clear HB; clear HI0; have HO463 := n0_; have HO466 := n1_; have HK := n2_; have HB := n3_; have HI0 := n4_; clear n0_ n1_ n2_ n3_ n4_; (try clear hb); (try clear hk); (try clear hi)))
 go_ret2
 exact ⟨_, _, rA, rm HO463 (fun _ hk => hk.1), Kd.N_V (nm HO466 (fun _ hk => ⟨hk.1, hk.2.1⟩)), by exact sI1380 HI0.out, by exact sB1 HB.out (IsS138.ge HI0.out), by exact sK0 HK.out⟩

/-! ### spec_DrawSpareGreen: function 103 -/
def spec_DrawSpareGreen.f (k : Nat) (l0 : List Int) : Option ((List (S50)) × (List (S85)) × Int) := (spec_l1New.f k l0).bind fun bt499 => ((spec_l8Any.f k bt499.1 bt499.2.1 bt499.2.2).bind fun bt503 => ((spec_l1Int.f bt499.1 bt503.2.2.1 bt503.2.2.2 (([20, 40, 60, 90, 120, 1000, 1001, 0] : List Int))).bind fun bt514 => (some (bt503.1, bt503.2.1, bt514.1))))
theorem spec_DrawSpareGreen.mono : ∀ a0 k, LeO (spec_DrawSpareGreen.f k a0) (spec_DrawSpareGreen.f (k + 1) a0) := by
 intro a0 k
 unfold spec_DrawSpareGreen.f
 exact mz2 spec_l1New.mono spec_l8Any.mono
set_option maxHeartbeats 8000000 in
set_option maxRecDepth 100000 in
theorem spec_DrawSpareGreen.calls (k : Nat) (A0 : Option Addr) (c0 : Nat) (l0 : List Int) (r1 : List (S50)) (r2 : List (S85)) (r3 : Int) (w : World) (hr0 : Kd.C (Kd.int .u8) w A0 l0.length l0) (hc0 : l0.length ≤ c0) (h : spec_DrawSpareGreen.f k l0 = some (r1, r2, r3)) :
  Calls Try.prog 103 #[.slice A0 l0.length c0] w fun e w' => ∃ v0_ v1_ : Value, e = .returned (.tuple #[v0_, v1_, .int .i64 r3]) ∧ Kd.R k50 50 w' w.heap.size (fun k_ => (w.heap.size ≤ k_)) v0_ r1 ∧ Kd.V k85 85 w' w.heap.size (fun k_ => (w.heap.size ≤ k_) ∧ some k_ ≠ (v0_ : Value).ownBlock) v1_ r2 ∧ Below w.heap.size w w' := by
 have HR0 := Aside0.mk hr0
 have HC0 := Aside0.mk hc0
 clear hr0 hc0
 have HB := Aside0.mk (Below.refl w.heap.size w)
 have H : ((spec_l1New.f k l0).bind fun bt499 => ((spec_l8Any.f k bt499.1 bt499.2.1 bt499.2.2).bind fun bt503 => ((spec_l1Int.f bt499.1 bt503.2.2.1 bt503.2.2.2 (([20, 40, 60, 90, 120, 1000, 1001, 0] : List Int))).bind fun bt514 => (some (bt503.1, bt503.2.1, bt514.1))))) = some (r1, r2, r3) := h
 clear h
 obtain ⟨⟨t499, t500, t501⟩, A2, H⟩ := bindE H
 try dsimp only at H
 obtain ⟨⟨t503, t506, t509, t510⟩, A3, H⟩ := bindE H
 try dsimp only at H
 obtain ⟨y511, hy511⟩ : ∃ y_ : List Int, y_ = (([20, 40, 60, 90, 120, 1000, 1001, 0] : List Int)) := ⟨_, rfl⟩
 replace H : ((spec_l1Int.f t499 t509 t510 y511).bind fun bt514 => (some (t503, t506, bt514.1))) = some (r1, r2, r3) := rH H hy511
 have Ny511 := Aside0.mk hy511
 clear hy511
 obtain ⟨⟨t514, t515, t516⟩, A4, H⟩ := bindE H
 try dsimp only at H
 simp only [Option.some.injEq, Prod.mk.injEq] at H
 obtain ⟨rfl, rfl, rfl⟩ := H
 go_enter Try.func103, Try.ntmps103
 go_wp2_with (first | ((with_reducible refine gate_callee (f := 81) rfl ?_); refine gL (some 9) Try.func81 #[.slice A0 l0.length c0] ?_; (with_reducible refine (spec_l1New.calls k _ _ l0 t499 t500 t501 w _ ?_ ?_ ?_ A2.out).mono ?_); exact sB0 HB.out; exact HR0.out; exact HC0.out; rintro e w5 ⟨g502, rfl, hi, hb, hb2, -⟩; refine ⟨_, rfl, ?_⟩; replace HB := Aside0.mk (hb); have HI502 := Aside0.mk (hi); (try clear hb); (try clear hb2); (try clear hi)) | ((with_reducible refine gate_callee (f := 82) rfl ?_); refine gL (some 12) Try.func82 #[.pointer (some ⟨g502, 0, none⟩)] ?_; (with_reducible refine (spec_l8Any.calls k g502 t499 t500 t501 t503 t506 t509 t510 w _ ?_ ?_ A3.out).mono ?_); exact sI1380 HI502.out; exact sB1 HB.out (IsS138.ge HI502.out); rintro e w6 ⟨v504, v507, rfl, ho0, ho1, hi, hb, hk⟩; refine ⟨_, rfl, ?_⟩; have n0_ := Aside0.mk (Kd.R_lower (Kd.R_newM (M := fun k_ => (w.heap.size ≤ k_)) (Kd.R_mono (ok' := fun k_ => True) ho0 (fun _ hk_ => trivial)) (below_size (by exact sB1 HB.out (IsS138.ge HI502.out))) (fun k_ h_ => h_)) (below_size (by exact sB1 HB.out (IsS138.ge HI502.out)))); have n1_ := Aside0.mk (Kd.V_lower (Kd.V_mono (ok' := fun k_ => (w.heap.size ≤ k_) ∧ some k_ ≠ (v504 : Value).ownBlock ∧ k_ ≠ g502) ho1 (fun k_ hk_ => ⟨(Nat.le_trans (below_size (by exact sB1 HB.out (IsS138.ge HI502.out))) hk_.1), hk_.2, (IsS138.fresh (by exact sI1380 HI502.out) k_ hk_.1)⟩)) (below_size (by exact sB1 HB.out (IsS138.ge HI502.out)))); have n2_ := Aside0.mk (hb); have n3_ := Aside0.mk (hi); clear HB; clear HI502; have HO505 := n0_; have HO508 := n1_; have HB := n2_; have HI502 := n3_; clear n0_ n1_ n2_ n3_; (try clear hb); (try clear hk); (try clear hi); (try clear ho0); (try clear ho1)) | ((with_reducible refine gate_dst (N := 18) rfl ?_); refine Kd.R_lit (Kd.int .i64) _ 3 ?hg (N := 18) ?hd (xs := ([20, 40, 60, 90, 120, 1000, 1001, 0] : List Int)) (inner := [.int .i64 20, .int .i64 40, .int .i64 60, .int .i64 90, .int .i64 120, .int .i64 1000, .int .i64 1001, .int .i64 0]) (ok := fun _ => True) (okp := fun _ => True) ?hr ?hp (fun _ hk => hk) trivial (Below.refl _ _) (Nat.le_refl _) (by simp) ?_; (case hd => rfl); (case hg => rfl); (case hr => first | (go_simp; done) | (go_simp; rfl)); (case hp => exact (Reps.one (show Kd.M (Kd.int .i64) _ _ _ 20 [.int .i64 20] from rfl) (Reps.one (show Kd.M (Kd.int .i64) _ _ _ 40 [.int .i64 40] from rfl) (Reps.one (show Kd.M (Kd.int .i64) _ _ _ 60 [.int .i64 60] from rfl) (Reps.one (show Kd.M (Kd.int .i64) _ _ _ 90 [.int .i64 90] from rfl) (Reps.one (show Kd.M (Kd.int .i64) _ _ _ 120 [.int .i64 120] from rfl) (Reps.one (show Kd.M (Kd.int .i64) _ _ _ 1000 [.int .i64 1000] from rfl) (Reps.one (show Kd.M (Kd.int .i64) _ _ _ 1001 [.int .i64 1001] from rfl) (Reps.one (show Kd.M (Kd.int .i64) _ _ _ 0 [.int .i64 0] from rfl) (Reps.none _ _)))))))))); intro v512 w7 ho8 hb hg_ hnew_; clear hg_ hnew_; (first | rw [← Ny511.out] at ho8 | (simp only [Int.reduceToNat] at ho8; rw [← Ny511.out] at ho8)); have n0_ := rb HO505 hb; have n1_ := Aside0.mk (Kd.V_elder' (by (with_reducible repeat (first | apply Kd.V_alloc | apply Kd.V_drewN | apply Kd.V_drew)); exact HO508.out) (Kd.R_base ho8) hb); have n2_ := Aside0.mk (Kd.R_lower (Kd.R_newM (M := fun k_ => (w.heap.size ≤ k_)) ho8 (below_size (by exact sB1 HB.out (IsS138.ge HI502.out))) (fun k_ h_ => h_)) (below_size (by exact sB1 HB.out (IsS138.ge HI502.out)))); have n3_ := Aside0.mk (IsS138.below (by exact sI1380 HI502.out) hb); have n4_ := Aside0.mk (below_step (by exact sB1 HB.out (IsS138.ge HI502.out)) hb); clear HO505; clear HO508; clear HI502; clear HB; have HO505 := n0_; have HO508 := n1_; have HO513 := n2_; have HI502 := n3_; have HB := n4_; clear n0_ n1_ n2_ n3_ n4_; clear hb ho8; obtain ⟨Ao9, co9, eo9⟩ := Kd.R_slice HO513.out; subst eo9) | ((with_reducible refine gate_callee (f := 94) rfl ?_); refine gL (some 19) Try.func94 #[.pointer (some ⟨g502, 0, none⟩), .slice Ao9 y511.length co9] ?_; (with_reducible refine (spec_l1Int.calls g502 t499 t509 t510 _ _ y511 t514 t515 t516 w _ ?_ ?_ ?_ ?_ ?_ A4.out).mono ?_); exact sI1380 HI502.out; exact sB1 HB.out (IsS138.ge HI502.out); exact cO ⟨(Kd.R_reads' HO513.out).2.2⟩; exact (Kd.R_reads' HO513.out).2.1; exact far_slice (IsS138.own_ne HI502.out HO513.out (by decide)); rintro e w10 ⟨rfl, hi, hb, hk⟩; refine ⟨_, rfl, ?_⟩; have n0_ := Aside0.mk (Kd.R_mono (Kd.R_keep (IsS138.apart (show IsS138 w _ g502 t499 t509 t510 from by exact sI1380 HI502.out) (rK HO505) (by decide)) hk (fun _ h => h.2)) (fun _ h => h.1)); have n1_ := Aside0.mk (Kd.V_mono (Kd.V_keep (Kd.V_mono (ok := fun k_ => ((((w.heap.size ≤ k_)) ∧ (some k_ ≠ (v504 : Value).ownBlock ∧ k_ ≠ g502)) ∧ some k_ ≠ (.slice Ao9 y511.length co9 : Value).ownBlock)) (by (with_reducible repeat (first | apply Kd.V_alloc | apply Kd.V_drewN | apply Kd.V_drew)); exact HO508.out) (fun k_ hk_ => (⟨hk_, hk_.1.2.2⟩ : _ ∧ k_ ≠ g502))) hk (fun _ h => h.2)) (fun _ h => h.1)); have n2_ := Aside0.mk (Kd.R_mono (Kd.R_keep (IsS138.apart (show IsS138 w _ g502 t499 t509 t510 from by exact sI1380 HI502.out) (rK HO513) (by decide)) hk (fun _ h => h.2)) (fun _ h => h.1)); have n3_ := Aside0.mk (hb); have n4_ := Aside0.mk (hi); clear HO505; clear HO508; clear HO513; clear HB; clear HI502; have HO505 := n0_; have HO508 := n1_; have HO513 := n2_; have HB := n3_; have HI502 := n4_; clear n0_ n1_ n2_ n3_ n4_; (try clear hb); (try clear hk); (try clear hi)))
 go_ret3
 exact ⟨_, _, rA, rm HO505 (fun _ hk => hk.1), by (with_reducible repeat (first | apply Kd.V_alloc | apply Kd.V_drewN | apply Kd.V_drew)); exact Kd.V_mono HO508.out (fun _ hk => ⟨hk.1.1, hk.1.2.1⟩), by exact sB1 HB.out (IsS138.ge HI502.out)⟩

/-! ### spec_l10Draw: function 104 -/
def spec_l10Draw.l0 : Nat → List (S50) → List (S120) → Int → List Int → Int → Int → Option ((List (S120)) × Int × Int)
 | 0, _, _, _, _, _, _ => none
 | k + 1, x1, x5, x6, x1000, x1001, x1002 => if x6 < (x1.length : Int) then ((spec_l1Once.f x1000 x1001 x1002 5).bind fun bt520 => (if bt520.1 = true then (spec_l10Draw.l0 k x1 x5 (wrap64 (x6 + 1)) x1000 bt520.2.1 bt520.2.2) else (if 0 ≤ x6 then ((spec_l1Below.f x1000 bt520.2.1 bt520.2.2 40).bind fun bt524 => ((spec_l1Int.f x1000 bt524.2.1 bt524.2.2 (([0, 60, 900, 901] : List Int))).bind fun bt530 => ((spec_l1Once.f x1000 bt530.2.1 bt530.2.2 6).bind fun bt533 => (if x5.length < 4398046511104 then (spec_l10Draw.l0 k x1 (x5 ++ [(⟨(rd_T50 x1 x6).f0, bt524.1, bt530.1, bt533.1⟩ : S120)]) (wrap64 (x6 + 1)) x1000 bt533.2.1 bt533.2.2) else (none))))) else (none)))) else (some (x5, x1001, x1002))
def spec_l10Draw.f (k : Nat) (s0_0 : List Int) (s0_1 : Int) (s0_2 : Int) (l1 : List (S50)) : Option ((List (S120)) × Int × Int) := spec_l10Draw.l0 k l1 (([] : List (S120))) 0 s0_0 s0_1 s0_2
theorem spec_l10Draw.mono_l : ∀ k, (∀ y0 y1 y2 y3 y4 y5, LeO (spec_l10Draw.l0 k y0 y1 y2 y3 y4 y5) (spec_l10Draw.l0 (k + 1) y0 y1 y2 y3 y4 y5))
 | 0 => fun _ _ _ _ _ _ r h => by simp [spec_l10Draw.l0] at h
 | k + 1 => by
  have ih0 := spec_l10Draw.mono_l k
  ·
   intro y0 y1 y2 y3 y4 y5
   unfold spec_l10Draw.l0
   exact mz1 ih0
theorem spec_l10Draw.mono : ∀ a0 a1 a2 a3 k, LeO (spec_l10Draw.f k a0 a1 a2 a3) (spec_l10Draw.f (k + 1) a0 a1 a2 a3) := by
 intro a0 a1 a2 a3 k
 have ih0 := spec_l10Draw.mono_l k
 unfold spec_l10Draw.f
 exact mz1 ih0
def spec_l10Draw.T6 : Bool × List (List Nat × List Nat) := (true, [([], []), ([], []), ([], []), ([1, 2], [1, 2]), ([3], [3]), ([4], [4]), ([], []), ([6], [6]), ([], []), ([], []), ([8, 9, 7], [8, 9]), ([], []), ([11, 10], [11]), ([5, 7, 10, 12], [5, 7, 10, 12]), ([13], [13]), ([0, 14, 12], [0, 14]), ([15, 15, 0, 1, 2, 3, 4, 5, 6, 7, 8, 9, 10, 11, 12, 13, 14, 15], [0, 15])])
def spec_l10Draw.B6 : List Nat := [0, 0, 0, 6, 14, 30, 0, 64, 0, 0, 960, 0, 4032, 8190, 16382, 32767, 65535]
theorem spec_l10Draw.tab6 : rtab .any (opsOf Try.f104 6) = spec_l10Draw.T6 := by kernel_rfl
theorem spec_l10Draw.bits6 : waitsOk spec_l10Draw.T6.2 spec_l10Draw.B6 = true := by kernel_rfl
set_option maxHeartbeats 8000000 in
set_option maxRecDepth 100000 in
theorem spec_l10Draw.calls (k : Nat) (g : Nat) (s0_0 : List Int) (s0_1 : Int) (s0_2 : Int) (A1 : Option Addr) (c1 : Nat) (l1 : List (S50)) (r1 : List (S120)) (r2 : Int) (r3 : Int) (w0 w : World) (hI : IsS138 w0 w g s0_0 s0_1 s0_2) (hB : Below w0.heap.size w0 w) (hr1 : ∀ W_, KeepBut w W_ g none → Kd.C k50 W_ A1 l1.length l1) (hc1 : l1.length ≤ c1) (h : spec_l10Draw.f k s0_0 s0_1 s0_2 l1 = some (r1, r2, r3)) :
  Calls Try.prog 104 #[.pointer (some ⟨g, 0, none⟩), .slice A1 l1.length c1] w fun e w' => ∃ v0_ : Value, e = .returned (v0_) ∧ Kd.R k120 120 w' w.heap.size (fun _ => True) v0_ r1 ∧ IsS138 w0 w' g s0_0 r2 r3 ∧ Below w0.heap.size w0 w' ∧ KeepBut w w' g none := by
 have hu120 := Try.underlying120
 have HR1 := Aside0.mk hr1
 have HC1 := Aside0.mk hc1
 clear hr1 hc1
 have HI0 := Aside0.mk hI
 have HK := Aside0.mk (KeepBut.refl w g none)
 have HL := Aside0.mk hB.size
 clear hI
 have HW0 := Aside0.mk hB.size
 have HB := Aside0.mk hB
 clear hB
 have H : (spec_l10Draw.l0 k l1 (([] : List (S120))) 0 s0_0 s0_1 s0_2) = some (r1, r2, r3) := h
 clear h
 obtain ⟨y517, hy517⟩ : ∃ y_ : List (S120), y_ = (([] : List (S120))) := ⟨_, rfl⟩
 replace H : (spec_l10Draw.l0 k l1 y517 0 s0_0 s0_1 s0_2) = some (r1, r2, r3) := rH H hy517
 have Ny517 := Aside0.mk hy517
 clear hy517
 have H' := Aside0.mk H
 clear H
 go_enter Try.func104, Try.ntmps104
 go_wp2_with (first | ((with_reducible refine gate_dst (N := 7) rfl ?_); refine Kd.R_lit k120 _ 120 ?hg (N := 7) ?hd (xs := ([] : List (S120))) (inner := []) (ok := fun _ => True) (okp := fun _ => True) ?hr ?hp (fun _ hk => hk) trivial (Below.refl _ _) (Nat.le_refl _) (by simp) ?_; (case hd => rfl); (case hg => rfl); (case hr => first | (go_simp; done) | (go_simp; rfl)); (case hp => exact (Reps.none _ _)); intro v518 w3 ho4 hb hg_ hnew_; clear hg_ hnew_; (first | rw [← Ny517.out] at ho4 | (simp only [Int.reduceToNat] at ho4; rw [← Ny517.out] at ho4)); have HO519 := Aside0.mk (Kd.R_lower ho4 (keep_size (w := w) (g := g) (row := none) (by exact sK0 HK.out))); replace HK := Aside0.mk (KeepBut.trans (by exact sK0 HK.out) (KeepBut.of_below hb g none) (.inl rfl)); replace HB := Aside0.mk (below_step (by exact sB1 HB.out (IsS138.ge HI0.out)) hb); replace HI0 := Aside0.mk (IsS138.below (by exact sI1380 HI0.out) hb); clear hb ho4))
 go_loopg [5, 6] k (fun kq v5 v6 w' => ∃ (x5_1 : List (S120)) (x6_1 : Int) (x1001_1 : Int) (x1002_1 : Int), v6 = .int .i64 x6_1 ∧ Aside0 (spec_l10Draw.l0 kq l1 x5_1 x6_1 s0_0 x1001_1 x1002_1 = some (r1, r2, r3)) ∧ Aside0 (kq ≤ k) ∧ Aside0 (Kd.R k120 120 w' w.heap.size (fun _ => True) v5 x5_1) ∧ Aside0 (IsS138 w0 w' g s0_0 x1001_1 x1002_1) ∧ Aside0 (KeepBut w w' g none) ∧ Aside0 (Below w0.heap.size w0 w'))
 case atStart => exact ⟨(y517), (0), (s0_1), (s0_2), rS, H', ⟨Nat.le_refl _⟩, ⟨rK HO519⟩, ⟨by exact sI1380 HI0.out⟩, ⟨by exact sK0 HK.out⟩, ⟨by exact sB1 HB.out (IsS138.ge HI0.out)⟩⟩
 case round =>
  clear H'
  obtain ⟨x5_1, x6_1, x1001_1, x1002_1, rfl, HA, HK1, HO_5, HI0, HK, HB⟩ := hrel
  cases gk with
  | zero => exact absurd HA.out (by simp [spec_l10Draw.l0])
  | succ k1 =>
   have H := HA.out
   clear HA
   simp only [spec_l10Draw.l0] at H
   by_cases c5 : x6_1 < (l1.length : Int)
   ·
    rw [if_pos c5] at H
    have c5b0 := decide_eq_true c5
    clear c5
    obtain ⟨⟨t520, t521, t522⟩, A6, H⟩ := bindE H
    try dsimp only at H
    by_cases c7 : t520 = true
    ·
     subst c7
     have H1 : (spec_l10Draw.l0 k1 l1 x5_1 (wrap64 (x6_1 + 1)) s0_0 t521 t522) = some (r1, r2, r3) := by rw [if_pos rfl] at H; exact H
     clear H
     have H := H1
     clear H1
     have H' := Aside0.mk H
     clear H
     go_wp2_with (first | ((with_reducible refine gate_callee (f := 93) rfl ?_); refine gL (some 15) Try.func93 #[.pointer (some ⟨g, 0, none⟩), .int .i64 5] ?_; (with_reducible refine (spec_l1Once.calls g s0_0 x1001_1 x1002_1 5 true t521 t522 w0 _ ?_ ?_ A6.out).mono ?_); exact sI1380 HI0.out; exact sB1 HB.out (IsS138.ge HI0.out); rintro e w8 ⟨rfl, hi, hb, hk⟩; refine ⟨_, rfl, ?_⟩; replace HO_5 := Aside0.mk (Kd.R_mono (Kd.R_keep (IsS138.apart (show IsS138 w0 _ g s0_0 x1001_1 x1002_1 from by exact sI1380 HI0.out) (rK HO_5) (by decide)) hk (fun _ h => h.2)) (fun _ h => h.1)); replace HK := Aside0.mk (KeepBut.trans (by exact sK0 HK.out) hk (.inl rfl)); replace HB := Aside0.mk (hb); replace HI0 := Aside0.mk (hi); (try clear hb); (try clear hk); (try clear hi)))
     go_roundg k1
     case measure => have := HK1.out; omega
     case rel => exact ⟨(x5_1), (wrap64 (x6_1 + 1)), (t521), (t522), rS, H', ⟨by have := HK1.out; omega⟩, ⟨rK HO_5⟩, ⟨by exact sI1380 HI0.out⟩, ⟨by exact sK0 HK.out⟩, ⟨by exact sB1 HB.out (IsS138.ge HI0.out)⟩⟩
    replace c7 := Bool.eq_false_iff.mpr c7
    subst c7
    have H1 : (if 0 ≤ x6_1 then ((spec_l1Below.f s0_0 t521 t522 40).bind fun bt524 => ((spec_l1Int.f s0_0 bt524.2.1 bt524.2.2 (([0, 60, 900, 901] : List Int))).bind fun bt530 => ((spec_l1Once.f s0_0 bt530.2.1 bt530.2.2 6).bind fun bt533 => (if x5_1.length < 4398046511104 then (spec_l10Draw.l0 k1 l1 (x5_1 ++ [(⟨(rd_T50 l1 x6_1).f0, bt524.1, bt530.1, bt533.1⟩ : S120)]) (wrap64 (x6_1 + 1)) s0_0 bt533.2.1 bt533.2.2) else (none))))) else (none)) = some (r1, r2, r3) := by rw [if_neg (show ¬ (false = true) by decide)] at H; exact H
    clear H
    have H := H1
    clear H1
    have c9 : 0 ≤ x6_1 := ifN H
    replace H := ifT H
    have c9b0 := decide_eq_true c9
    clear c9
    obtain ⟨⟨t524, t525, t526⟩, A10, H⟩ := bindE H
    try dsimp only at H
    obtain ⟨y527, hy527⟩ : ∃ y_ : List Int, y_ = (([0, 60, 900, 901] : List Int)) := ⟨_, rfl⟩
    replace H : ((spec_l1Int.f s0_0 t525 t526 y527).bind fun bt530 => ((spec_l1Once.f s0_0 bt530.2.1 bt530.2.2 6).bind fun bt533 => (if x5_1.length < 4398046511104 then (spec_l10Draw.l0 k1 l1 (x5_1 ++ [(⟨(rd_T50 l1 x6_1).f0, t524, bt530.1, bt533.1⟩ : S120)]) (wrap64 (x6_1 + 1)) s0_0 bt533.2.1 bt533.2.2) else (none)))) = some (r1, r2, r3) := rH H hy527
    have Ny527 := Aside0.mk hy527
    clear hy527
    obtain ⟨⟨t530, t531, t532⟩, A11, H⟩ := bindE H
    try dsimp only at H
    obtain ⟨⟨t533, t534, t535⟩, A12, H⟩ := bindE H
    try dsimp only at H
    have c13 : x5_1.length < 4398046511104 := ifN H
    replace H := ifT H
    have LMc13 := Aside0.mk c13
    clear c13
    obtain ⟨y536, hy536⟩ : ∃ y_ : List (S120), y_ = (x5_1 ++ [(⟨(rd_T50 l1 x6_1).f0, t524, t530, t533⟩ : S120)]) := ⟨_, rfl⟩
    replace H : (spec_l10Draw.l0 k1 l1 y536 (wrap64 (x6_1 + 1)) s0_0 t534 t535) = some (r1, r2, r3) := rH H hy536
    have Ny536 := Aside0.mk hy536
    clear hy536
    have H' := Aside0.mk H
    clear H
    try go_wp2_with (first | ((with_reducible refine gate_callee (f := 93) rfl ?_); refine gL (some 15) Try.func93 #[.pointer (some ⟨g, 0, none⟩), .int .i64 5] ?_; (with_reducible refine (spec_l1Once.calls g s0_0 x1001_1 x1002_1 5 false t521 t522 w0 _ ?_ ?_ A6.out).mono ?_); exact sI1380 HI0.out; exact sB1 HB.out (IsS138.ge HI0.out); rintro e w14 ⟨rfl, hi, hb, hk⟩; refine ⟨_, rfl, ?_⟩; replace HO_5 := Aside0.mk (Kd.R_mono (Kd.R_keep (IsS138.apart (show IsS138 w0 _ g s0_0 x1001_1 x1002_1 from by exact sI1380 HI0.out) (rK HO_5) (by decide)) hk (fun _ h => h.2)) (fun _ h => h.1)); replace HK := Aside0.mk (KeepBut.trans (by exact sK0 HK.out) hk (.inl rfl)); replace HB := Aside0.mk (hb); replace HI0 := Aside0.mk (hi); (try clear hb); (try clear hk); (try clear hi); obtain ⟨Ao15, co15, eo15⟩ := Kd.R_slice HO_5.out; subst eo15))
    replace HO_5 := dr HO_5
    replace HI0 := Aside0.mk (IsS138.drew HI0.out)
    replace HK := Aside0.mk (keep_drew HK.out)
    have HBo := HB
    replace HB := db HB
    obtain ⟨p523, q523⟩ : 0 ≤ (x6_1 : Int) ∧ x6_1 < (l1.length : Int) := ⟨dA, dA⟩
    obtain ⟨ad523, e523, hx523_0, hx523_1, hx523_2, hx523_3⟩ := at_T50 (Kd.C_foot_now HR1.out HK.out) x6_1 p523 q523
    have hw523_3 := hx523_3
    have hw523_2 := hx523_2
    have hw523_1 := hx523_1
    have hw523_0 := hx523_0
    cases e523
    have hne523_3 := (show (⟨(ad523.add ((x6_1).toNat * 4)).block, (ad523.add ((x6_1).toNat * 4)).off + 3, none⟩ : Addr).block ≠ g from by first | (rw [add_block]; exact Kd.foot_ne HR1.out (by omega) (by decide)) | (show (Addr.add _ _).block ≠ _; rw [add_block]; exact Kd.foot_ne HR1.out (by omega) (by decide)) | exact Kd.foot_ne HR1.out (by omega) (by decide) | (dsimp only; exact Kd.foot_ne HR1.out (by omega) (by decide)))
    have hlt523_3 := (Kd.foot_lt HR1.out (by omega) (by decide))
    have hne523_2 := (show (⟨(ad523.add ((x6_1).toNat * 4)).block, (ad523.add ((x6_1).toNat * 4)).off + 2, none⟩ : Addr).block ≠ g from by first | (rw [add_block]; exact Kd.foot_ne HR1.out (by omega) (by decide)) | (show (Addr.add _ _).block ≠ _; rw [add_block]; exact Kd.foot_ne HR1.out (by omega) (by decide)) | exact Kd.foot_ne HR1.out (by omega) (by decide) | (dsimp only; exact Kd.foot_ne HR1.out (by omega) (by decide)))
    have hlt523_2 := (Kd.foot_lt HR1.out (by omega) (by decide))
    have hne523_1 := (show (⟨(ad523.add ((x6_1).toNat * 4)).block, (ad523.add ((x6_1).toNat * 4)).off + 1, none⟩ : Addr).block ≠ g from by first | (rw [add_block]; exact Kd.foot_ne HR1.out (by omega) (by decide)) | (show (Addr.add _ _).block ≠ _; rw [add_block]; exact Kd.foot_ne HR1.out (by omega) (by decide)) | exact Kd.foot_ne HR1.out (by omega) (by decide) | (dsimp only; exact Kd.foot_ne HR1.out (by omega) (by decide)))
    have hlt523_1 := (Kd.foot_lt HR1.out (by omega) (by decide))
    have hne523_0 := (show ((ad523.add ((x6_1).toNat * 4)) : Addr).block ≠ g from by first | (rw [add_block]; exact Kd.foot_ne HR1.out (by omega) (by decide)) | (show (Addr.add _ _).block ≠ _; rw [add_block]; exact Kd.foot_ne HR1.out (by omega) (by decide)) | exact Kd.foot_ne HR1.out (by omega) (by decide) | (dsimp only; exact Kd.foot_ne HR1.out (by omega) (by decide)))
    have hlt523_0 := (Kd.foot_lt HR1.out (by omega) (by decide))
    obtain ⟨p523, q523⟩ := eT p523 q523
    refine start_ (n := 17) (S := fun w' => w'.cell? (ad523.add ((x6_1).toNat * 4)) = some (.int .i64 ((rd_T50 l1 x6_1).f0)) ∧ w'.cell? ⟨(ad523.add ((x6_1).toNat * 4)).block, (ad523.add ((x6_1).toNat * 4)).off + 1, none⟩ = some (.int .i64 ((rd_T50 l1 x6_1).f1)) ∧ w'.cell? ⟨(ad523.add ((x6_1).toNat * 4)).block, (ad523.add ((x6_1).toNat * 4)).off + 2, none⟩ = some (.int .i64 ((rd_T50 l1 x6_1).f2)) ∧ w'.cell? ⟨(ad523.add ((x6_1).toNat * 4)).block, (ad523.add ((x6_1).toNat * 4)).off + 3, none⟩ = some (.int .i64 ((rd_T50 l1 x6_1).f3))) (ds := [14, 15]) (mb 17 0) (by kernel_rfl) rfl rfl ⟨hx523_0, hx523_1, hx523_2, hx523_3⟩ (fun hHeld => ?_); refine with_tabW spec_l10Draw.tab6 spec_l10Draw.bits6 (fun HT_ HW_ => ?_)
    generalize w14.drew = w16 at HO_5 HI0 HK HB hx523_0 hx523_1 hx523_2 hx523_3 hHeld ⊢
    refine pa 0 17 (mb 17 1) HT_ ?_
    refine pa 1 18 (mb 17 3) HT_ ?_
    refine pa 2 19 (mb 17 7) HT_ ?_
    refine pa 3 20 (mb 17 15) HT_ ?_
    refine pa 4 21 (mb 17 31) HT_ ?_
    refine pa 6 23 (mb 17 95) HT_ ?_
    refine pa 8 25 (mb 17 351) HT_ ?_
    refine pa 11 28 (mb 17 2399) HT_ ?_
    refine ta4 5 22 (mb 17 2431) HT_ HW_ hHeld ?_
    refine join_ (σ := Value) 6 (mb 17 3071) (fun s_ => [(24, .int .i64 t524), (26, s_)]) (fun s_ w' => (w'.cell? (ad523.add ((x6_1).toNat * 4)) = some (.int .i64 ((rd_T50 l1 x6_1).f0)) ∧ w'.cell? ⟨(ad523.add ((x6_1).toNat * 4)).block, (ad523.add ((x6_1).toNat * 4)).off + 1, none⟩ = some (.int .i64 ((rd_T50 l1 x6_1).f1)) ∧ w'.cell? ⟨(ad523.add ((x6_1).toNat * 4)).block, (ad523.add ((x6_1).toNat * 4)).off + 2, none⟩ = some (.int .i64 ((rd_T50 l1 x6_1).f2)) ∧ w'.cell? ⟨(ad523.add ((x6_1).toNat * 4)).block, (ad523.add ((x6_1).toNat * 4)).off + 3, none⟩ = some (.int .i64 ((rd_T50 l1 x6_1).f3))) ∧ (Kd.R (Kd.int .i64) 3 w' w.heap.size (fun _ => True) s_ y527) ∧ (Kd.R k120 120 w' w.heap.size (fun _ => True) (.slice Ao15 x5_1.length co15) x5_1) ∧ (IsS138 w0 w' g s0_0 t525 t526) ∧ (KeepBut w w' g none) ∧ (Below w0.heap.size w0 w')) ?_ ?_
    rotate_left
    ·
     intro hCont
     refine two_ (i := 7) (j := 9) (Ni := some 24) (Nj := some 26) (mb 17 2559) (mb 17 2943) rfl rfl rfl rfl (two_of HT_.out (by kernel_rfl)) (by decide) (by decide) (fun K hK => ?_) (fun K hK => ?_)
     ·
      skip
      refine gA Try.func84 #[.pointer (some ⟨g, 0, none⟩), .int .i64 40] ?_
      with_reducible refine (spec_l1Below.calls g s0_0 t521 t522 40 t524 t525 t526 w0 _ ?side1 ?side2 A10.out).mono ?_
      (case side1 => exact sI1380 HI0.out)
      (case side2 => exact sB1 HB.out (IsS138.ge HI0.out))
      rintro e w17 ⟨rfl, hi, hb, hk⟩
      have HS0_ := keep_cell hk (hHeld.1) (by first | (rw [add_block]; exact hne523_0) | (show (Addr.add _ _).block ≠ _; rw [add_block]; exact hne523_0) | exact hne523_0)
      have HS1_ := keep_cell hk (hHeld.2.1) (by first | (rw [add_block]; exact hne523_1) | (show (Addr.add _ _).block ≠ _; rw [add_block]; exact hne523_1) | exact hne523_1)
      have HS2_ := keep_cell hk (hHeld.2.2.1) (by first | (rw [add_block]; exact hne523_2) | (show (Addr.add _ _).block ≠ _; rw [add_block]; exact hne523_2) | exact hne523_2)
      have HS3_ := keep_cell hk (hHeld.2.2.2) (by first | (rw [add_block]; exact hne523_3) | (show (Addr.add _ _).block ≠ _; rw [add_block]; exact hne523_3) | exact hne523_3)
      refine ⟨_, rfl, ?_⟩
      replace HO_5 := Aside0.mk (Kd.R_mono (Kd.R_keep (IsS138.apart (show IsS138 w0 _ g s0_0 t521 t522 from by exact sI1380 HI0.out) (rK HO_5) (by decide)) hk (fun _ h => h.2)) (fun _ h => h.1))
      replace HK := Aside0.mk (KeepBut.trans (by exact sK0 HK.out) hk (.inl rfl))
      replace HB := Aside0.mk (hb)
      replace HI0 := Aside0.mk (hi)
      (try clear hb)
      (try clear hb2)
      (try clear hk)
      (try clear hi)
      refine hK.out _ _ ⟨HS0_, HS1_, HS2_, HS3_⟩ (fun hHeld => ?_)
      clear hK K
      refine nB ?_
      refine oa 9 26 (mb 17 3071) HT_ (fun K hK => ?_)
      refine Kd.R_lit_step (Kd.int .i64) _ 3 ?hg (N := 26) ?hd (xs := ([0, 60, 900, 901] : List Int)) (inner := [.int .i64 0, .int .i64 60, .int .i64 900, .int .i64 901]) (ok := fun _ => True) (okp := fun _ => True) ?hr ?hp (fun _ hk => hk) trivial (Below.refl _ _) (Nat.le_refl _) (by simp) ?_; (case hd => rfl); (case hg => rfl); (case hr => first | (go_simp; done) | (go_simp; rfl)); (case hp => exact (Reps.one (show Kd.M (Kd.int .i64) _ _ _ 0 [.int .i64 0] from rfl) (Reps.one (show Kd.M (Kd.int .i64) _ _ _ 60 [.int .i64 60] from rfl) (Reps.one (show Kd.M (Kd.int .i64) _ _ _ 900 [.int .i64 900] from rfl) (Reps.one (show Kd.M (Kd.int .i64) _ _ _ 901 [.int .i64 901] from rfl) (Reps.none _ _))))))
      intro v528 w18 ho19 hb hg_ hnew_
      have HS0_ := (hb.cell (World.block_lt_of_cell? _ _ (hHeld.1))).trans (hHeld.1)
      have HS1_ := (hb.cell (World.block_lt_of_cell? _ _ (hHeld.2.1))).trans (hHeld.2.1)
      have HS2_ := (hb.cell (World.block_lt_of_cell? _ _ (hHeld.2.2.1))).trans (hHeld.2.2.1)
      have HS3_ := (hb.cell (World.block_lt_of_cell? _ _ (hHeld.2.2.2))).trans (hHeld.2.2.2)
      clear hg_ hnew_
      (first | rw [← Ny527.out] at ho19 | (simp only [Int.reduceToNat] at ho19; rw [← Ny527.out] at ho19))
      replace HO_5 := rb HO_5 hb
      have HO529 := Aside0.mk (Kd.R_lower ho19 (keep_size (w := w) (g := g) (row := none) (by exact sK0 HK.out)))
      replace HK := Aside0.mk (KeepBut.trans (by exact sK0 HK.out) (KeepBut.of_below hb g none) (.inl rfl))
      replace HB := Aside0.mk (below_step (by exact sB1 HB.out (IsS138.ge HI0.out)) hb)
      replace HI0 := Aside0.mk (IsS138.below (by exact sI1380 HI0.out) hb)
      clear hb ho19
      refine hK.out _ _ ⟨HS0_, HS1_, HS2_, HS3_⟩ (fun hHeld => ?_)
      clear hK K
      refine nB ?_
      exact mB (hCont (v528) _ ⟨hHeld, (rK HO529), (rK HO_5), (by exact sI1380 HI0.out), (by exact sK0 HK.out), (by exact sB1 HB.out (IsS138.ge HI0.out))⟩)
     ·
      skip
      refine Kd.R_lit_step (Kd.int .i64) _ 3 ?hg (N := 26) ?hd (xs := ([0, 60, 900, 901] : List Int)) (inner := [.int .i64 0, .int .i64 60, .int .i64 900, .int .i64 901]) (ok := fun _ => True) (okp := fun _ => True) ?hr ?hp (fun _ hk => hk) trivial (Below.refl _ _) (Nat.le_refl _) (by simp) ?_; (case hd => rfl); (case hg => rfl); (case hr => first | (go_simp; done) | (go_simp; rfl)); (case hp => exact (Reps.one (show Kd.M (Kd.int .i64) _ _ _ 0 [.int .i64 0] from rfl) (Reps.one (show Kd.M (Kd.int .i64) _ _ _ 60 [.int .i64 60] from rfl) (Reps.one (show Kd.M (Kd.int .i64) _ _ _ 900 [.int .i64 900] from rfl) (Reps.one (show Kd.M (Kd.int .i64) _ _ _ 901 [.int .i64 901] from rfl) (Reps.none _ _))))))
      intro v528 w17 ho18 hb hg_ hnew_
      have HS0_ := (hb.cell (World.block_lt_of_cell? _ _ (hHeld.1))).trans (hHeld.1)
      have HS1_ := (hb.cell (World.block_lt_of_cell? _ _ (hHeld.2.1))).trans (hHeld.2.1)
      have HS2_ := (hb.cell (World.block_lt_of_cell? _ _ (hHeld.2.2.1))).trans (hHeld.2.2.1)
      have HS3_ := (hb.cell (World.block_lt_of_cell? _ _ (hHeld.2.2.2))).trans (hHeld.2.2.2)
      clear hg_ hnew_
      (first | rw [← Ny527.out] at ho18 | (simp only [Int.reduceToNat] at ho18; rw [← Ny527.out] at ho18))
      replace HO_5 := rb HO_5 hb
      have HO529 := Aside0.mk (Kd.R_lower ho18 (keep_size (w := w) (g := g) (row := none) (by exact sK0 HK.out)))
      replace HK := Aside0.mk (KeepBut.trans (by exact sK0 HK.out) (KeepBut.of_below hb g none) (.inl rfl))
      replace HB := Aside0.mk (below_step (by exact sB1 HB.out (IsS138.ge HI0.out)) hb)
      replace HI0 := Aside0.mk (IsS138.below (by exact sI1380 HI0.out) hb)
      clear hb ho18
      refine hK.out _ _ ⟨HS0_, HS1_, HS2_, HS3_⟩ (fun hHeld => ?_)
      clear hK K
      refine nB ?_
      refine oa 7 24 (mb 17 3071) HT_ (fun K hK => ?_)
      refine gA Try.func84 #[.pointer (some ⟨g, 0, none⟩), .int .i64 40] ?_
      with_reducible refine (spec_l1Below.calls g s0_0 t521 t522 40 t524 t525 t526 w0 _ ?side1 ?side2 A10.out).mono ?_
      (case side1 => exact sI1380 HI0.out)
      (case side2 => exact sB1 HB.out (IsS138.ge HI0.out))
      rintro e w19 ⟨rfl, hi, hb, hk⟩
      have HS0_ := keep_cell hk (hHeld.1) (by first | (rw [add_block]; exact hne523_0) | (show (Addr.add _ _).block ≠ _; rw [add_block]; exact hne523_0) | exact hne523_0)
      have HS1_ := keep_cell hk (hHeld.2.1) (by first | (rw [add_block]; exact hne523_1) | (show (Addr.add _ _).block ≠ _; rw [add_block]; exact hne523_1) | exact hne523_1)
      have HS2_ := keep_cell hk (hHeld.2.2.1) (by first | (rw [add_block]; exact hne523_2) | (show (Addr.add _ _).block ≠ _; rw [add_block]; exact hne523_2) | exact hne523_2)
      have HS3_ := keep_cell hk (hHeld.2.2.2) (by first | (rw [add_block]; exact hne523_3) | (show (Addr.add _ _).block ≠ _; rw [add_block]; exact hne523_3) | exact hne523_3)
      refine ⟨_, rfl, ?_⟩
      replace HO_5 := Aside0.mk (Kd.R_mono (Kd.R_keep (IsS138.apart (show IsS138 w0 _ g s0_0 t521 t522 from by exact sI1380 HI0.out) (rK HO_5) (by decide)) hk (fun _ h => h.2)) (fun _ h => h.1))
      replace HO529 := Aside0.mk (Kd.R_mono (Kd.R_keep (IsS138.apart (show IsS138 w0 _ g s0_0 t521 t522 from by exact sI1380 HI0.out) (rK HO529) (by decide)) hk (fun _ h => h.2)) (fun _ h => h.1))
      replace HK := Aside0.mk (KeepBut.trans (by exact sK0 HK.out) hk (.inl rfl))
      replace HB := Aside0.mk (hb)
      replace HI0 := Aside0.mk (hi)
      (try clear hb)
      (try clear hb2)
      (try clear hk)
      (try clear hi)
      refine hK.out _ _ ⟨HS0_, HS1_, HS2_, HS3_⟩ (fun hHeld => ?_)
      clear hK K
      refine nB ?_
      exact mB (hCont (v528) _ ⟨hHeld, (rK HO529), (rK HO_5), (by exact sI1380 HI0.out), (by exact sK0 HK.out), (by exact sB1 HB.out (IsS138.ge HI0.out))⟩)
    clear HO_5 HI0 HK HB
    rintro v528 w20 ⟨hHeld, h0_, h1_, h2_, h3_, h4_⟩
    try dsimp only at hHeld h0_ h1_ h2_ h3_ h4_
    obtain ⟨HO529, HO_5, HI0, HK, HB⟩ := as5 h0_ h1_ h2_ h3_ h4_
    clear h0_ h1_ h2_ h3_ h4_
    obtain ⟨Ao21, co21, eo21⟩ := Kd.R_slice HO529.out
    (first | subst eo21 | (injection eo21 with f1_ f2_ f3_; have f4_ := f1_.symm; have f5_ := f3_.symm; clear f1_ f2_ f3_; subst f4_; subst f5_))
    refine norm_ (a' := ?_) ?_ ?_
    rotate_left
    ·
     simp only [putAll, Act.put, List.setIfInBounds_toArray, List.set_cons_zero, List.set_cons_succ]
     rfl
    refine oa 10 27 (mb 17 4095) HT_ (fun K hK => ?_)
    refine gA Try.func94 #[.pointer (some ⟨g, 0, none⟩), .slice Ao21 y527.length co21] ?_
    with_reducible refine (spec_l1Int.calls g s0_0 t525 t526 _ _ y527 t530 t531 t532 w0 _ ?side1 ?side2 ?side3 ?side4 ?side5 A11.out).mono ?_
    (case side1 => exact sI1380 HI0.out)
    (case side2 => exact sB1 HB.out (IsS138.ge HI0.out))
    (case side3 => exact cO ⟨(Kd.R_reads' HO529.out).2.2⟩)
    (case side4 => exact (Kd.R_reads' HO529.out).2.1)
    (case side5 => exact far_slice (IsS138.own_ne HI0.out HO529.out (by decide)))
    rintro e w22 ⟨rfl, hi, hb, hk⟩
    have HS0_ := keep_cell hk (hHeld.1) (by first | (rw [add_block]; exact hne523_0) | (show (Addr.add _ _).block ≠ _; rw [add_block]; exact hne523_0) | exact hne523_0)
    have HS1_ := keep_cell hk (hHeld.2.1) (by first | (rw [add_block]; exact hne523_1) | (show (Addr.add _ _).block ≠ _; rw [add_block]; exact hne523_1) | exact hne523_1)
    have HS2_ := keep_cell hk (hHeld.2.2.1) (by first | (rw [add_block]; exact hne523_2) | (show (Addr.add _ _).block ≠ _; rw [add_block]; exact hne523_2) | exact hne523_2)
    have HS3_ := keep_cell hk (hHeld.2.2.2) (by first | (rw [add_block]; exact hne523_3) | (show (Addr.add _ _).block ≠ _; rw [add_block]; exact hne523_3) | exact hne523_3)
    refine ⟨_, rfl, ?_⟩
    replace HO_5 := Aside0.mk (Kd.R_mono (Kd.R_keep (IsS138.apart (show IsS138 w0 _ g s0_0 t525 t526 from by exact sI1380 HI0.out) (rK HO_5) (by decide)) hk (fun _ h => h.2)) (fun _ h => h.1))
    replace HO529 := Aside0.mk (Kd.R_mono (Kd.R_keep (IsS138.apart (show IsS138 w0 _ g s0_0 t525 t526 from by exact sI1380 HI0.out) (rK HO529) (by decide)) hk (fun _ h => h.2)) (fun _ h => h.1))
    replace HK := Aside0.mk (KeepBut.trans (by exact sK0 HK.out) hk (.inl rfl))
    replace HB := Aside0.mk (hb)
    replace HI0 := Aside0.mk (hi)
    (try clear hb)
    (try clear hb2)
    (try clear hk)
    (try clear hi)
    refine hK.out _ _ ⟨HS0_, HS1_, HS2_, HS3_⟩ (fun hHeld => ?_)
    clear hK K
    refine nB ?_
    refine oa 12 29 (mb 17 8191) HT_ (fun K hK => ?_)
    refine gA Try.func93 #[.pointer (some ⟨g, 0, none⟩), .int .i64 6] ?_
    with_reducible refine (spec_l1Once.calls g s0_0 t531 t532 6 t533 t534 t535 w0 _ ?side1 ?side2 A12.out).mono ?_
    (case side1 => exact sI1380 HI0.out)
    (case side2 => exact sB1 HB.out (IsS138.ge HI0.out))
    rintro e w23 ⟨rfl, hi, hb, hk⟩
    have HS0_ := keep_cell hk (hHeld.1) (by first | (rw [add_block]; exact hne523_0) | (show (Addr.add _ _).block ≠ _; rw [add_block]; exact hne523_0) | exact hne523_0)
    have HS1_ := keep_cell hk (hHeld.2.1) (by first | (rw [add_block]; exact hne523_1) | (show (Addr.add _ _).block ≠ _; rw [add_block]; exact hne523_1) | exact hne523_1)
    have HS2_ := keep_cell hk (hHeld.2.2.1) (by first | (rw [add_block]; exact hne523_2) | (show (Addr.add _ _).block ≠ _; rw [add_block]; exact hne523_2) | exact hne523_2)
    have HS3_ := keep_cell hk (hHeld.2.2.2) (by first | (rw [add_block]; exact hne523_3) | (show (Addr.add _ _).block ≠ _; rw [add_block]; exact hne523_3) | exact hne523_3)
    refine ⟨_, rfl, ?_⟩
    replace HO_5 := Aside0.mk (Kd.R_mono (Kd.R_keep (IsS138.apart (show IsS138 w0 _ g s0_0 t531 t532 from by exact sI1380 HI0.out) (rK HO_5) (by decide)) hk (fun _ h => h.2)) (fun _ h => h.1))
    replace HO529 := Aside0.mk (Kd.R_mono (Kd.R_keep (IsS138.apart (show IsS138 w0 _ g s0_0 t531 t532 from by exact sI1380 HI0.out) (rK HO529) (by decide)) hk (fun _ h => h.2)) (fun _ h => h.1))
    replace HK := Aside0.mk (KeepBut.trans (by exact sK0 HK.out) hk (.inl rfl))
    replace HB := Aside0.mk (hb)
    replace HI0 := Aside0.mk (hi)
    (try clear hb)
    (try clear hb2)
    (try clear hk)
    (try clear hi)
    refine hK.out _ _ ⟨HS0_, HS1_, HS2_, HS3_⟩ (fun hHeld => ?_)
    clear hK K
    refine nB ?_
    refine pa 13 30 (mb 17 16383) HT_ ?_
    refine last_ (i := 14) (N := some 31) (mb 17 32767) rfl rfl (one_of HT_.out (by kernel_rfl)) (by decide) (fun K hK => ?_)
    refine value_ (w1 := ?_) (v := ?_) (by rfl) rfl ?_ ?_
    rotate_left 2
    ·
     go_simp
     constructor
     ·
      rfl
     ·
      rfl
    refine hK.out _ _ ?_
    clear hK K
    refine nB ?_
    refine last_ (i := 15) (N := some 32) (mb 17 65535) rfl rfl (one_of HT_.out (by kernel_rfl)) (by decide) (fun K hK => ?_)
    refine Kd.R_append_step k120 w.heap.size (by rfl) (.tmp 17) (.tmp 31) 43 120 (.agg #[(.int .i64 0), (.int .i64 0), (.int .i64 0), (.bool false)]) 32 rfl Try.underlying43 info120 rfl (by decide) (by omega) (.slice Ao15 x5_1.length co15) x5_1 (⟨(rd_T50 l1 x6_1).f0, t524, t530, t533⟩ : S120) [.int .i64 ((rd_T50 l1 x6_1).f0), .int .i64 t524, .int .i64 t530, .bool t533] (fun _ => True) (fun _ => False) rfl rfl ?aP (fun _ hk => hk.elim) ?aF ?aO (Below.refl _ _) ?aS ?aL ?_
    (case aP => exact k120_mkM _ _ _ (⟨(rd_T50 l1 x6_1).f0, t524, t530, t533⟩ : S120))
    (case aF => exact (fun _ _ => trivial))
    (case aO => exact (rK HO_5))
    (case aS => exact (keep_size (w := w) (g := g) (row := none) (by exact sK0 HK.out)))
    (case aL => have := LMc13.out; omega)
    intro v537 w24 ho hb hg hat
    rw [← Ny536.out] at ho
    have n0_ := Aside0.mk (IsS138.grown (by exact sI1380 HI0.out) hg (IsS138.own_ne HI0.out HO_5.out (by decide)))
    have n1_ := Aside0.mk (Kd.R_over' (rK HO529) (Kd.R_typed (rK HO_5)) (by decide) hg)
    have n2_ := Aside0.mk (below_weaken (by exact sB1 HB.out (IsS138.ge HI0.out)) HL.out hb)
    have n3_ := Aside0.mk (KeepBut.trans (by exact sK0 HK.out) (KeepBut.of_grown hg g) (Kd.R_base2 HO_5.out))
    have n4_ := Aside0.mk (ho)
    clear HI0
    clear HO529
    clear HB
    clear HK
    clear HO_5
    have HI0 := n0_
    have HO529 := n1_
    have HB := n2_
    have HK := n3_
    have HO538 := n4_
    clear n0_ n1_ n2_ n3_ n4_
    clear ho hb hg hat
    refine hK.out _ _ ?_
    clear hK K
    refine nB ?_
    refine pa 16 5 (mb 17 131071) HT_ ?_
    refine eA HT_ ?_
    try go_wp2
    go_roundg k1
    case measure => have := HK1.out; omega
    case rel => exact ⟨(y536), (wrap64 (x6_1 + 1)), (t534), (t535), rS, H', ⟨by have := HK1.out; omega⟩, ⟨rK HO538⟩, ⟨by exact sI1380 HI0.out⟩, ⟨by exact sK0 HK.out⟩, ⟨by exact sB1 HB.out (IsS138.ge HI0.out)⟩⟩
   rw [if_neg c5] at H
   have c5b0 := decide_eq_false c5
   clear c5
   simp only [Option.some.injEq, Prod.mk.injEq] at H
   obtain ⟨rfl, rfl, rfl⟩ := H
   go_wp2
   go_ret
   exact ⟨_, rA, rK HO_5, by exact sI1380 HI0.out, by exact sB1 HB.out (IsS138.ge HI0.out), by exact sK0 HK.out⟩

end Go.Proofs.Ytjgonpcajedkjaa.P
