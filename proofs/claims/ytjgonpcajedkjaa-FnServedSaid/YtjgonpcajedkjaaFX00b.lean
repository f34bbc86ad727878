/- Printed by myprint.py (wip/tools) over the kit's print: what Go's functions compute, and that they do. Lean checks it. -/
import Derived.Test.YtjgonpcajedkjaaF0
import Derived.Test.YtjgonpcajedkjaaFX00
namespace Go.Proofs.Ytjgonpcajedkjaa.P
open Go.RowKit Go.Proofs.YtjgonpcajedkjaaW.PrintWords Go.Proofs.YtjgonpcajedkjaaW.PrintLast Go.Proofs.YtjgonpcajedkjaaW.PrintMore Go.Proofs.Ytjgonpcajedkjaa.Sq
attribute [local go_sem] max2_int min2_int max_two min_two max_three min_three max_four min_four
set_option linter.unusedVariables false
set_option linter.unusedSimpArgs false

/-! ### spec_l6Put: function 135 -/
def spec_l6Put.l0 : Nat → List Int → Int → Int → Option (List Int)
 | 0, _, _, _ => none
 | k + 1, x0, x1, x5 => if x5 < (x0.length : Int) then (if 0 ≤ x5 then (if (rd x0 x5) < x1 then (spec_l6Put.l0 k x0 x1 (wrap64 (x5 + 1))) else (if (rd x0 x5) = x1 then ((some (([] : List Int) : List Int)).bind fun y216 => (if y216.length + x0.length < 17592186044416 then (some (y216 ++ x0)) else (none))) else ((some (([] : List Int) : List Int)).bind fun y222 => (if x5 ≤ (x0.length : Int) then (if y222.length + (x0.take (x5 : Int).toNat).length < 17592186044416 then ((some (y222 ++ (x0.take (x5 : Int).toNat) : List Int)).bind fun y226 => ((some (([x1] : List Int) : List Int)).bind fun y229 => (if y226.length + y229.length < 17592186044416 then ((some (y226 ++ y229 : List Int)).bind fun y232 => (if y232.length + (x0.drop (x5 : Int).toNat).length < 17592186044416 then (some (y232 ++ (x0.drop (x5 : Int).toNat))) else (none))) else (none)))) else (none)) else (none))))) else (none)) else ((some (([] : List Int) : List Int)).bind fun y239 => (if 0 ≤ x5 then (if x5 ≤ (x0.length : Int) then (if y239.length + (x0.take (x5 : Int).toNat).length < 17592186044416 then ((some (y239 ++ (x0.take (x5 : Int).toNat) : List Int)).bind fun y243 => ((some (([x1] : List Int) : List Int)).bind fun y246 => (if y243.length + y246.length < 17592186044416 then ((some (y243 ++ y246 : List Int)).bind fun y249 => (if y249.length + (x0.drop (x5 : Int).toNat).length < 17592186044416 then (some (y249 ++ (x0.drop (x5 : Int).toNat))) else (none))) else (none)))) else (none)) else (none)) else (none)))
def spec_l6Put.f (k : Nat) (l0 : List Int) (a1 : Int) : Option (List Int) := spec_l6Put.l0 k l0 a1 0
theorem spec_l6Put.mono_l : ∀ k, (∀ y0 y1 y2, LeO (spec_l6Put.l0 k y0 y1 y2) (spec_l6Put.l0 (k + 1) y0 y1 y2))
 | 0 => fun _ _ _ r h => by simp [spec_l6Put.l0] at h
 | k + 1 => by
  have ih0 := spec_l6Put.mono_l k
  ·
   intro y0 y1 y2
   unfold spec_l6Put.l0
   exact mz1 ih0
theorem spec_l6Put.mono : ∀ a0 a1 k, LeO (spec_l6Put.f k a0 a1) (spec_l6Put.f (k + 1) a0 a1) := by
 intro a0 a1 k
 have ih0 := spec_l6Put.mono_l k
 unfold spec_l6Put.f
 exact mz1 ih0
def spec_l6Put.T6 : Bool × List (List Nat × List Nat) := (true, [([], []), ([], []), ([], []), ([1, 2], [1, 2]), ([0, 3], [0, 3]), ([], []), ([5], [5]), ([4, 6, 4], [4, 6]), ([], []), ([], []), ([8, 9], [8, 9]), ([7, 10, 7], [7, 10]), ([11, 11, 0, 1, 2, 3, 4, 5, 6, 7, 8, 9, 10, 11], [11])])
def spec_l6Put.B6 : List Nat := [0, 0, 0, 6, 15, 0, 32, 127, 0, 0, 768, 2047, 4095]
theorem spec_l6Put.tab6 : rtab .any (opsOf Try.f135 6) = spec_l6Put.T6 := by kernel_rfl
theorem spec_l6Put.bits6 : waitsOk spec_l6Put.T6.2 spec_l6Put.B6 = true := by kernel_rfl
set_option maxHeartbeats 8000000 in
set_option maxRecDepth 100000 in
theorem spec_l6Put.calls (k : Nat) (A0 : Option Addr) (c0 : Nat) (l0 : List Int) (a1 : Int) (r : List Int) (w : World) (hr0 : Kd.C (Kd.int .i64) w A0 l0.length l0) (hc0 : l0.length ≤ c0) (h : spec_l6Put.f k l0 a1 = some r) :
  Calls Try.prog 135 #[.slice A0 l0.length c0, .int .i64 a1] w fun e w' => ∃ v0_ : Value, e = .returned (v0_) ∧ Kd.R (Kd.int .i64) 3 w' w.heap.size (fun _ => True) v0_ r ∧ Below w.heap.size w w' := by
 have HR0 := Aside0.mk hr0
 have HC0 := Aside0.mk hc0
 clear hr0 hc0
 have HB := Aside0.mk (Below.refl w.heap.size w)
 have H : (spec_l6Put.l0 k l0 a1 0) = some r := h
 clear h
 have H' := Aside0.mk H
 clear H
 go_enter Try.func135, Try.ntmps135
 go_wp2
 go_loopg [5] k (fun kq v5 w' => ∃ (x5_1 : Int), v5 = .int .i64 x5_1 ∧ Aside0 (spec_l6Put.l0 kq l0 a1 x5_1 = some r) ∧ Aside0 (kq ≤ k) ∧ Aside0 (Below w.heap.size w w'))
 case atStart => exact ⟨(0), rS, H', ⟨Nat.le_refl _⟩, ⟨bA⟩⟩
 case round =>
  clear H'
  obtain ⟨x5_1, rfl, HA, HK1, HB⟩ := hrel
  cases gk with
  | zero => exact absurd HA.out (by simp [spec_l6Put.l0])
  | succ k1 =>
   have H := HA.out
   clear HA
   simp only [spec_l6Put.l0] at H
   by_cases c3 : x5_1 < (l0.length : Int)
   ·
    rw [if_pos c3] at H
    have c3b0 := decide_eq_true c3
    clear c3
    have c4 : 0 ≤ x5_1 := ifN H
    replace H := ifT H
    have c4b0 := decide_eq_true c4
    clear c4
    by_cases c5 : (rd l0 x5_1) < a1
    ·
     rw [if_pos c5] at H
     have c5b0 := decide_eq_true c5
     clear c5
     have H' := Aside0.mk H
     clear H
     obtain ⟨p214, q214⟩ : 0 ≤ (x5_1 : Int) ∧ x5_1 < (l0.length : Int) := ⟨dA, dA⟩
     obtain ⟨ad214, e214, hx214_0⟩ := Kd.at_int (Kd.C_below HR0.out HB.out) x5_1 p214 q214
     cases e214
     obtain ⟨p214, q214⟩ := eT p214 q214
     go_wp2
     go_roundg k1
     case measure => have := HK1.out; omega
     case rel => exact ⟨(wrap64 (x5_1 + 1)), rS, H', ⟨by have := HK1.out; omega⟩, ⟨bA⟩⟩
    rw [if_neg c5] at H
    have c5b0 := decide_eq_false c5
    clear c5
    by_cases c6 : (rd l0 x5_1) = a1
    ·
     rw [if_pos c6] at H
     have c6b0 : ((rd l0 x5_1) == a1) = true := beq_iff_eq.mpr c6
     have c6b1 : ((rd l0 x5_1) != a1) = false := bne_eq_false_iff_eq.mpr c6
     clear c6
     obtain ⟨y216, hy216⟩ : ∃ y_ : List Int, y_ = (([] : List Int)) := ⟨_, rfl⟩
     replace H : (if y216.length + l0.length < 17592186044416 then (some (y216 ++ l0)) else (none)) = some r := rH H hy216
     have Ny216 := Aside0.mk hy216
     clear hy216
     have c7 : y216.length + l0.length < 17592186044416 := ifN H
     replace H := ifT H
     have LMc7 := Aside0.mk c7
     clear c7
     obtain ⟨y219, hy219⟩ : ∃ y_ : List Int, y_ = (y216 ++ l0) := ⟨_, rfl⟩
     replace H : (some y219) = some r := rH H hy219
     have Ny219 := Aside0.mk hy219
     clear hy219
     obtain rfl := Option.some.inj H
     obtain ⟨p214, q214⟩ : 0 ≤ (x5_1 : Int) ∧ x5_1 < (l0.length : Int) := ⟨dA, dA⟩
     obtain ⟨ad214, e214, hx214_0⟩ := Kd.at_int (Kd.C_below HR0.out HB.out) x5_1 p214 q214
     cases e214
     obtain ⟨p214, q214⟩ := eT p214 q214
     obtain ⟨p215, q215⟩ : 0 ≤ (x5_1 : Int) ∧ x5_1 < (l0.length : Int) := ⟨dA, dA⟩
     obtain ⟨ad215, e215, hx215_0⟩ := Kd.at_int (Kd.C_below HR0.out HB.out) x5_1 p215 q215
     obtain rfl : ad214 = ad215 := (by injection e215)
     obtain ⟨p215, q215⟩ := eT p215 q215
     go_wp2_with (first | ((with_reducible refine gate_dst (N := 32) rfl ?_); refine Kd.R_lit (Kd.int .i64) _ 3 ?hg (N := 32) ?hd (xs := ([] : List Int)) (inner := []) (ok := fun _ => True) (okp := fun _ => True) ?hr ?hp (fun _ hk => hk) trivial (Below.refl _ _) (Nat.le_refl _) (by simp) ?_; (case hd => rfl); (case hg => rfl); (case hr => first | (go_simp; done) | (go_simp; rfl)); (case hp => exact (Reps.none _ _)); intro v217 w8 ho9 hb hg_ hnew_; clear hg_ hnew_; (first | rw [← Ny216.out] at ho9 | (simp only [Int.reduceToNat] at ho9; rw [← Ny216.out] at ho9)); have HO218 := rl w ho9; replace HB := bs HB hb; clear hb ho9) | ((with_reducible refine gate_builtin (b := .append) (xs := #[.tmp 32, .tmp 33]) rfl ?_); at_builtin; refine Kd.R_append_rows (Kd.int .i64) (w0 := w) w.heap.size rfl (.tmp 32) (.tmp 33) 35 3 (.int .i64 0) 8 rfl Try.underlying35 info3 rfl (by decide) (by omega) v217 y216 l0 _ _ _ (fun _ => True) (fun _ => False) rfl rfl ?aO ?aR (fun _ _ h => h) (fun _ h => h.elim) ?aF ?aB ?aS ?aL ?_; (case aR => repeat (first | exact (Kd.C_below HR0.out HB.out) | (with_reducible refine Kd.C_alloc ?_ _) | (with_reducible refine Kd.C_drewN ?_ _) | (with_reducible refine Kd.C_drew ?_))); (case aB => exact bA); (case aF => exact (fun _ _ => trivial)); (case aO => exact (rK HO218)); (case aS => exact (below_size bA)); (case aL => have := LMc7.out; omega); intro v220 w10 ho hb hg hat; rw [← Ny219.out] at ho; have n0_ := Aside0.mk (hb); have n1_ := Aside0.mk (ho); clear HB; clear HO218; have HB := n0_; have HO221 := n1_; clear n0_ n1_; clear ho hb hg hat))
     go_ret
     exact ⟨_, rA, rK HO221, bA⟩
    rw [if_neg c6] at H
    have c6b0 : ((rd l0 x5_1) == a1) = false := beq_eq_false_iff_ne.mpr c6
    have c6b1 : ((rd l0 x5_1) != a1) = true := bne_iff_ne.mpr c6
    obtain ⟨y222, hy222⟩ : ∃ y_ : List Int, y_ = (([] : List Int)) := ⟨_, rfl⟩
    replace H : (if x5_1 ≤ (l0.length : Int) then (if y222.length + (l0.take (x5_1 : Int).toNat).length < 17592186044416 then ((some (y222 ++ (l0.take (x5_1 : Int).toNat) : List Int)).bind fun y226 => ((some (([a1] : List Int) : List Int)).bind fun y229 => (if y226.length + y229.length < 17592186044416 then ((some (y226 ++ y229 : List Int)).bind fun y232 => (if y232.length + (l0.drop (x5_1 : Int).toNat).length < 17592186044416 then (some (y232 ++ (l0.drop (x5_1 : Int).toNat))) else (none))) else (none)))) else (none)) else (none)) = some r := rH H hy222
    have Ny222 := Aside0.mk hy222
    clear hy222
    have c11b0 := eq_true (dA : 0 ≤ x5_1)
    have c12 : x5_1 ≤ (l0.length : Int) := ifN H
    replace H := ifT H
    have c12b0 := eq_true c12
    have c12b1 := decide_eq_true c12
    clear c12
    have c13 : y222.length + (l0.take (x5_1 : Int).toNat).length < 17592186044416 := ifN H
    replace H := ifT H
    have LMc13 := Aside0.mk c13
    clear c13
    obtain ⟨y226, hy226⟩ : ∃ y_ : List Int, y_ = (y222 ++ (l0.take (x5_1 : Int).toNat)) := ⟨_, rfl⟩
    replace H : ((some (([a1] : List Int) : List Int)).bind fun y229 => (if y226.length + y229.length < 17592186044416 then ((some (y226 ++ y229 : List Int)).bind fun y232 => (if y232.length + (l0.drop (x5_1 : Int).toNat).length < 17592186044416 then (some (y232 ++ (l0.drop (x5_1 : Int).toNat))) else (none))) else (none))) = some r := rH H hy226
    have Ny226 := Aside0.mk hy226
    clear hy226
    obtain ⟨y229, hy229⟩ : ∃ y_ : List Int, y_ = (([a1] : List Int)) := ⟨_, rfl⟩
    replace H : (if y226.length + y229.length < 17592186044416 then ((some (y226 ++ y229 : List Int)).bind fun y232 => (if y232.length + (l0.drop (x5_1 : Int).toNat).length < 17592186044416 then (some (y232 ++ (l0.drop (x5_1 : Int).toNat))) else (none))) else (none)) = some r := rH H hy229
    have Ny229 := Aside0.mk hy229
    clear hy229
    have c14 : y226.length + y229.length < 17592186044416 := ifN H
    replace H := ifT H
    have LMc14 := Aside0.mk c14
    clear c14
    obtain ⟨y232, hy232⟩ : ∃ y_ : List Int, y_ = (y226 ++ y229) := ⟨_, rfl⟩
    replace H : (if y232.length + (l0.drop (x5_1 : Int).toNat).length < 17592186044416 then (some (y232 ++ (l0.drop (x5_1 : Int).toNat))) else (none)) = some r := rH H hy232
    have Ny232 := Aside0.mk hy232
    clear hy232
    have c15b0 := eq_true (dA : 0 ≤ x5_1)
    have c16b0 := eq_true (dA : x5_1 ≤ (l0.length : Int))
    have c17 : y232.length + (l0.drop (x5_1 : Int).toNat).length < 17592186044416 := ifN H
    replace H := ifT H
    have LMc17 := Aside0.mk c17
    clear c17
    obtain ⟨y236, hy236⟩ : ∃ y_ : List Int, y_ = (y232 ++ (l0.drop (x5_1 : Int).toNat)) := ⟨_, rfl⟩
    replace H : (some y236) = some r := rH H hy236
    have Ny236 := Aside0.mk hy236
    clear hy236
    obtain rfl := Option.some.inj H
    obtain ⟨p214, q214⟩ : 0 ≤ (x5_1 : Int) ∧ x5_1 < (l0.length : Int) := ⟨dA, dA⟩
    obtain ⟨ad214, e214, hx214_0⟩ := Kd.at_int (Kd.C_below HR0.out HB.out) x5_1 p214 q214
    cases e214
    obtain ⟨p214, q214⟩ := eT p214 q214
    obtain ⟨p215, q215⟩ : 0 ≤ (x5_1 : Int) ∧ x5_1 < (l0.length : Int) := ⟨dA, dA⟩
    obtain ⟨ad215, e215, hx215_0⟩ := Kd.at_int (Kd.C_below HR0.out HB.out) x5_1 p215 q215
    obtain rfl : ad214 = ad215 := (by injection e215)
    obtain ⟨p215, q215⟩ := eT p215 q215
    try go_wp2
    have HBo := HB
    replace HB := db HB
    obtain ⟨i019, hi019, _, hsz19, _⟩ := info_parts info3
    obtain ⟨hcut19, hA19, hC19⟩ := print_take_of (P := Try.prog) (Value.int .i64) 0 35 3 .i64 Try.underlying35 hi019 hsz19 (some ad214) c0 l0 x5_1 (dA) (dA) HC0.out
    have HR225 := Aside0.mk (Kd.C_of_reads (h1 := fun _ => rfl) (hA19 _ (Kd.reads_of_C HR0.out)))
    have HC225 := Aside0.mk hC19
    clear hA19 hC19 hi019 hsz19
    have HL225 := Aside0.mk (show (x5_1 : Int) ≤ (l0.length : Int) from (dA))
    obtain ⟨i020, hi020, _, hsz20, _⟩ := info_parts info3
    obtain ⟨A20, hcut20, hA20, hC20⟩ := print_drop_of (P := Try.prog) (Value.int .i64) 0 35 3 .i64 Try.underlying35 hi020 hsz20 (some ad214) c0 l0 x5_1 (dA) (dA) HC0.out
    have HR235 := Aside0.mk (Kd.C_of_reads (h1 := fun _ => rfl) (hA20 _ (Kd.reads_of_C HR0.out)))
    have HC235 := Aside0.mk hC20
    clear hA20 hC20 hi020 hsz20
    refine sw (ds := []) 13 (mb 13 0) spec_l6Put.tab6 spec_l6Put.bits6 h0 (fun hHeld HT_ HW_ => ?_)
    generalize wr.drew = w18 at HB HR225 HR235 hHeld ⊢
    refine pa 1 36 (mb 13 2) HT_ ?_
    refine pa 2 37 (mb 13 6) HT_ ?_
    refine pa 3 38 (mb 13 14) HT_ ?_
    refine pa 5 40 (mb 13 46) HT_ ?_
    refine pa 8 43 (mb 13 302) HT_ ?_
    refine pa 9 44 (mb 13 814) HT_ ?_
    refine pa 10 45 (mb 13 1838) HT_ ?_
    refine join_ (σ := Value × Value × Value) 3 (mb 13 1919) (fun s_ => [(35, s_.1), (39, s_.2.1), (41, s_.2.2)]) (fun s_ w' => (Kd.R (Kd.int .i64) 3 w' w.heap.size (n1 s_.2.2) s_.2.1 y226) ∧ (Kd.R (Kd.int .i64) 3 w' w.heap.size (n1 s_.2.1) s_.2.2 y229) ∧ (Below w.heap.size w w')) ?_ ?_
    rotate_left
    ·
     intro hCont
     refine two_ (i := 0) (j := 6) (Ni := some 35) (Nj := some 41) (mb 13 1839) (mb 13 1902) rfl rfl rfl rfl (two_of HT_.out (by kernel_rfl)) (by decide) (by decide) (fun K hK => ?_) (fun K hK => ?_)
     ·
      skip
      refine Kd.R_lit_step (Kd.int .i64) _ 3 ?hg (N := 35) ?hd (xs := ([] : List Int)) (inner := []) (ok := fun _ => True) (okp := fun _ => True) ?hr ?hp (fun _ hk => hk) trivial (Below.refl _ _) (Nat.le_refl _) (by simp) ?_; (case hd => rfl); (case hg => rfl); (case hr => first | (go_simp; done) | (go_simp; rfl)); (case hp => exact (Reps.none _ _))
      intro v223 w21 ho22 hb hg_ hnew_
      clear hg_ hnew_
      (first | rw [← Ny222.out] at ho22 | (simp only [Int.reduceToNat] at ho22; rw [← Ny222.out] at ho22))
      have HO224 := rl w ho22
      replace HB := bs HB hb
      clear hb ho22
      refine hK.out _ _ trivial (fun hHeld => ?_)
      clear hK K
      refine nB ?_
      refine two_ (i := 4) (j := 6) (Ni := some 39) (Nj := some 41) (mb 13 1855) (mb 13 1903) rfl rfl rfl rfl (two_of HT_.out (by kernel_rfl)) (by decide) (by decide) (fun K hK => ?_) (fun K hK => ?_)
      ·
       skip
       refine Kd.R_append_rows_step (Kd.int .i64) (w0 := w) w.heap.size (by rfl) (.tmp 35) (.tmp 38) 35 3 (.int .i64 0) 8 rfl Try.underlying35 info3 rfl (by decide) (by omega) v223 y222 (l0.take (x5_1 : Int).toNat) _ _ _ (fun _ => True) (fun _ => False) rfl rfl ?aO ?aR (fun _ _ h => h) (fun _ h => h.elim) ?aF ?aB ?aS ?aL ?_
       (case aR => (have hr_ := HR225.out; rw [show (l0.take (x5_1 : Int).toNat).length = x5_1.toNat from (by rw [List.length_take]; have h_ : (x5_1 : Int) ≤ (l0.length : Int) := dA; omega)] at hr_; (repeat (first | exact (Kd.C_below hr_ HB.out) | (with_reducible refine Kd.C_alloc ?_ _) | (with_reducible refine Kd.C_drewN ?_ _) | (with_reducible refine Kd.C_drew ?_))); done))
       (case aB => exact bA)
       (case aF => exact (fun _ _ => trivial))
       (case aO => exact (rK HO224))
       (case aS => exact (below_size bA))
       (case aL => have := LMc13.out; have hlx_ := (show (l0.take (x5_1 : Int).toNat).length = x5_1.toNat from (by rw [List.length_take]; have h_ : (x5_1 : Int) ≤ (l0.length : Int) := dA; omega)); omega)
       intro v227 w23 ho hb hg hat
       rw [← Ny226.out] at ho
       have n0_ := Aside0.mk (hb)
       have n1_ := Aside0.mk (ho)
       clear HB
       clear HO224
       have HB := n0_
       have HO228 := n1_
       clear n0_ n1_
       clear ho hb hg hat
       refine hK.out _ _ trivial (fun hHeld => ?_)
       clear hK K
       refine nB ?_
       refine oa 6 41 (mb 13 1919) HT_ (fun K hK => ?_)
       refine Kd.R_lit_step (Kd.int .i64) _ 3 ?hg (N := 41) ?hd (xs := ([a1] : List Int)) (inner := [.int .i64 a1]) (ok := fun _ => True) (okp := fun _ => True) ?hr ?hp (fun _ hk => hk) trivial (Below.refl _ _) (Nat.le_refl _) (by simp) ?_; (case hd => rfl); (case hg => rfl); (case hr => first | (go_simp; done) | (go_simp; rfl)); (case hp => exact (Reps.one (show Kd.M (Kd.int .i64) _ _ _ a1 [.int .i64 a1] from rfl) (Reps.none _ _)))
       intro v230 w24 ho25 hb hg_ hnew_
       clear hg_ hnew_
       (first | rw [← Ny229.out] at ho25 | (simp only [Int.reduceToNat] at ho25; rw [← Ny229.out] at ho25))
       have HO231 := rl w (rn ho25 HO228)
       replace HO228 := re HO228 ho25 hb
       replace HB := bs HB hb
       clear hb ho25
       refine hK.out _ _ trivial (fun hHeld => ?_)
       clear hK K
       refine nB ?_
       exact mB (hCont (v223, v227, v230) _ ⟨(rm HO228 (fun _ hk => hk.2)), (rm HO231 (fun _ hk => hk.2)), bA⟩)
      ·
       skip
       refine Kd.R_lit_step (Kd.int .i64) _ 3 ?hg (N := 41) ?hd (xs := ([a1] : List Int)) (inner := [.int .i64 a1]) (ok := fun _ => True) (okp := fun _ => True) ?hr ?hp (fun _ hk => hk) trivial (Below.refl _ _) (Nat.le_refl _) (by simp) ?_; (case hd => rfl); (case hg => rfl); (case hr => first | (go_simp; done) | (go_simp; rfl)); (case hp => exact (Reps.one (show Kd.M (Kd.int .i64) _ _ _ a1 [.int .i64 a1] from rfl) (Reps.none _ _)))
       intro v230 w23 ho24 hb hg_ hnew_
       clear hg_ hnew_
       (first | rw [← Ny229.out] at ho24 | (simp only [Int.reduceToNat] at ho24; rw [← Ny229.out] at ho24))
       have HO231 := rl w (rn ho24 HO224)
       replace HO224 := re HO224 ho24 hb
       replace HB := bs HB hb
       clear hb ho24
       refine hK.out _ _ trivial (fun hHeld => ?_)
       clear hK K
       refine nB ?_
       refine oa 4 39 (mb 13 1919) HT_ (fun K hK => ?_)
       refine Kd.R_append_rows_step (Kd.int .i64) (w0 := w) w.heap.size (by rfl) (.tmp 35) (.tmp 38) 35 3 (.int .i64 0) 8 rfl Try.underlying35 info3 rfl (by decide) (by omega) v223 y222 (l0.take (x5_1 : Int).toNat) _ _ _ (n1 v230) (fun _ => False) rfl rfl ?aO ?aR (fun _ _ h => h) (fun _ h => h.elim) ?aF ?aB ?aS ?aL ?_
       (case aR => (have hr_ := HR225.out; rw [show (l0.take (x5_1 : Int).toNat).length = x5_1.toNat from (by rw [List.length_take]; have h_ : (x5_1 : Int) ≤ (l0.length : Int) := dA; omega)] at hr_; (repeat (first | exact (Kd.C_below hr_ HB.out) | (with_reducible refine Kd.C_alloc ?_ _) | (with_reducible refine Kd.C_drewN ?_ _) | (with_reducible refine Kd.C_drew ?_))); done))
       (case aB => exact bA)
       (case aF => exact (fun k_ hk => Kd.fresh' (Kd.R_lt (rK HO231)) k_ hk))
       (case aO => exact (rm HO224 (fun _ hk => hk.2)))
       (case aS => exact (below_size bA))
       (case aL => have := LMc13.out; have hlx_ := (show (l0.take (x5_1 : Int).toNat).length = x5_1.toNat from (by rw [List.length_take]; have h_ : (x5_1 : Int) ≤ (l0.length : Int) := dA; omega)); omega)
       intro v227 w25 ho hb hg hat
       rw [← Ny226.out] at ho
       have n0_ := Aside0.mk (Kd.R_after (ok := (fun _ => True)) (rK HO231) hg hat)
       have n1_ := Aside0.mk (hb)
       have n2_ := Aside0.mk (ho)
       clear HO231
       clear HB
       clear HO224
       have HO231 := n0_
       have HB := n1_
       have HO228 := n2_
       clear n0_ n1_ n2_
       clear ho hb hg hat
       refine hK.out _ _ trivial (fun hHeld => ?_)
       clear hK K
       refine nB ?_
       exact mB (hCont (v223, v227, v230) _ ⟨(rK HO228), (rm HO231 (fun _ hk => hk.2)), bA⟩)
     ·
      skip
      refine Kd.R_lit_step (Kd.int .i64) _ 3 ?hg (N := 41) ?hd (xs := ([a1] : List Int)) (inner := [.int .i64 a1]) (ok := fun _ => True) (okp := fun _ => True) ?hr ?hp (fun _ hk => hk) trivial (Below.refl _ _) (Nat.le_refl _) (by simp) ?_; (case hd => rfl); (case hg => rfl); (case hr => first | (go_simp; done) | (go_simp; rfl)); (case hp => exact (Reps.one (show Kd.M (Kd.int .i64) _ _ _ a1 [.int .i64 a1] from rfl) (Reps.none _ _)))
      intro v230 w21 ho22 hb hg_ hnew_
      clear hg_ hnew_
      (first | rw [← Ny229.out] at ho22 | (simp only [Int.reduceToNat] at ho22; rw [← Ny229.out] at ho22))
      have HO231 := rl w ho22
      replace HB := bs HB hb
      clear hb ho22
      refine hK.out _ _ trivial (fun hHeld => ?_)
      clear hK K
      refine nB ?_
      refine oa 0 35 (mb 13 1903) HT_ (fun K hK => ?_)
      refine Kd.R_lit_step (Kd.int .i64) _ 3 ?hg (N := 35) ?hd (xs := ([] : List Int)) (inner := []) (ok := fun _ => True) (okp := fun _ => True) ?hr ?hp (fun _ hk => hk) trivial (Below.refl _ _) (Nat.le_refl _) (by simp) ?_; (case hd => rfl); (case hg => rfl); (case hr => first | (go_simp; done) | (go_simp; rfl)); (case hp => exact (Reps.none _ _))
      intro v223 w23 ho24 hb hg_ hnew_
      clear hg_ hnew_
      (first | rw [← Ny222.out] at ho24 | (simp only [Int.reduceToNat] at ho24; rw [← Ny222.out] at ho24))
      have HO224 := rl w (rn ho24 HO231)
      replace HO231 := re HO231 ho24 hb
      replace HB := bs HB hb
      clear hb ho24
      refine hK.out _ _ trivial (fun hHeld => ?_)
      clear hK K
      refine nB ?_
      refine oa 4 39 (mb 13 1919) HT_ (fun K hK => ?_)
      refine Kd.R_append_rows_step (Kd.int .i64) (w0 := w) w.heap.size (by rfl) (.tmp 35) (.tmp 38) 35 3 (.int .i64 0) 8 rfl Try.underlying35 info3 rfl (by decide) (by omega) v223 y222 (l0.take (x5_1 : Int).toNat) _ _ _ (n1 v230) (fun _ => False) rfl rfl ?aO ?aR (fun _ _ h => h) (fun _ h => h.elim) ?aF ?aB ?aS ?aL ?_
      (case aR => (have hr_ := HR225.out; rw [show (l0.take (x5_1 : Int).toNat).length = x5_1.toNat from (by rw [List.length_take]; have h_ : (x5_1 : Int) ≤ (l0.length : Int) := dA; omega)] at hr_; (repeat (first | exact (Kd.C_below hr_ HB.out) | (with_reducible refine Kd.C_alloc ?_ _) | (with_reducible refine Kd.C_drewN ?_ _) | (with_reducible refine Kd.C_drew ?_))); done))
      (case aB => exact bA)
      (case aF => exact (fun k_ hk => Kd.fresh' (Kd.R_lt (rK HO231)) k_ hk))
      (case aO => exact (rm HO224 (fun _ hk => hk.2)))
      (case aS => exact (below_size bA))
      (case aL => have := LMc13.out; have hlx_ := (show (l0.take (x5_1 : Int).toNat).length = x5_1.toNat from (by rw [List.length_take]; have h_ : (x5_1 : Int) ≤ (l0.length : Int) := dA; omega)); omega)
      intro v227 w25 ho hb hg hat
      rw [← Ny226.out] at ho
      have n0_ := Aside0.mk (Kd.R_after (ok := (fun _ => True)) (rK HO231) hg hat)
      have n1_ := Aside0.mk (hb)
      have n2_ := Aside0.mk (ho)
      clear HO231
      clear HB
      clear HO224
      have HO231 := n0_
      have HB := n1_
      have HO228 := n2_
      clear n0_ n1_ n2_
      clear ho hb hg hat
      refine hK.out _ _ trivial (fun hHeld => ?_)
      clear hK K
      refine nB ?_
      exact mB (hCont (v223, v227, v230) _ ⟨(rK HO228), (rm HO231 (fun _ hk => hk.2)), bA⟩)
    rintro ⟨v223, v227, v230⟩ w26 ⟨h0_, h1_, h2_⟩
    have n0_ : Aside0 (Kd.R (Kd.int .i64) 3 w26 w.heap.size (n1 v230) v227 y226) := ⟨h0_⟩
    have n1_ : Aside0 (Kd.R (Kd.int .i64) 3 w26 w.heap.size (n1 v227) v230 y229) := ⟨h1_⟩
    have n2_ : Aside0 (Below w.heap.size w w26) := ⟨h2_⟩
    clear HB
    clear h0_ h1_ h2_
    have HO228 := n0_
    have HO231 := n1_
    have HB := n2_
    clear n0_ n1_ n2_
    have hHeld := trivial
    obtain ⟨Ao28, co28, eo28⟩ := Kd.R_slice HO231.out
    (first | subst eo28 | (injection eo28 with f1_ f2_ f3_; have f4_ := f1_.symm; have f5_ := f3_.symm; clear f1_ f2_ f3_; subst f4_; subst f5_))
    refine norm_ (a' := ?_) ?_ ?_
    rotate_left
    ·
     simp only [putAll, Act.put, List.setIfInBounds_toArray, List.set_cons_zero, List.set_cons_succ]
     rfl
    refine oa 7 42 (mb 13 2047) HT_ (fun K hK => ?_)
    refine Kd.R_append_rows_step (Kd.int .i64) (w0 := w) w.heap.size (by rfl) (.tmp 39) (.tmp 41) 35 3 (.int .i64 0) 8 rfl Try.underlying35 info3 rfl (by decide) (by omega) v227 y226 y229 _ _ _ (n1 (.slice Ao28 y229.length co28)) (fun _ => False) rfl rfl ?aO ?aR (fun _ _ h => h) (fun _ h => h.elim) ?aF ?aB ?aS ?aL ?_
    (case aR => repeat (first | exact (Kd.R_reads' HO231.out).2.2 | (with_reducible refine Kd.C_alloc ?_ _) | (with_reducible refine Kd.C_drewN ?_ _) | (with_reducible refine Kd.C_drew ?_)))
    (case aB => exact bA)
    (case aF => exact (fun k_ hk => Kd.fresh' (Kd.R_lt (rK HO231)) k_ hk))
    (case aO => exact (rK HO228))
    (case aS => exact (below_size bA))
    (case aL => have := LMc14.out; omega)
    intro v233 w27 ho hb hg hat
    rw [← Ny232.out] at ho
    have n0_ := Aside0.mk (Kd.R_after (ok := (fun _ => True)) (rm HO231 (fun _ hk => ⟨trivial, hk⟩)) hg hat)
    have n1_ := Aside0.mk (hb)
    have n2_ := Aside0.mk (ho)
    clear HO231
    clear HB
    clear HO228
    have HO231 := n0_
    have HB := n1_
    have HO234 := n2_
    clear n0_ n1_ n2_
    clear ho hb hg hat
    refine hK.out _ _ trivial (fun hHeld => ?_)
    clear hK K
    refine nB ?_
    refine oa 11 46 (mb 13 4095) HT_ (fun K hK => ?_)
    refine Kd.R_append_rows_step (Kd.int .i64) (w0 := w) w.heap.size (by rfl) (.tmp 42) (.tmp 45) 35 3 (.int .i64 0) 8 rfl Try.underlying35 info3 rfl (by decide) (by omega) v233 y232 (l0.drop (x5_1 : Int).toNat) _ _ _ (n1 (.slice Ao28 y229.length co28)) (fun _ => False) rfl rfl ?aO ?aR (fun _ _ h => h) (fun _ h => h.elim) ?aF ?aB ?aS ?aL ?_
    (case aR => (have hr_ := HR235.out; rw [show (l0.drop (x5_1 : Int).toNat).length = (l0.length - x5_1.toNat) from List.length_drop] at hr_; (repeat (first | exact (Kd.C_below hr_ HB.out) | (with_reducible refine Kd.C_alloc ?_ _) | (with_reducible refine Kd.C_drewN ?_ _) | (with_reducible refine Kd.C_drew ?_))); done))
    (case aB => exact bA)
    (case aF => exact (fun k_ hk => Kd.fresh' (Kd.R_lt (rK HO231)) k_ hk))
    (case aO => exact (rK HO234))
    (case aS => exact (below_size bA))
    (case aL => have := LMc17.out; have hlx_ := (show (l0.drop (x5_1 : Int).toNat).length = (l0.length - x5_1.toNat) from List.length_drop); omega)
    intro v237 w29 ho hb hg hat
    rw [← Ny236.out] at ho
    have n0_ := Aside0.mk (Kd.R_after (ok := (fun _ => True)) (rK HO231) hg hat)
    have n1_ := Aside0.mk (hb)
    have n2_ := Aside0.mk (ho)
    clear HO231
    clear HB
    clear HO234
    have HO231 := n0_
    have HB := n1_
    have HO238 := n2_
    clear n0_ n1_ n2_
    clear ho hb hg hat
    refine hK.out _ _ trivial (fun hHeld => ?_)
    clear hK K
    refine nB ?_
    refine pa 12 4 (mb 13 8191) HT_ ?_
    refine eA HT_ ?_
    try go_wp2
    go_ret
    exact ⟨_, rA, rm HO238 (fun _ hk => trivial), bA⟩
   rw [if_neg c3] at H
   have c3b0 := decide_eq_false c3
   clear c3
   obtain ⟨y239, hy239⟩ : ∃ y_ : List Int, y_ = (([] : List Int)) := ⟨_, rfl⟩
   replace H : (if 0 ≤ x5_1 then (if x5_1 ≤ (l0.length : Int) then (if y239.length + (l0.take (x5_1 : Int).toNat).length < 17592186044416 then ((some (y239 ++ (l0.take (x5_1 : Int).toNat) : List Int)).bind fun y243 => ((some (([a1] : List Int) : List Int)).bind fun y246 => (if y243.length + y246.length < 17592186044416 then ((some (y243 ++ y246 : List Int)).bind fun y249 => (if y249.length + (l0.drop (x5_1 : Int).toNat).length < 17592186044416 then (some (y249 ++ (l0.drop (x5_1 : Int).toNat))) else (none))) else (none)))) else (none)) else (none)) else (none)) = some r := rH H hy239
   have Ny239 := Aside0.mk hy239
   clear hy239
   have c30 : 0 ≤ x5_1 := ifN H
   replace H := ifT H
   have c30b0 := eq_true c30
   have c30b1 := decide_eq_true c30
   clear c30
   have c31 : x5_1 ≤ (l0.length : Int) := ifN H
   replace H := ifT H
   have c31b0 := eq_true c31
   have c31b1 := decide_eq_true c31
   clear c31
   have c32 : y239.length + (l0.take (x5_1 : Int).toNat).length < 17592186044416 := ifN H
   replace H := ifT H
   have LMc32 := Aside0.mk c32
   clear c32
   obtain ⟨y243, hy243⟩ : ∃ y_ : List Int, y_ = (y239 ++ (l0.take (x5_1 : Int).toNat)) := ⟨_, rfl⟩
   replace H : ((some (([a1] : List Int) : List Int)).bind fun y246 => (if y243.length + y246.length < 17592186044416 then ((some (y243 ++ y246 : List Int)).bind fun y249 => (if y249.length + (l0.drop (x5_1 : Int).toNat).length < 17592186044416 then (some (y249 ++ (l0.drop (x5_1 : Int).toNat))) else (none))) else (none))) = some r := rH H hy243
   have Ny243 := Aside0.mk hy243
   clear hy243
   obtain ⟨y246, hy246⟩ : ∃ y_ : List Int, y_ = (([a1] : List Int)) := ⟨_, rfl⟩
   replace H : (if y243.length + y246.length < 17592186044416 then ((some (y243 ++ y246 : List Int)).bind fun y249 => (if y249.length + (l0.drop (x5_1 : Int).toNat).length < 17592186044416 then (some (y249 ++ (l0.drop (x5_1 : Int).toNat))) else (none))) else (none)) = some r := rH H hy246
   have Ny246 := Aside0.mk hy246
   clear hy246
   have c33 : y243.length + y246.length < 17592186044416 := ifN H
   replace H := ifT H
   have LMc33 := Aside0.mk c33
   clear c33
   obtain ⟨y249, hy249⟩ : ∃ y_ : List Int, y_ = (y243 ++ y246) := ⟨_, rfl⟩
   replace H : (if y249.length + (l0.drop (x5_1 : Int).toNat).length < 17592186044416 then (some (y249 ++ (l0.drop (x5_1 : Int).toNat))) else (none)) = some r := rH H hy249
   have Ny249 := Aside0.mk hy249
   clear hy249
   have c34b0 := eq_true (dA : 0 ≤ x5_1)
   have c35b0 := eq_true (dA : x5_1 ≤ (l0.length : Int))
   have c36 : y249.length + (l0.drop (x5_1 : Int).toNat).length < 17592186044416 := ifN H
   replace H := ifT H
   have LMc36 := Aside0.mk c36
   clear c36
   obtain ⟨y253, hy253⟩ : ∃ y_ : List Int, y_ = (y249 ++ (l0.drop (x5_1 : Int).toNat)) := ⟨_, rfl⟩
   replace H : (some y253) = some r := rH H hy253
   have Ny253 := Aside0.mk hy253
   clear hy253
   obtain rfl := Option.some.inj H
   try go_wp2
   have HBo := HB
   replace HB := db HB
   obtain ⟨i038, hi038, _, hsz38, _⟩ := info_parts info3
   obtain ⟨hcut38, hA38, hC38⟩ := print_take_of (P := Try.prog) (Value.int .i64) 0 35 3 .i64 Try.underlying35 hi038 hsz38 A0 c0 l0 x5_1 (dA) (dA) HC0.out
   have HR242 := Aside0.mk (Kd.C_of_reads (h1 := fun _ => rfl) (hA38 _ (Kd.reads_of_C HR0.out)))
   have HC242 := Aside0.mk hC38
   clear hA38 hC38 hi038 hsz38
   have HL242 := Aside0.mk (show (x5_1 : Int) ≤ (l0.length : Int) from (dA))
   obtain ⟨i039, hi039, _, hsz39, _⟩ := info_parts info3
   obtain ⟨A39, hcut39, hA39, hC39⟩ := print_drop_of (P := Try.prog) (Value.int .i64) 0 35 3 .i64 Try.underlying35 hi039 hsz39 A0 c0 l0 x5_1 (dA) (dA) HC0.out
   have HR252 := Aside0.mk (Kd.C_of_reads (h1 := fun _ => rfl) (hA39 _ (Kd.reads_of_C HR0.out)))
   have HC252 := Aside0.mk hC39
   clear hA39 hC39 hi039 hsz39
   refine sw (ds := []) 13 (mb 13 0) spec_l6Put.tab6 spec_l6Put.bits6 h0 (fun hHeld HT_ HW_ => ?_)
   generalize wr.drew = w37 at HB HR242 HR252 hHeld ⊢
   refine pa 1 36 (mb 13 2) HT_ ?_
   refine pa 2 37 (mb 13 6) HT_ ?_
   refine pa 3 38 (mb 13 14) HT_ ?_
   refine pa 5 40 (mb 13 46) HT_ ?_
   refine pa 8 43 (mb 13 302) HT_ ?_
   refine pa 9 44 (mb 13 814) HT_ ?_
   refine pa 10 45 (mb 13 1838) HT_ ?_
   refine join_ (σ := Value × Value × Value) 3 (mb 13 1919) (fun s_ => [(35, s_.1), (39, s_.2.1), (41, s_.2.2)]) (fun s_ w' => (Kd.R (Kd.int .i64) 3 w' w.heap.size (n1 s_.2.2) s_.2.1 y243) ∧ (Kd.R (Kd.int .i64) 3 w' w.heap.size (n1 s_.2.1) s_.2.2 y246) ∧ (Below w.heap.size w w')) ?_ ?_
   rotate_left
   ·
    intro hCont
    refine two_ (i := 0) (j := 6) (Ni := some 35) (Nj := some 41) (mb 13 1839) (mb 13 1902) rfl rfl rfl rfl (two_of HT_.out (by kernel_rfl)) (by decide) (by decide) (fun K hK => ?_) (fun K hK => ?_)
    ·
     skip
     refine Kd.R_lit_step (Kd.int .i64) _ 3 ?hg (N := 35) ?hd (xs := ([] : List Int)) (inner := []) (ok := fun _ => True) (okp := fun _ => True) ?hr ?hp (fun _ hk => hk) trivial (Below.refl _ _) (Nat.le_refl _) (by simp) ?_; (case hd => rfl); (case hg => rfl); (case hr => first | (go_simp; done) | (go_simp; rfl)); (case hp => exact (Reps.none _ _))
     intro v240 w40 ho41 hb hg_ hnew_
     clear hg_ hnew_
     (first | rw [← Ny239.out] at ho41 | (simp only [Int.reduceToNat] at ho41; rw [← Ny239.out] at ho41))
     have HO241 := rl w ho41
     replace HB := bs HB hb
     clear hb ho41
     refine hK.out _ _ trivial (fun hHeld => ?_)
     clear hK K
     refine nB ?_
     refine two_ (i := 4) (j := 6) (Ni := some 39) (Nj := some 41) (mb 13 1855) (mb 13 1903) rfl rfl rfl rfl (two_of HT_.out (by kernel_rfl)) (by decide) (by decide) (fun K hK => ?_) (fun K hK => ?_)
     ·
      skip
      refine Kd.R_append_rows_step (Kd.int .i64) (w0 := w) w.heap.size (by rfl) (.tmp 35) (.tmp 38) 35 3 (.int .i64 0) 8 rfl Try.underlying35 info3 rfl (by decide) (by omega) v240 y239 (l0.take (x5_1 : Int).toNat) _ _ _ (fun _ => True) (fun _ => False) rfl rfl ?aO ?aR (fun _ _ h => h) (fun _ h => h.elim) ?aF ?aB ?aS ?aL ?_
      (case aR => (have hr_ := HR242.out; rw [show (l0.take (x5_1 : Int).toNat).length = x5_1.toNat from (by rw [List.length_take]; have h_ : (x5_1 : Int) ≤ (l0.length : Int) := dA; omega)] at hr_; (repeat (first | exact (Kd.C_below hr_ HB.out) | (with_reducible refine Kd.C_alloc ?_ _) | (with_reducible refine Kd.C_drewN ?_ _) | (with_reducible refine Kd.C_drew ?_))); done))
      (case aB => exact bA)
      (case aF => exact (fun _ _ => trivial))
      (case aO => exact (rK HO241))
      (case aS => exact (below_size bA))
      (case aL => have := LMc32.out; have hlx_ := (show (l0.take (x5_1 : Int).toNat).length = x5_1.toNat from (by rw [List.length_take]; have h_ : (x5_1 : Int) ≤ (l0.length : Int) := dA; omega)); omega)
      intro v244 w42 ho hb hg hat
      rw [← Ny243.out] at ho
      have n0_ := Aside0.mk (hb)
      have n1_ := Aside0.mk (ho)
      clear HB
      clear HO241
      have HB := n0_
      have HO245 := n1_
      clear n0_ n1_
      clear ho hb hg hat
      refine hK.out _ _ trivial (fun hHeld => ?_)
      clear hK K
      refine nB ?_
      refine oa 6 41 (mb 13 1919) HT_ (fun K hK => ?_)
      refine Kd.R_lit_step (Kd.int .i64) _ 3 ?hg (N := 41) ?hd (xs := ([a1] : List Int)) (inner := [.int .i64 a1]) (ok := fun _ => True) (okp := fun _ => True) ?hr ?hp (fun _ hk => hk) trivial (Below.refl _ _) (Nat.le_refl _) (by simp) ?_; (case hd => rfl); (case hg => rfl); (case hr => first | (go_simp; done) | (go_simp; rfl)); (case hp => exact (Reps.one (show Kd.M (Kd.int .i64) _ _ _ a1 [.int .i64 a1] from rfl) (Reps.none _ _)))
      intro v247 w43 ho44 hb hg_ hnew_
      clear hg_ hnew_
      (first | rw [← Ny246.out] at ho44 | (simp only [Int.reduceToNat] at ho44; rw [← Ny246.out] at ho44))
      have HO248 := rl w (rn ho44 HO245)
      replace HO245 := re HO245 ho44 hb
      replace HB := bs HB hb
      clear hb ho44
      refine hK.out _ _ trivial (fun hHeld => ?_)
      clear hK K
      refine nB ?_
      exact mB (hCont (v240, v244, v247) _ ⟨(rm HO245 (fun _ hk => hk.2)), (rm HO248 (fun _ hk => hk.2)), bA⟩)
     ·
      skip
      refine Kd.R_lit_step (Kd.int .i64) _ 3 ?hg (N := 41) ?hd (xs := ([a1] : List Int)) (inner := [.int .i64 a1]) (ok := fun _ => True) (okp := fun _ => True) ?hr ?hp (fun _ hk => hk) trivial (Below.refl _ _) (Nat.le_refl _) (by simp) ?_; (case hd => rfl); (case hg => rfl); (case hr => first | (go_simp; done) | (go_simp; rfl)); (case hp => exact (Reps.one (show Kd.M (Kd.int .i64) _ _ _ a1 [.int .i64 a1] from rfl) (Reps.none _ _)))
      intro v247 w42 ho43 hb hg_ hnew_
      clear hg_ hnew_
      (first | rw [← Ny246.out] at ho43 | (simp only [Int.reduceToNat] at ho43; rw [← Ny246.out] at ho43))
      have HO248 := rl w (rn ho43 HO241)
      replace HO241 := re HO241 ho43 hb
      replace HB := bs HB hb
      clear hb ho43
      refine hK.out _ _ trivial (fun hHeld => ?_)
      clear hK K
      refine nB ?_
      refine oa 4 39 (mb 13 1919) HT_ (fun K hK => ?_)
      refine Kd.R_append_rows_step (Kd.int .i64) (w0 := w) w.heap.size (by rfl) (.tmp 35) (.tmp 38) 35 3 (.int .i64 0) 8 rfl Try.underlying35 info3 rfl (by decide) (by omega) v240 y239 (l0.take (x5_1 : Int).toNat) _ _ _ (n1 v247) (fun _ => False) rfl rfl ?aO ?aR (fun _ _ h => h) (fun _ h => h.elim) ?aF ?aB ?aS ?aL ?_
      (case aR => (have hr_ := HR242.out; rw [show (l0.take (x5_1 : Int).toNat).length = x5_1.toNat from (by rw [List.length_take]; have h_ : (x5_1 : Int) ≤ (l0.length : Int) := dA; omega)] at hr_; (repeat (first | exact (Kd.C_below hr_ HB.out) | (with_reducible refine Kd.C_alloc ?_ _) | (with_reducible refine Kd.C_drewN ?_ _) | (with_reducible refine Kd.C_drew ?_))); done))
      (case aB => exact bA)
      (case aF => exact (fun k_ hk => Kd.fresh' (Kd.R_lt (rK HO248)) k_ hk))
      (case aO => exact (rm HO241 (fun _ hk => hk.2)))
      (case aS => exact (below_size bA))
      (case aL => have := LMc32.out; have hlx_ := (show (l0.take (x5_1 : Int).toNat).length = x5_1.toNat from (by rw [List.length_take]; have h_ : (x5_1 : Int) ≤ (l0.length : Int) := dA; omega)); omega)
      intro v244 w44 ho hb hg hat
      rw [← Ny243.out] at ho
      have n0_ := Aside0.mk (Kd.R_after (ok := (fun _ => True)) (rK HO248) hg hat)
      have n1_ := Aside0.mk (hb)
      have n2_ := Aside0.mk (ho)
      clear HO248
      clear HB
      clear HO241
      have HO248 := n0_
      have HB := n1_
      have HO245 := n2_
      clear n0_ n1_ n2_
      clear ho hb hg hat
      refine hK.out _ _ trivial (fun hHeld => ?_)
      clear hK K
      refine nB ?_
      exact mB (hCont (v240, v244, v247) _ ⟨(rK HO245), (rm HO248 (fun _ hk => hk.2)), bA⟩)
    ·
     skip
     refine Kd.R_lit_step (Kd.int .i64) _ 3 ?hg (N := 41) ?hd (xs := ([a1] : List Int)) (inner := [.int .i64 a1]) (ok := fun _ => True) (okp := fun _ => True) ?hr ?hp (fun _ hk => hk) trivial (Below.refl _ _) (Nat.le_refl _) (by simp) ?_; (case hd => rfl); (case hg => rfl); (case hr => first | (go_simp; done) | (go_simp; rfl)); (case hp => exact (Reps.one (show Kd.M (Kd.int .i64) _ _ _ a1 [.int .i64 a1] from rfl) (Reps.none _ _)))
     intro v247 w40 ho41 hb hg_ hnew_
     clear hg_ hnew_
     (first | rw [← Ny246.out] at ho41 | (simp only [Int.reduceToNat] at ho41; rw [← Ny246.out] at ho41))
     have HO248 := rl w ho41
     replace HB := bs HB hb
     clear hb ho41
     refine hK.out _ _ trivial (fun hHeld => ?_)
     clear hK K
     refine nB ?_
     refine oa 0 35 (mb 13 1903) HT_ (fun K hK => ?_)
     refine Kd.R_lit_step (Kd.int .i64) _ 3 ?hg (N := 35) ?hd (xs := ([] : List Int)) (inner := []) (ok := fun _ => True) (okp := fun _ => True) ?hr ?hp (fun _ hk => hk) trivial (Below.refl _ _) (Nat.le_refl _) (by simp) ?_; (case hd => rfl); (case hg => rfl); (case hr => first | (go_simp; done) | (go_simp; rfl)); (case hp => exact (Reps.none _ _))
     intro v240 w42 ho43 hb hg_ hnew_
     clear hg_ hnew_
     (first | rw [← Ny239.out] at ho43 | (simp only [Int.reduceToNat] at ho43; rw [← Ny239.out] at ho43))
     have HO241 := rl w (rn ho43 HO248)
     replace HO248 := re HO248 ho43 hb
     replace HB := bs HB hb
     clear hb ho43
     refine hK.out _ _ trivial (fun hHeld => ?_)
     clear hK K
     refine nB ?_
     refine oa 4 39 (mb 13 1919) HT_ (fun K hK => ?_)
     refine Kd.R_append_rows_step (Kd.int .i64) (w0 := w) w.heap.size (by rfl) (.tmp 35) (.tmp 38) 35 3 (.int .i64 0) 8 rfl Try.underlying35 info3 rfl (by decide) (by omega) v240 y239 (l0.take (x5_1 : Int).toNat) _ _ _ (n1 v247) (fun _ => False) rfl rfl ?aO ?aR (fun _ _ h => h) (fun _ h => h.elim) ?aF ?aB ?aS ?aL ?_
     (case aR => (have hr_ := HR242.out; rw [show (l0.take (x5_1 : Int).toNat).length = x5_1.toNat from (by rw [List.length_take]; have h_ : (x5_1 : Int) ≤ (l0.length : Int) := dA; omega)] at hr_; (repeat (first | exact (Kd.C_below hr_ HB.out) | (with_reducible refine Kd.C_alloc ?_ _) | (with_reducible refine Kd.C_drewN ?_ _) | (with_reducible refine Kd.C_drew ?_))); done))
     (case aB => exact bA)
     (case aF => exact (fun k_ hk => Kd.fresh' (Kd.R_lt (rK HO248)) k_ hk))
     (case aO => exact (rm HO241 (fun _ hk => hk.2)))
     (case aS => exact (below_size bA))
     (case aL => have := LMc32.out; have hlx_ := (show (l0.take (x5_1 : Int).toNat).length = x5_1.toNat from (by rw [List.length_take]; have h_ : (x5_1 : Int) ≤ (l0.length : Int) := dA; omega)); omega)
     intro v244 w44 ho hb hg hat
     rw [← Ny243.out] at ho
     have n0_ := Aside0.mk (Kd.R_after (ok := (fun _ => True)) (rK HO248) hg hat)
     have n1_ := Aside0.mk (hb)
     have n2_ := Aside0.mk (ho)
     clear HO248
     clear HB
     clear HO241
     have HO248 := n0_
     have HB := n1_
     have HO245 := n2_
     clear n0_ n1_ n2_
     clear ho hb hg hat
     refine hK.out _ _ trivial (fun hHeld => ?_)
     clear hK K
     refine nB ?_
     exact mB (hCont (v240, v244, v247) _ ⟨(rK HO245), (rm HO248 (fun _ hk => hk.2)), bA⟩)
   rintro ⟨v240, v244, v247⟩ w45 ⟨h0_, h1_, h2_⟩
   have n0_ : Aside0 (Kd.R (Kd.int .i64) 3 w45 w.heap.size (n1 v247) v244 y243) := ⟨h0_⟩
   have n1_ : Aside0 (Kd.R (Kd.int .i64) 3 w45 w.heap.size (n1 v244) v247 y246) := ⟨h1_⟩
   have n2_ : Aside0 (Below w.heap.size w w45) := ⟨h2_⟩
   clear HB
   clear h0_ h1_ h2_
   have HO245 := n0_
   have HO248 := n1_
   have HB := n2_
   clear n0_ n1_ n2_
   have hHeld := trivial
   obtain ⟨Ao47, co47, eo47⟩ := Kd.R_slice HO248.out
   (first | subst eo47 | (injection eo47 with f1_ f2_ f3_; have f4_ := f1_.symm; have f5_ := f3_.symm; clear f1_ f2_ f3_; subst f4_; subst f5_))
   refine norm_ (a' := ?_) ?_ ?_
   rotate_left
   ·
    simp only [putAll, Act.put, List.setIfInBounds_toArray, List.set_cons_zero, List.set_cons_succ]
    rfl
   refine oa 7 42 (mb 13 2047) HT_ (fun K hK => ?_)
   refine Kd.R_append_rows_step (Kd.int .i64) (w0 := w) w.heap.size (by rfl) (.tmp 39) (.tmp 41) 35 3 (.int .i64 0) 8 rfl Try.underlying35 info3 rfl (by decide) (by omega) v244 y243 y246 _ _ _ (n1 (.slice Ao47 y246.length co47)) (fun _ => False) rfl rfl ?aO ?aR (fun _ _ h => h) (fun _ h => h.elim) ?aF ?aB ?aS ?aL ?_
   (case aR => repeat (first | exact (Kd.R_reads' HO248.out).2.2 | (with_reducible refine Kd.C_alloc ?_ _) | (with_reducible refine Kd.C_drewN ?_ _) | (with_reducible refine Kd.C_drew ?_)))
   (case aB => exact bA)
   (case aF => exact (fun k_ hk => Kd.fresh' (Kd.R_lt (rK HO248)) k_ hk))
   (case aO => exact (rK HO245))
   (case aS => exact (below_size bA))
   (case aL => have := LMc33.out; omega)
   intro v250 w46 ho hb hg hat
   rw [← Ny249.out] at ho
   have n0_ := Aside0.mk (Kd.R_after (ok := (fun _ => True)) (rm HO248 (fun _ hk => ⟨trivial, hk⟩)) hg hat)
   have n1_ := Aside0.mk (hb)
   have n2_ := Aside0.mk (ho)
   clear HO248
   clear HB
   clear HO245
   have HO248 := n0_
   have HB := n1_
   have HO251 := n2_
   clear n0_ n1_ n2_
   clear ho hb hg hat
   refine hK.out _ _ trivial (fun hHeld => ?_)
   clear hK K
   refine nB ?_
   refine oa 11 46 (mb 13 4095) HT_ (fun K hK => ?_)
   refine Kd.R_append_rows_step (Kd.int .i64) (w0 := w) w.heap.size (by rfl) (.tmp 42) (.tmp 45) 35 3 (.int .i64 0) 8 rfl Try.underlying35 info3 rfl (by decide) (by omega) v250 y249 (l0.drop (x5_1 : Int).toNat) _ _ _ (n1 (.slice Ao47 y246.length co47)) (fun _ => False) rfl rfl ?aO ?aR (fun _ _ h => h) (fun _ h => h.elim) ?aF ?aB ?aS ?aL ?_
   (case aR => (have hr_ := HR252.out; rw [show (l0.drop (x5_1 : Int).toNat).length = (l0.length - x5_1.toNat) from List.length_drop] at hr_; (repeat (first | exact (Kd.C_below hr_ HB.out) | (with_reducible refine Kd.C_alloc ?_ _) | (with_reducible refine Kd.C_drewN ?_ _) | (with_reducible refine Kd.C_drew ?_))); done))
   (case aB => exact bA)
   (case aF => exact (fun k_ hk => Kd.fresh' (Kd.R_lt (rK HO248)) k_ hk))
   (case aO => exact (rK HO251))
   (case aS => exact (below_size bA))
   (case aL => have := LMc36.out; have hlx_ := (show (l0.drop (x5_1 : Int).toNat).length = (l0.length - x5_1.toNat) from List.length_drop); omega)
   intro v254 w48 ho hb hg hat
   rw [← Ny253.out] at ho
   have n0_ := Aside0.mk (Kd.R_after (ok := (fun _ => True)) (rK HO248) hg hat)
   have n1_ := Aside0.mk (hb)
   have n2_ := Aside0.mk (ho)
   clear HO248
   clear HB
   clear HO251
   have HO248 := n0_
   have HB := n1_
   have HO255 := n2_
   clear n0_ n1_ n2_
   clear ho hb hg hat
   refine hK.out _ _ trivial (fun hHeld => ?_)
   clear hK K
   refine nB ?_
   refine pa 12 4 (mb 13 8191) HT_ ?_
   refine eA HT_ ?_
   try go_wp2
   go_ret
   exact ⟨_, rA, rm HO255 (fun _ hk => trivial), bA⟩

/-! ### spec_AddToStage: function 134 -/
mutual
def spec_AddToStage.l0 : Nat → List (S50) → List Int → List Int → Int → Option (List Int)
 | 0, _, _, _, _ => none
 | k + 1, x0, x1, x5, x6 => if x6 < (x0.length : Int) then ((spec_IsTogether.f k x0 x1).bind fun t262 => (spec_AddToStage.j1 k x0 x1 x5 x6 t262)) else (spec_AddToStage.j1 k x0 x1 x5 x6 false)
def spec_AddToStage.j1 : Nat → List (S50) → List Int → List Int → Int → Bool → Option (List Int)
 | 0, _, _, _, _, _ => none
 | k + 1, x0, x1, x5, x6, x19 => if x19 = true then (if 0 ≤ x6 then (if x6 < (x0.length : Int) then ((spec_l6Put.f k x5 ((rd_T50 x0 x6).f0)).bind fun t264 => ((spec_IsTogether.f k x0 t264).bind fun t267 => (if t267 = true then (spec_AddToStage.l0 k x0 x1 t264 (wrap64 (x6 + 1))) else (spec_AddToStage.l0 k x0 x1 x5 (wrap64 (x6 + 1)))))) else (none)) else (none)) else (some x5)
end
def spec_AddToStage.f (k : Nat) (l0 : List (S50)) (l1 : List Int) : Option (List Int) := (some (([] : List Int) : List Int)).bind fun y256 => (if y256.length + l1.length < 17592186044416 then (spec_AddToStage.l0 k l0 l1 (y256 ++ l1) 0) else (none))
theorem spec_AddToStage.mono_l : ∀ k, (∀ y0 y1 y2 y3, LeO (spec_AddToStage.l0 k y0 y1 y2 y3) (spec_AddToStage.l0 (k + 1) y0 y1 y2 y3)) ∧ (∀ y0 y1 y2 y3 y4, LeO (spec_AddToStage.j1 k y0 y1 y2 y3 y4) (spec_AddToStage.j1 (k + 1) y0 y1 y2 y3 y4))
 | 0 => ⟨fun _ _ _ _ r h => by simp [spec_AddToStage.l0] at h, fun _ _ _ _ _ r h => by simp [spec_AddToStage.j1] at h⟩
 | k + 1 => by
  obtain ⟨ih0, ih1⟩ := spec_AddToStage.mono_l k
  refine ⟨?_, ?_⟩
  ·
   intro y0 y1 y2 y3
   unfold spec_AddToStage.l0
   exact mz4 ih0 ih1 spec_IsTogether.mono spec_l6Put.mono
  ·
   intro y0 y1 y2 y3 y4
   unfold spec_AddToStage.j1
   exact mz4 ih0 ih1 spec_IsTogether.mono spec_l6Put.mono
theorem spec_AddToStage.mono : ∀ a0 a1 k, LeO (spec_AddToStage.f k a0 a1) (spec_AddToStage.f (k + 1) a0 a1) := by
 intro a0 a1 k
 obtain ⟨ih0, ih1⟩ := spec_AddToStage.mono_l k
 unfold spec_AddToStage.f
 exact mz4 ih0 ih1 spec_IsTogether.mono spec_l6Put.mono
set_option maxHeartbeats 8000000 in
set_option maxRecDepth 100000 in
theorem spec_AddToStage.calls (k : Nat) (A0 : Option Addr) (c0 : Nat) (l0 : List (S50)) (A1 : Option Addr) (c1 : Nat) (l1 : List Int) (r : List Int) (w : World) (hr0 : Kd.C k50 w A0 l0.length l0) (hc0 : l0.length ≤ c0) (hr1 : Kd.C (Kd.int .i64) w A1 l1.length l1) (hc1 : l1.length ≤ c1) (h : spec_AddToStage.f k l0 l1 = some r) :
  Calls Try.prog 134 #[.slice A0 l0.length c0, .slice A1 l1.length c1] w fun e w' => ∃ v0_ : Value, e = .returned (v0_) ∧ Kd.R (Kd.int .i64) 3 w' w.heap.size (fun _ => True) v0_ r ∧ Below w.heap.size w w' := by
 have HR0 := Aside0.mk hr0
 have HC0 := Aside0.mk hc0
 clear hr0 hc0
 have HR1 := Aside0.mk hr1
 have HC1 := Aside0.mk hc1
 clear hr1 hc1
 have HB := Aside0.mk (Below.refl w.heap.size w)
 have H : ((some (([] : List Int) : List Int)).bind fun y256 => (if y256.length + l1.length < 17592186044416 then (spec_AddToStage.l0 k l0 l1 (y256 ++ l1) 0) else (none))) = some r := h
 clear h
 obtain ⟨y256, hy256⟩ : ∃ y_ : List Int, y_ = (([] : List Int)) := ⟨_, rfl⟩
 replace H : (if y256.length + l1.length < 17592186044416 then (spec_AddToStage.l0 k l0 l1 (y256 ++ l1) 0) else (none)) = some r := rH H hy256
 have Ny256 := Aside0.mk hy256
 clear hy256
 have c3 : y256.length + l1.length < 17592186044416 := ifN H
 replace H := ifT H
 have LMc3 := Aside0.mk c3
 clear c3
 obtain ⟨y259, hy259⟩ : ∃ y_ : List Int, y_ = (y256 ++ l1) := ⟨_, rfl⟩
 replace H : (spec_AddToStage.l0 k l0 l1 y259 0) = some r := rH H hy259
 have Ny259 := Aside0.mk hy259
 clear hy259
 have H' := Aside0.mk H
 clear H
 go_enter Try.func134, Try.ntmps134
 go_wp2_with (first | ((with_reducible refine gate_dst (N := 8) rfl ?_); refine Kd.R_lit (Kd.int .i64) _ 3 ?hg (N := 8) ?hd (xs := ([] : List Int)) (inner := []) (ok := fun _ => True) (okp := fun _ => True) ?hr ?hp (fun _ hk => hk) trivial (Below.refl _ _) (Nat.le_refl _) (by simp) ?_; (case hd => rfl); (case hg => rfl); (case hr => first | (go_simp; done) | (go_simp; rfl)); (case hp => exact (Reps.none _ _)); intro v257 w4 ho5 hb hg_ hnew_; clear hg_ hnew_; (first | rw [← Ny256.out] at ho5 | (simp only [Int.reduceToNat] at ho5; rw [← Ny256.out] at ho5)); have HO258 := rl w ho5; replace HB := bs HB hb; clear hb ho5) | ((with_reducible refine gate_builtin (b := .append) (xs := #[.tmp 8, .tmp 9]) rfl ?_); at_builtin; refine Kd.R_append_rows (Kd.int .i64) (w0 := w) w.heap.size rfl (.tmp 8) (.tmp 9) 35 3 (.int .i64 0) 8 rfl Try.underlying35 info3 rfl (by decide) (by omega) v257 y256 l1 _ _ _ (fun _ => True) (fun _ => False) rfl rfl ?aO ?aR (fun _ _ h => h) (fun _ h => h.elim) ?aF ?aB ?aS ?aL ?_; (case aR => repeat (first | exact (Kd.C_below HR1.out HB.out) | (with_reducible refine Kd.C_alloc ?_ _) | (with_reducible refine Kd.C_drewN ?_ _) | (with_reducible refine Kd.C_drew ?_))); (case aB => exact bA); (case aF => exact (fun _ _ => trivial)); (case aO => exact (rK HO258)); (case aS => exact (below_size bA)); (case aL => have := LMc3.out; omega); intro v260 w6 ho hb hg hat; rw [← Ny259.out] at ho; have n0_ := Aside0.mk (hb); have n1_ := Aside0.mk (ho); clear HB; clear HO258; have HB := n0_; have HO261 := n1_; clear n0_ n1_; clear ho hb hg hat))
 go_loopg [5, 6] k (fun kq v5 v6 w' => ∃ (x5_1 : List Int) (x6_1 : Int), v6 = .int .i64 x6_1 ∧ Aside0 (spec_AddToStage.l0 kq l0 l1 x5_1 x6_1 = some r) ∧ Aside0 (kq ≤ k) ∧ Aside0 (Kd.R (Kd.int .i64) 3 w' w.heap.size (fun _ => True) v5 x5_1) ∧ Aside0 (Below w.heap.size w w'))
 case atStart => exact ⟨(y259), (0), rS, H', ⟨Nat.le_refl _⟩, ⟨rK HO261⟩, ⟨bA⟩⟩
 case round =>
  clear H'
  obtain ⟨x5_1, x6_1, rfl, HA, HK1, HO_5, HB⟩ := hrel
  cases gk with
  | zero => exact absurd HA.out (by simp [spec_AddToStage.l0])
  | succ k1 =>
   have H := HA.out
   clear HA
   simp only [spec_AddToStage.l0] at H
   have HC7 := Aside0.mk H
   clear H
   go_upto_region 3 with (fail)
   go_cut [19] (fun v19 wc => ∃ (kq : Nat) (x19_6 : Bool), v19 = .bool x19_6 ∧ Aside0 (spec_AddToStage.j1 kq l0 l1 x5_1 x6_1 x19_6 = some r) ∧ Aside0 (kq ≤ k1) ∧ Aside0 (Kd.R (Kd.int .i64) 3 wc w.heap.size (fun _ => True) u5 x5_1) ∧ Aside0 (Below w.heap.size w wc))
   case first =>
    have H := HC7.out
    clear HC7
    by_cases c8 : x6_1 < (l0.length : Int)
    ·
     rw [if_pos c8] at H
     have c8b0 := decide_eq_true c8
     clear c8
     (first | rw [c8b0] | (simp only [i64_w, i32_w]; rw [c8b0]) | skip)
     obtain ⟨t262, A9, H⟩ := bindE H
     try dsimp only at H
     have H' := Aside0.mk H
     clear H
     go_wp2_with (first | (go_at_call 112; (with_reducible refine (spec_IsTogether.calls k1 _ _ l0 _ _ l1 t262 _ ?_ ?_ ?_ ?_ A9.out).mono ?_); exact cB HR0; exact HC0.out; exact cB HR1; exact HC1.out; rintro e w10 ⟨rfl, hb⟩; replace HO_5 := rb HO_5 hb; replace HB := bs HB hb; (try clear hb)))
     go_meet
     case rel => exact ⟨_, (t262), rS, H', ⟨by have := HK1.out; first | omega | exact Nat.le_refl _⟩, ⟨rK HO_5⟩, ⟨bA⟩⟩
    rw [if_neg c8] at H
    have c8b0 := decide_eq_false c8
    clear c8
    (first | rw [c8b0] | (simp only [i64_w, i32_w]; rw [c8b0]) | skip)
    have H' := Aside0.mk H
    clear H
    go_wp2
    go_meet
    case rel => exact ⟨_, (false), rS, H', ⟨by have := HK1.out; first | omega | exact Nat.le_refl _⟩, ⟨rK HO_5⟩, ⟨bA⟩⟩
   case rest =>
    clear HC7
    obtain ⟨kq, x19_6, rfl, HA, HJ6, HO_5, HB⟩ := hcut
    cases kq with
    | zero => exact absurd HA.out (by simp [spec_AddToStage.j1])
    | succ kj6 =>
     have H := HA.out
     clear HA
     simp only [spec_AddToStage.j1] at H
     by_cases c11 : x19_6 = true
     ·
      subst c11
      have H1 : (if 0 ≤ x6_1 then (if x6_1 < (l0.length : Int) then ((spec_l6Put.f kj6 x5_1 ((rd_T50 l0 x6_1).f0)).bind fun t264 => ((spec_IsTogether.f kj6 l0 t264).bind fun t267 => (if t267 = true then (spec_AddToStage.l0 kj6 l0 l1 t264 (wrap64 (x6_1 + 1))) else (spec_AddToStage.l0 kj6 l0 l1 x5_1 (wrap64 (x6_1 + 1)))))) else (none)) else (none)) = some r := by rw [if_pos rfl] at H; exact H
      clear H
      have H := H1
      clear H1
      have c12 : 0 ≤ x6_1 := ifN H
      replace H := ifT H
      have c12b0 := decide_eq_true c12
      clear c12
      have c13 : x6_1 < (l0.length : Int) := ifN H
      replace H := ifT H
      have c13b0 := decide_eq_true c13
      clear c13
      obtain ⟨t264, A14, H⟩ := bindE H
      try dsimp only at H
      obtain ⟨t267, A15, H⟩ := bindE H
      try dsimp only at H
      by_cases c16 : t267 = true
      ·
       subst c16
       have H1 : (spec_AddToStage.l0 kj6 l0 l1 t264 (wrap64 (x6_1 + 1))) = some r := by rw [if_pos rfl] at H; exact H
       clear H
       have H := H1
       clear H1
       have H' := Aside0.mk H
       clear H
       obtain ⟨p263, q263⟩ : 0 ≤ (x6_1 : Int) ∧ x6_1 < (l0.length : Int) := ⟨dA, dA⟩
       obtain ⟨ad263, e263, hx263_0, hx263_1, hx263_2, hx263_3⟩ := at_T50 (Kd.C_below HR0.out HB.out) x6_1 p263 q263
       cases e263
       obtain ⟨p263, q263⟩ := eT p263 q263
       obtain ⟨Ao17, co17, eo17⟩ := Kd.R_slice HO_5.out
       subst eo17
       go_wp2_with (first | ((with_reducible refine gate_callee (f := 135) rfl ?_); refine gL (some 28) Try.func135 #[.slice Ao17 x5_1.length co17, .int .i64 ((rd_T50 l0 x6_1).f0)] ?_; (with_reducible refine (spec_l6Put.calls kj6 _ _ x5_1 ((rd_T50 l0 x6_1).f0) t264 _ ?_ ?_ A14.out).mono ?_); exact cO ⟨(Kd.R_reads' HO_5.out).2.2⟩; exact (Kd.R_reads' HO_5.out).2.1; rintro e w18 ⟨v265, rfl, ho0, hb⟩; refine ⟨_, rfl, ?_⟩; have HO266 := rl w (rn ho0 HO_5); replace HO_5 := re HO_5 ho0 hb; replace HB := bs HB hb; (try clear hb); (try clear ho0); obtain ⟨Ao19, co19, eo19⟩ := Kd.R_slice HO266.out; subst eo19) | ((with_reducible refine gate_callee (f := 112) rfl ?_); refine gL (some 31) Try.func112 #[.slice (some ad263) l0.length c0, .slice Ao19 t264.length co19] ?_; (with_reducible refine (spec_IsTogether.calls kj6 _ _ l0 _ _ t264 true _ ?_ ?_ ?_ ?_ A15.out).mono ?_); exact cB HR0; exact HC0.out; exact cO ⟨(Kd.R_reads' HO266.out).2.2⟩; exact (Kd.R_reads' HO266.out).2.1; rintro e w20 ⟨rfl, hb⟩; refine ⟨_, rfl, ?_⟩; replace HO_5 := rb HO_5 hb; replace HO266 := rb HO266 hb; replace HB := bs HB hb; (try clear hb)))
       go_roundg kj6
       case measure => have := HK1.out; have := HJ6.out; omega
       case rel => exact ⟨(t264), (wrap64 (x6_1 + 1)), rS, H', ⟨by have := HK1.out; have := HJ6.out; omega⟩, ⟨rm HO266 (fun _ hk => trivial)⟩, ⟨bA⟩⟩
      replace c16 := Bool.eq_false_iff.mpr c16
      subst c16
      have H1 : (spec_AddToStage.l0 kj6 l0 l1 x5_1 (wrap64 (x6_1 + 1))) = some r := by rw [if_neg (show ¬ (false = true) by decide)] at H; exact H
      clear H
      have H := H1
      clear H1
      have H' := Aside0.mk H
      clear H
      obtain ⟨p263, q263⟩ : 0 ≤ (x6_1 : Int) ∧ x6_1 < (l0.length : Int) := ⟨dA, dA⟩
      obtain ⟨ad263, e263, hx263_0, hx263_1, hx263_2, hx263_3⟩ := at_T50 (Kd.C_below HR0.out HB.out) x6_1 p263 q263
      cases e263
      obtain ⟨p263, q263⟩ := eT p263 q263
      obtain ⟨Ao21, co21, eo21⟩ := Kd.R_slice HO_5.out
      subst eo21
      go_wp2_with (first | ((with_reducible refine gate_callee (f := 135) rfl ?_); refine gL (some 28) Try.func135 #[.slice Ao21 x5_1.length co21, .int .i64 ((rd_T50 l0 x6_1).f0)] ?_; (with_reducible refine (spec_l6Put.calls kj6 _ _ x5_1 ((rd_T50 l0 x6_1).f0) t264 _ ?_ ?_ A14.out).mono ?_); exact cO ⟨(Kd.R_reads' HO_5.out).2.2⟩; exact (Kd.R_reads' HO_5.out).2.1; rintro e w22 ⟨v265, rfl, ho0, hb⟩; refine ⟨_, rfl, ?_⟩; have HO266 := rl w (rn ho0 HO_5); replace HO_5 := re HO_5 ho0 hb; replace HB := bs HB hb; (try clear hb); (try clear ho0); obtain ⟨Ao23, co23, eo23⟩ := Kd.R_slice HO266.out; subst eo23) | ((with_reducible refine gate_callee (f := 112) rfl ?_); refine gL (some 31) Try.func112 #[.slice (some ad263) l0.length c0, .slice Ao23 t264.length co23] ?_; (with_reducible refine (spec_IsTogether.calls kj6 _ _ l0 _ _ t264 false _ ?_ ?_ ?_ ?_ A15.out).mono ?_); exact cB HR0; exact HC0.out; exact cO ⟨(Kd.R_reads' HO266.out).2.2⟩; exact (Kd.R_reads' HO266.out).2.1; rintro e w24 ⟨rfl, hb⟩; refine ⟨_, rfl, ?_⟩; replace HO_5 := rb HO_5 hb; replace HO266 := rb HO266 hb; replace HB := bs HB hb; (try clear hb)))
      go_roundg kj6
      case measure => have := HK1.out; have := HJ6.out; omega
      case rel => exact ⟨(x5_1), (wrap64 (x6_1 + 1)), rS, H', ⟨by have := HK1.out; have := HJ6.out; omega⟩, ⟨rm HO_5 (fun _ hk => trivial)⟩, ⟨bA⟩⟩
     replace c11 := Bool.eq_false_iff.mpr c11
     subst c11
     have H1 : (some x5_1) = some r := by rw [if_neg (show ¬ (false = true) by decide)] at H; exact H
     clear H
     have H := H1
     clear H1
     obtain rfl := Option.some.inj H
     go_wp2
     go_ret
     exact ⟨_, rA, rK HO_5, bA⟩

/-! ### spec_CoverOf: function 89 -/
mutual
def spec_CoverOf.l0 : Nat → List (S50) → List (List Int) → List Int → Int → Option ((List (List Int)))
 | 0, _, _, _, _ => none
 | k + 1, x0, x3, x4, x5 => if x5 < (x0.length : Int) then ((spec_ArePaths.f k x0).bind fun t274 => (spec_CoverOf.j1 k x0 x3 x4 x5 t274)) else (spec_CoverOf.j1 k x0 x3 x4 x5 false)
def spec_CoverOf.j1 : Nat → List (S50) → List (List Int) → List Int → Int → Bool → Option ((List (List Int)))
 | 0, _, _, _, _, _ => none
 | k + 1, x0, x3, x4, x5, x17 => if x17 = true then (if 0 ≤ x5 then (if x5 < (x0.length : Int) then ((spec_l6Has.f k x4 ((rd_T50 x0 x5).f0)).bind fun t276 => (if t276 = true then (spec_CoverOf.l0 k x0 x3 x4 (wrap64 (x5 + 1))) else ((spec_AddToStage.f k x0 (([(rd_T50 x0 x5).f0] : List Int))).bind fun t281 => (if x3.length < 5864062014805 then (spec_CoverOf.l1 k x0 (x3 ++ [t281]) x4 x5 t281 0) else (none))))) else (none)) else (none)) else (some x3)
def spec_CoverOf.l1 : Nat → List (S50) → List (List Int) → List Int → Int → List Int → Int → Option ((List (List Int)))
 | 0, _, _, _, _, _, _ => none
 | k + 1, x0, x3, x4, x5, x6, x7 => if x7 < (x6.length : Int) then (if 0 ≤ x7 then ((spec_l6Put.f k x4 (rd x6 x7)).bind fun t288 => (spec_CoverOf.l1 k x0 x3 t288 x5 x6 (wrap64 (x7 + 1)))) else (none)) else (spec_CoverOf.l0 k x0 x3 x4 (wrap64 (x5 + 1)))
end
def spec_CoverOf.f (k : Nat) (l0 : List (S50)) : Option ((List (List Int))) := spec_CoverOf.l0 k l0 (([] : List (List Int))) (([] : List Int)) 0
theorem spec_CoverOf.mono_l : ∀ k, (∀ y0 y1 y2 y3, LeO (spec_CoverOf.l0 k y0 y1 y2 y3) (spec_CoverOf.l0 (k + 1) y0 y1 y2 y3)) ∧ (∀ y0 y1 y2 y3 y4, LeO (spec_CoverOf.j1 k y0 y1 y2 y3 y4) (spec_CoverOf.j1 (k + 1) y0 y1 y2 y3 y4)) ∧ (∀ y0 y1 y2 y3 y4 y5, LeO (spec_CoverOf.l1 k y0 y1 y2 y3 y4 y5) (spec_CoverOf.l1 (k + 1) y0 y1 y2 y3 y4 y5))
 | 0 => ⟨fun _ _ _ _ r h => by simp [spec_CoverOf.l0] at h, fun _ _ _ _ _ r h => by simp [spec_CoverOf.j1] at h, fun _ _ _ _ _ _ r h => by simp [spec_CoverOf.l1] at h⟩
 | k + 1 => by
  obtain ⟨ih0, ih1, ih2⟩ := spec_CoverOf.mono_l k
  refine ⟨?_, ?_, ?_⟩
  ·
   intro y0 y1 y2 y3
   unfold spec_CoverOf.l0
   exact mz7 ih0 ih1 ih2 spec_AddToStage.mono spec_ArePaths.mono spec_l6Has.mono spec_l6Put.mono
  ·
   intro y0 y1 y2 y3 y4
   unfold spec_CoverOf.j1
   exact mz7 ih0 ih1 ih2 spec_AddToStage.mono spec_ArePaths.mono spec_l6Has.mono spec_l6Put.mono
  ·
   intro y0 y1 y2 y3 y4 y5
   unfold spec_CoverOf.l1
   exact mz7 ih0 ih1 ih2 spec_AddToStage.mono spec_ArePaths.mono spec_l6Has.mono spec_l6Put.mono
theorem spec_CoverOf.mono : ∀ a0 k, LeO (spec_CoverOf.f k a0) (spec_CoverOf.f (k + 1) a0) := by
 intro a0 k
 obtain ⟨ih0, ih1, ih2⟩ := spec_CoverOf.mono_l k
 unfold spec_CoverOf.f
 exact mz7 ih0 ih1 ih2 spec_AddToStage.mono spec_ArePaths.mono spec_l6Has.mono spec_l6Put.mono
set_option maxHeartbeats 8000000 in
set_option maxRecDepth 100000 in
theorem spec_CoverOf.calls (k : Nat) (A0 : Option Addr) (c0 : Nat) (l0 : List (S50)) (r : List (List Int)) (w : World) (hr0 : Kd.C k50 w A0 l0.length l0) (hc0 : l0.length ≤ c0) (h : spec_CoverOf.f k l0 = some r) :
  Calls Try.prog 89 #[.slice A0 l0.length c0] w fun e w' => ∃ v0_ : Value, e = .returned (v0_) ∧ Kd.S (Kd.slice 3 (Kd.int .i64)) 35 w' w.heap.size (fun _ => True) v0_ r ∧ Below w.heap.size w w' := by
 have HR0 := Aside0.mk hr0
 have HC0 := Aside0.mk hc0
 clear hr0 hc0
 have HB := Aside0.mk (Below.refl w.heap.size w)
 have H : (spec_CoverOf.l0 k l0 (([] : List (List Int))) (([] : List Int)) 0) = some r := h
 clear h
 obtain ⟨y268, hy268⟩ : ∃ y_ : List (List Int), y_ = (([] : List (List Int))) := ⟨_, rfl⟩
 replace H : (spec_CoverOf.l0 k l0 y268 (([] : List Int)) 0) = some r := rH H hy268
 have Ny268 := Aside0.mk hy268
 clear hy268
 obtain ⟨y271, hy271⟩ : ∃ y_ : List Int, y_ = (([] : List Int)) := ⟨_, rfl⟩
 replace H : (spec_CoverOf.l0 k l0 y268 y271 0) = some r := rH H hy271
 have Ny271 := Aside0.mk hy271
 clear hy271
 have H' := Aside0.mk H
 clear H
 go_enter Try.func89, Try.ntmps89
 go_wp2_with (first | ((with_reducible refine gate_dst (N := 8) rfl ?_); refine Kd.S_lit (Kd.slice 3 (Kd.int .i64)) _ 35 ?hg (N := 8) ?hd (xs := ([] : List (List Int))) (inner := []) (ok := fun _ => True) (okp := fun _ => True) ?hr ?hp (fun _ hk => hk) trivial (Below.refl _ _) (Nat.le_refl _) (by simp) ?_; (case hd => rfl); (case hg => rfl); (case hr => first | (go_simp; done) | (go_simp; rfl)); (case hp => exact (Reps.none _ _)); intro v269 w2 ho3 hb hg_ hnew_; clear hg_ hnew_; (first | rw [← Ny268.out] at ho3 | (simp only [Int.reduceToNat] at ho3; rw [← Ny268.out] at ho3)); have HO270 := sl w ho3; replace HB := bs HB hb; clear hb ho3) | ((with_reducible refine gate_dst (N := 9) rfl ?_); refine Kd.R_lit (Kd.int .i64) _ 3 ?hg (N := 9) ?hd (xs := ([] : List Int)) (inner := []) (ok := fun _ => True) (okp := fun _ => True) ?hr ?hp (fun _ hk => hk) trivial (Below.refl _ _) (Nat.le_refl _) (by simp) ?_; (case hd => rfl); (case hg => rfl); (case hr => first | (go_simp; done) | (go_simp; rfl)); (case hp => exact (Reps.none _ _)); intro v272 w4 ho5 hb hg_ hnew_; clear hg_ hnew_; (first | rw [← Ny271.out] at ho5 | (simp only [Int.reduceToNat] at ho5; rw [← Ny271.out] at ho5)); replace HO270 := se HO270 ho5 hb; have HO273 := rl w ho5; replace HB := bs HB hb; clear hb ho5))
 go_loopg [3, 4, 5] k (fun kq v3 v4 v5 w' => ∃ (x3_1 : List (List Int)) (x4_1 : List Int) (x5_1 : Int), v5 = .int .i64 x5_1 ∧ Aside0 (spec_CoverOf.l0 kq l0 x3_1 x4_1 x5_1 = some r) ∧ Aside0 (kq ≤ k) ∧ Aside0 (Kd.S (Kd.slice 3 (Kd.int .i64)) 35 w' w.heap.size (n1 v4) v3 x3_1) ∧ Aside0 (Kd.R (Kd.int .i64) 3 w' w.heap.size (fun _ => True) v4 x4_1) ∧ Aside0 (Below w.heap.size w w'))
 case atStart => exact ⟨(y268), (y271), (0), rS, H', ⟨Nat.le_refl _⟩, ⟨sm HO270 (fun _ hk => hk.2)⟩, ⟨rK HO273⟩, ⟨bA⟩⟩
 case round =>
  clear H'
  obtain ⟨x3_1, x4_1, x5_1, rfl, HA, HK1, HO_3, HO_4, HB⟩ := hrel
  cases gk with
  | zero => exact absurd HA.out (by simp [spec_CoverOf.l0])
  | succ k1 =>
   have H := HA.out
   clear HA
   simp only [spec_CoverOf.l0] at H
   have HC6 := Aside0.mk H
   clear H
   go_upto_region 4 with (fail)
   go_cut [17] (fun v17 wc => ∃ (kq : Nat) (x17_5 : Bool), v17 = .bool x17_5 ∧ Aside0 (spec_CoverOf.j1 kq l0 x3_1 x4_1 x5_1 x17_5 = some r) ∧ Aside0 (kq ≤ k1) ∧ Aside0 (Kd.S (Kd.slice 3 (Kd.int .i64)) 35 wc w.heap.size (n1 u4) u3 x3_1) ∧ Aside0 (Kd.R (Kd.int .i64) 3 wc w.heap.size (fun _ => True) u4 x4_1) ∧ Aside0 (Below w.heap.size w wc))
   case first =>
    have H := HC6.out
    clear HC6
    by_cases c7 : x5_1 < (l0.length : Int)
    ·
     rw [if_pos c7] at H
     have c7b0 := decide_eq_true c7
     clear c7
     (first | rw [c7b0] | (simp only [i64_w, i32_w]; rw [c7b0]) | skip)
     obtain ⟨t274, A8, H⟩ := bindE H
     try dsimp only at H
     have H' := Aside0.mk H
     clear H
     go_wp2_with (first | (go_at_call 33; (with_reducible refine (spec_ArePaths.calls k1 _ _ l0 t274 _ ?_ ?_ A8.out).mono ?_); exact cB HR0; exact HC0.out; rintro e w9 ⟨rfl, hb⟩; replace HO_3 := sb HO_3 hb; replace HO_4 := rb HO_4 hb; replace HB := bs HB hb; (try clear hb)))
     go_meet
     case rel => exact ⟨_, (t274), rS, H', ⟨by have := HK1.out; first | omega | exact Nat.le_refl _⟩, ⟨sK HO_3⟩, ⟨rK HO_4⟩, ⟨bA⟩⟩
    rw [if_neg c7] at H
    have c7b0 := decide_eq_false c7
    clear c7
    (first | rw [c7b0] | (simp only [i64_w, i32_w]; rw [c7b0]) | skip)
    have H' := Aside0.mk H
    clear H
    go_wp2
    go_meet
    case rel => exact ⟨_, (false), rS, H', ⟨by have := HK1.out; first | omega | exact Nat.le_refl _⟩, ⟨sK HO_3⟩, ⟨rK HO_4⟩, ⟨bA⟩⟩
   case rest =>
    clear HC6
    obtain ⟨kq, x17_5, rfl, HA, HJ5, HO_3, HO_4, HB⟩ := hcut
    cases kq with
    | zero => exact absurd HA.out (by simp [spec_CoverOf.j1])
    | succ kj5 =>
     have H := HA.out
     clear HA
     simp only [spec_CoverOf.j1] at H
     by_cases c10 : x17_5 = true
     ·
      subst c10
      have H1 : (if 0 ≤ x5_1 then (if x5_1 < (l0.length : Int) then ((spec_l6Has.f kj5 x4_1 ((rd_T50 l0 x5_1).f0)).bind fun t276 => (if t276 = true then (spec_CoverOf.l0 kj5 l0 x3_1 x4_1 (wrap64 (x5_1 + 1))) else ((spec_AddToStage.f kj5 l0 (([(rd_T50 l0 x5_1).f0] : List Int))).bind fun t281 => (if x3_1.length < 5864062014805 then (spec_CoverOf.l1 kj5 l0 (x3_1 ++ [t281]) x4_1 x5_1 t281 0) else (none))))) else (none)) else (none)) = some r := by rw [if_pos rfl] at H; exact H
      clear H
      have H := H1
      clear H1
      have c11 : 0 ≤ x5_1 := ifN H
      replace H := ifT H
      have c11b0 := decide_eq_true c11
      clear c11
      have c12 : x5_1 < (l0.length : Int) := ifN H
      replace H := ifT H
      have c12b0 := decide_eq_true c12
      clear c12
      obtain ⟨t276, A13, H⟩ := bindE H
      try dsimp only at H
      by_cases c14 : t276 = true
      ·
       subst c14
       have H1 : (spec_CoverOf.l0 kj5 l0 x3_1 x4_1 (wrap64 (x5_1 + 1))) = some r := by rw [if_pos rfl] at H; exact H
       clear H
       have H := H1
       clear H1
       have H' := Aside0.mk H
       clear H
       obtain ⟨p275, q275⟩ : 0 ≤ (x5_1 : Int) ∧ x5_1 < (l0.length : Int) := ⟨dA, dA⟩
       obtain ⟨ad275, e275, hx275_0, hx275_1, hx275_2, hx275_3⟩ := at_T50 (Kd.C_below HR0.out HB.out) x5_1 p275 q275
       cases e275
       obtain ⟨p275, q275⟩ := eT p275 q275
       obtain ⟨Ao15, co15, eo15⟩ := Kd.R_slice HO_4.out
       subst eo15
       go_wp2_with (first | ((with_reducible refine gate_callee (f := 133) rfl ?_); refine gL (some 26) Try.func133 #[.slice Ao15 x4_1.length co15, .int .i64 ((rd_T50 l0 x5_1).f0)] ?_; (with_reducible refine (spec_l6Has.calls kj5 _ _ x4_1 ((rd_T50 l0 x5_1).f0) true _ ?_ ?_ A13.out).mono ?_); exact cO ⟨(Kd.R_reads' HO_4.out).2.2⟩; exact (Kd.R_reads' HO_4.out).2.1; rintro e w' ⟨rfl, ⟨nd, rfl⟩⟩; refine ⟨_, rfl, ?_⟩))
       go_roundg kj5
       case measure => have := HK1.out; have := HJ5.out; omega
       case rel => exact ⟨(x3_1), (x4_1), (wrap64 (x5_1 + 1)), rS, H', ⟨by have := HK1.out; have := HJ5.out; omega⟩, ⟨sK HO_3⟩, ⟨rK HO_4⟩, ⟨bA⟩⟩
      replace c14 := Bool.eq_false_iff.mpr c14
      subst c14
      have H1 : ((spec_AddToStage.f kj5 l0 (([(rd_T50 l0 x5_1).f0] : List Int))).bind fun t281 => (if x3_1.length < 5864062014805 then (spec_CoverOf.l1 kj5 l0 (x3_1 ++ [t281]) x4_1 x5_1 t281 0) else (none))) = some r := by rw [if_neg (show ¬ (false = true) by decide)] at H; exact H
      clear H
      have H := H1
      clear H1
      obtain ⟨y278, hy278⟩ : ∃ y_ : List Int, y_ = (([(rd_T50 l0 x5_1).f0] : List Int)) := ⟨_, rfl⟩
      replace H : ((spec_AddToStage.f kj5 l0 y278).bind fun t281 => (if x3_1.length < 5864062014805 then (spec_CoverOf.l1 kj5 l0 (x3_1 ++ [t281]) x4_1 x5_1 t281 0) else (none))) = some r := rH H hy278
      have Ny278 := Aside0.mk hy278
      clear hy278
      obtain ⟨t281, A16, H⟩ := bindE H
      try dsimp only at H
      have c17 : x3_1.length < 5864062014805 := ifN H
      replace H := ifT H
      have LMc17 := Aside0.mk c17
      clear c17
      obtain ⟨y284, hy284⟩ : ∃ y_ : List (List Int), y_ = (x3_1 ++ [t281]) := ⟨_, rfl⟩
      replace H : (spec_CoverOf.l1 kj5 l0 y284 x4_1 x5_1 t281 0) = some r := rH H hy284
      have Ny284 := Aside0.mk hy284
      clear hy284
      have H' := Aside0.mk H
      clear H
      obtain ⟨p275, q275⟩ : 0 ≤ (x5_1 : Int) ∧ x5_1 < (l0.length : Int) := ⟨dA, dA⟩
      obtain ⟨ad275, e275, hx275_0, hx275_1, hx275_2, hx275_3⟩ := at_T50 (Kd.C_below HR0.out HB.out) x5_1 p275 q275
      cases e275
      obtain ⟨p275, q275⟩ := eT p275 q275
      obtain ⟨Ao18, co18, eo18⟩ := Kd.R_slice HO_4.out
      subst eo18
      go_wp2_with (first | ((with_reducible refine gate_callee (f := 133) rfl ?_); refine gL (some 26) Try.func133 #[.slice Ao18 x4_1.length co18, .int .i64 ((rd_T50 l0 x5_1).f0)] ?_; (with_reducible refine (spec_l6Has.calls kj5 _ _ x4_1 ((rd_T50 l0 x5_1).f0) false _ ?_ ?_ A13.out).mono ?_); exact cO ⟨(Kd.R_reads' HO_4.out).2.2⟩; exact (Kd.R_reads' HO_4.out).2.1; rintro e w' ⟨rfl, ⟨nd, rfl⟩⟩; refine ⟨_, rfl, ?_⟩; have p277 : 0 ≤ (x5_1 : Int) := dA; have q277 : x5_1 < (l0.length : Int) := dA; obtain ⟨ad277, e277, hx277_0, hx277_1, hx277_2, hx277_3⟩ := at_T50 HR0.out x5_1 p277 q277; obtain rfl : ad275 = ad277 := (by injection e277); replace hx277_0 := hC HB hx277_0; replace hx277_1 := hC HB hx277_1; replace hx277_2 := hC HB hx277_2; replace hx277_3 := hC HB hx277_3; replace p277 := eq_true p277; replace q277 := eq_true q277) | ((with_reducible refine gate_dst (N := 33) rfl ?_); refine Kd.R_lit (Kd.int .i64) _ 3 ?hg (N := 33) ?hd (xs := ([(rd_T50 l0 x5_1).f0] : List Int)) (inner := [.int .i64 ((rd_T50 l0 x5_1).f0)]) (ok := fun _ => True) (okp := fun _ => True) ?hr ?hp (fun _ hk => hk) trivial (Below.refl _ _) (Nat.le_refl _) (by simp) ?_; (case hd => rfl); (case hg => rfl); (case hr => first | (go_simp; done) | (go_simp; rfl)); (case hp => exact (Reps.one (show Kd.M (Kd.int .i64) _ _ _ ((rd_T50 l0 x5_1).f0) [.int .i64 ((rd_T50 l0 x5_1).f0)] from rfl) (Reps.none _ _))); intro v279 w19 ho20 hb hg_ hnew_; clear hg_ hnew_; (first | rw [← Ny278.out] at ho20 | (simp only [Int.reduceToNat] at ho20; rw [← Ny278.out] at ho20)); replace HO_3 := se HO_3 ho20 hb; have HO280 := rl w (rn ho20 HO_4); replace HO_4 := re HO_4 ho20 hb; replace HB := bs HB hb; clear hb ho20; obtain ⟨Ao21, co21, eo21⟩ := Kd.R_slice HO280.out; subst eo21) | ((with_reducible refine gate_callee (f := 134) rfl ?_); refine gL (some 34) Try.func134 #[.slice (some ad275) l0.length c0, .slice Ao21 y278.length co21] ?_; (with_reducible refine (spec_AddToStage.calls kj5 _ _ l0 _ _ y278 t281 _ ?_ ?_ ?_ ?_ A16.out).mono ?_); exact cB HR0; exact HC0.out; exact cO ⟨(Kd.R_reads' HO280.out).2.2⟩; exact (Kd.R_reads' HO280.out).2.1; rintro e w22 ⟨v282, rfl, ho0, hb⟩; refine ⟨_, rfl, ?_⟩; replace HO_3 := se HO_3 ho0 hb; have HO283 := rl w (rn (rn ho0 HO_4) HO280); replace HO_4 := re HO_4 ho0 hb; replace HO280 := re HO280 ho0 hb; replace HB := bs HB hb; (try clear hb); (try clear ho0); obtain ⟨Ao24, co24, eo24⟩ := Kd.R_slice HO283.out; subst eo24) | ((with_reducible refine gate_builtin (b := .append) (xs := #[.tmp 35, .tmp 37]) rfl ?_); at_builtin; refine Kd.S_append (Kd.slice 3 (Kd.int .i64)) (w0 := w) w.heap.size rfl (.tmp 35) (.tmp 37) 103 35 (.slice none 0 0) 24 rfl Try.underlying103 info35 rfl (by decide) (by omega) u3 x3_1 t281 [.slice Ao24 t281.length co24] (n2 (.slice Ao18 x4_1.length co18) (.slice Ao21 y278.length co21)) (fun k_ => some k_ = (.slice Ao24 t281.length co24 : Value).ownBlock) rfl rfl ?aP (fun k_ hk_ => ((Kd.R_mono (ok' := fun k_ => ((n2 (.slice Ao18 x4_1.length co18) (.slice Ao21 y278.length co21))) k_ ∧ some k_ ≠ (u3 : Value).ownBlock) (Kd.R_apart' (HO283.out) (Kd.S_typed HO_3.out) (by decide)) (fun k_ hk => ⟨⟨hk.1.1.2, hk.1.2⟩, hk.2⟩))).1 k_ hk_.symm) ?aF ?aO ?aB ?aS ?aL ?_; (case aP => exact Kd.M_row (Kd.R_mono (Kd.R_tight rfl (Kd.R_mono (ok' := fun k_ => ((n2 (.slice Ao18 x4_1.length co18) (.slice Ao21 y278.length co21))) k_ ∧ some k_ ≠ (u3 : Value).ownBlock) (Kd.R_apart' (HO283.out) (Kd.S_typed HO_3.out) (by decide)) (fun k_ hk => ⟨⟨hk.1.1.2, hk.1.2⟩, hk.2⟩))) (fun _ h_ => h_))); (case aB => exact bA); (case aF => exact (fun k_ hk => ⟨Kd.fresh' (Kd.R_lt (rK HO_4)) k_ hk, Kd.fresh' (Kd.R_lt (rK HO280)) k_ hk⟩)); (case aO => exact (sm HO_3 (fun k_ hk => ⟨⟨hk.1.1, hk.1.2⟩, fun e_ => hk.2 e_⟩))); (case aS => exact (below_size bA)); (case aL => have := LMc17.out; omega); intro v285 w23 ho hb hg hat; rw [← Ny284.out] at ho; have n0_ := Aside0.mk (Kd.R_over' (rK HO_4) (Kd.S_typed (sK HO_3)) (by decide) hg); have n1_ := Aside0.mk (Kd.R_over' (rK HO280) (Kd.S_typed (sK HO_3)) (by decide) hg); have n2_ := Aside0.mk (Kd.R_over' (rK HO283) (Kd.S_typed (sK HO_3)) (by decide) hg); have n3_ := Aside0.mk (hb); have n4_ := Aside0.mk (ho); clear HO_4; clear HO280; clear HO283; clear HB; clear HO_3; have HO_4 := n0_; have HO280 := n1_; have HO283 := n2_; have HB := n3_; have HO286 := n4_; clear n0_ n1_ n2_ n3_ n4_; clear ho hb hg hat))
      go_loopg [4, 7] kj5 (fun kq v4 v7 w' => ∃ (x4_3 : List Int) (x7_3 : Int), v7 = .int .i64 x7_3 ∧ Aside0 (spec_CoverOf.l1 kq l0 y284 x4_3 x5_1 t281 x7_3 = some r) ∧ Aside0 (kq ≤ kj5) ∧ Aside0 (Kd.S (Kd.slice 3 (Kd.int .i64)) 35 w' w.heap.size (n1 v4) v285 y284) ∧ Aside0 (Kd.R (Kd.int .i64) 3 w' w.heap.size (n1 (.slice Ao24 t281.length co24)) v4 x4_3) ∧ Aside0 (Kd.R (Kd.int .i64) 3 w' w.heap.size (n1 v4) (.slice Ao24 t281.length co24) t281) ∧ Aside0 (Below w.heap.size w w'))
      case atStart => exact ⟨(x4_1), (0), rS, H', ⟨Nat.le_refl _⟩, ⟨sm HO286 (fun _ hk => hk.1)⟩, ⟨rm HO_4 (fun _ hk => hk.2)⟩, ⟨rm HO283 (fun _ hk => hk.1.2)⟩, ⟨bA⟩⟩
      case round =>
       clear H'
       obtain ⟨x4_3, x7_3, rfl, HA, HK3, HO_3, HO_4, HO_6, HB⟩ := hrel
       cases gk with
       | zero => exact absurd HA.out (by simp [spec_CoverOf.l1])
       | succ k3 =>
        have H := HA.out
        clear HA
        simp only [spec_CoverOf.l1] at H
        by_cases c25 : x7_3 < (t281.length : Int)
        ·
         rw [if_pos c25] at H
         have c25b0 := decide_eq_true c25
         clear c25
         have c26 : 0 ≤ x7_3 := ifN H
         replace H := ifT H
         have c26b0 := decide_eq_true c26
         clear c26
         obtain ⟨t288, A27, H⟩ := bindE H
         try dsimp only at H
         have H' := Aside0.mk H
         clear H
         obtain ⟨p287, q287⟩ : 0 ≤ (x7_3 : Int) ∧ x7_3 < (t281.length : Int) := ⟨dA, dA⟩
         obtain ⟨ad287, e287, hx287_0⟩ := Kd.at_int (Kd.R_reads' HO_6.out).2.2 x7_3 p287 q287
         cases e287
         obtain ⟨p287, q287⟩ := eT p287 q287
         obtain ⟨Ao28, co28, eo28⟩ := Kd.R_slice HO_4.out
         subst eo28
         go_wp2_with (first | ((with_reducible refine gate_callee (f := 135) rfl ?_); refine gL (some 50) Try.func135 #[.slice Ao28 x4_3.length co28, .int .i64 (rd t281 x7_3)] ?_; (with_reducible refine (spec_l6Put.calls k3 _ _ x4_3 (rd t281 x7_3) t288 _ ?_ ?_ A27.out).mono ?_); exact cO ⟨(Kd.R_reads' HO_4.out).2.2⟩; exact (Kd.R_reads' HO_4.out).2.1; rintro e w29 ⟨v289, rfl, ho0, hb⟩; refine ⟨_, rfl, ?_⟩; replace HO_3 := se HO_3 ho0 hb; have HO290 := rl w (rn (rn ho0 HO_4) HO_6); replace HO_4 := re HO_4 ho0 hb; replace HO_6 := re HO_6 ho0 hb; replace HB := bs HB hb; (try clear hb); (try clear ho0)))
         go_roundg k3
         case measure => have := HK1.out; have := HJ5.out; have := HK3.out; omega
         case rel => exact ⟨(t288), (wrap64 (x7_3 + 1)), rS, H', ⟨by have := HK1.out; have := HJ5.out; have := HK3.out; omega⟩, ⟨sm HO_3 (fun _ hk => hk.2)⟩, ⟨rm HO290 (fun _ hk => hk.2)⟩, ⟨rm HO_6 (fun _ hk => hk.2)⟩, ⟨bA⟩⟩
        rw [if_neg c25] at H
        have c25b0 := decide_eq_false c25
        clear c25
        have H' := Aside0.mk H
        clear H
        go_wp2
        go_roundg k3
        case measure => have := HK1.out; have := HJ5.out; have := HK3.out; omega
        case rel => exact ⟨(y284), (x4_3), (wrap64 (x5_1 + 1)), rS, H', ⟨by have := HK1.out; have := HJ5.out; have := HK3.out; omega⟩, ⟨sK HO_3⟩, ⟨rm HO_4 (fun _ hk => trivial)⟩, ⟨bA⟩⟩
     replace c10 := Bool.eq_false_iff.mpr c10
     subst c10
     have H1 : (some x3_1) = some r := by rw [if_neg (show ¬ (false = true) by decide)] at H; exact H
     clear H
     have H := H1
     clear H1
     obtain rfl := Option.some.inj H
     go_wp2
     go_ret
     exact ⟨_, rA, sm HO_3 (fun _ hk => trivial), bA⟩

/-! ### spec_PlanFor: function 151 -/
def spec_PlanFor.l0 : Nat → List (S50) → List (S85) → List (List Int) → Int → Option ((List (S85)))
 | 0, _, _, _, _ => none
 | k + 1, x0, x3, x4, x5 => if x5 < (x4.length : Int) then (if 0 ≤ x5 then ((spec_LeastGreen.f k x0 (rd_L3 x4 x5)).bind fun t299 => (if x3.length < 4398046511104 then (spec_PlanFor.l0 k x0 (x3 ++ [(⟨rd_L3 x4 x5, t299⟩ : S85)]) x4 (wrap64 (x5 + 1))) else (none))) else (none)) else ((spec_IsPlan.f k x0 x3).bind fun t303 => (if t303 = true then (some x3) else (some (([] : List (S85))))))
def spec_PlanFor.f (k : Nat) (l0 : List (S50)) : Option ((List (S85))) := (spec_CoverOf.f k l0).bind fun t294 => (spec_PlanFor.l0 k l0 (([] : List (S85))) t294 0)
theorem spec_PlanFor.mono_l : ∀ k, (∀ y0 y1 y2 y3, LeO (spec_PlanFor.l0 k y0 y1 y2 y3) (spec_PlanFor.l0 (k + 1) y0 y1 y2 y3))
 | 0 => fun _ _ _ _ r h => by simp [spec_PlanFor.l0] at h
 | k + 1 => by
  have ih0 := spec_PlanFor.mono_l k
  ·
   intro y0 y1 y2 y3
   unfold spec_PlanFor.l0
   exact mz4 ih0 spec_CoverOf.mono spec_IsPlan.mono spec_LeastGreen.mono
theorem spec_PlanFor.mono : ∀ a0 k, LeO (spec_PlanFor.f k a0) (spec_PlanFor.f (k + 1) a0) := by
 intro a0 k
 have ih0 := spec_PlanFor.mono_l k
 unfold spec_PlanFor.f
 exact mz4 ih0 spec_CoverOf.mono spec_IsPlan.mono spec_LeastGreen.mono
def spec_PlanFor.T6 : Bool × List (List Nat × List Nat) := (true, [([], []), ([], []), ([], []), ([1, 2], [1, 2]), ([3], [3]), ([], []), ([], []), ([], []), ([6, 7], [6, 7]), ([8], [8]), ([5, 9], [5, 9]), ([4, 10], [4, 10]), ([11], [11]), ([0, 12, 10], [0, 12]), ([13, 13, 0, 1, 2, 3, 4, 5, 6, 7, 8, 9, 10, 11, 12, 13], [0, 13])])
def spec_PlanFor.B6 : List Nat := [0, 0, 0, 6, 14, 0, 0, 0, 192, 448, 992, 2046, 4094, 8191, 16383]
theorem spec_PlanFor.tab6 : rtab .any (opsOf Try.f151 6) = spec_PlanFor.T6 := by kernel_rfl
theorem spec_PlanFor.bits6 : waitsOk spec_PlanFor.T6.2 spec_PlanFor.B6 = true := by kernel_rfl
theorem spec_PlanFor.retag {α β : Type} {d : Kd α} {d' : Kd β} {e base : Nat} {w : World} {ok : Nat → Prop} {v : Value} (hs : d'.sz = d.sz) (h : d.R e w base ok v ([] : List α)) : d'.R e w base ok v ([] : List β) := by
  obtain ⟨h0, inner, ho, hr⟩ := h
  have hi : inner = [] := List.eq_nil_of_length_eq_zero (by rw [hr.1]; simp)
  subst hi
  exact ⟨h0, [], by rw [hs]; exact ho, ⟨by simp, fun j p hj => by simp at hj⟩⟩
theorem spec_PlanFor.toS {α : Type} {d : Kd α} {f : Nat → Nat} {e base : Nat} {w : World} {ok : Nat → Prop} {v : Value} {xs : List α} (h : (Kd.tag f d).R e w base ok v xs.zipIdx) : Kd.S d e w base ok v xs := ⟨f, h⟩
theorem spec_PlanFor.nilS {α : Type} {d : Kd α} {e base : Nat} {w : World} {ok : Nat → Prop} {v : Value} (h : d.R e w base ok v ([] : List α)) : Kd.S d e w base ok v ([] : List α) := ⟨fun _ => 0, (spec_PlanFor.retag (d := d) (d' := Kd.tag (fun _ => 0) d) rfl h : (Kd.tag (fun _ => 0) d).R e w base ok v ([] : List (α × Nat)))⟩
theorem spec_PlanFor.el {f : Nat → Nat} {e base n c : Nat} {w : World} {ok : Nat → Prop} {ad : Addr} {xs : List (List Int)} (h : (Kd.tag f (Kd.slice 3 (Kd.int .i64))).R e w base ok (.slice (some ad) n c) xs.zipIdx) (j : Nat) (hj : j < xs.length) :
    ∃ v, w.cell? (ad.add j) = some v ∧ (Kd.int .i64).R 3 w base (fun k => (ok k ∧ some k ≠ (Value.slice (some ad) n c).ownBlock) ∧ f k = j) v (xs.getD j ([] : List Int)) := by
  have h1 := Kd.R_reads' (Kd.S_R (spec_PlanFor.toS h))
  obtain ⟨h0, inner, ho, hr⟩ := h
  have h2 := hr.2 j (xs[j], j) (Kd.zip_at (List.getElem?_eq_getElem hj))
  obtain ⟨v, hv, hR⟩ := h2
  have e1 : xs.getD j ([] : List Int) = xs[j] := by simp [List.getD_eq_getElem?_getD, List.getElem?_eq_getElem hj]
  have hi : inner[j]? = some v := by
    have h3 : ((inner.drop (j * 1)).take 1)[0]? = some v := by
      rw [show (inner.drop (j * 1)).take 1 = [v] from hv]
      rfl
    rw [List.getElem?_take, if_pos (by decide), List.getElem?_drop] at h3
    simpa using h3
  refine ⟨v, ?_, by rw [e1]; exact hR⟩
  rcases ho.2 with ⟨hq, _⟩ | ⟨g, c', cur, hq, _, hh, _, _, _, ht⟩
  · cases hq
  · injection hq with ha _ _
    injection ha with ha
    subst ha
    rw [add_at, cell_of_row w g _ cur e (0, 0) hh, ← Array.getElem?_toList]
    have ht' : cur.toList.take (xs.zipIdx.length * 1) = inner := ht
    rw [← ht', List.getElem?_take] at hi
    split at hi
    · simpa using hi
    · cases hi
set_option maxHeartbeats 8000000 in
set_option maxRecDepth 100000 in
theorem spec_PlanFor.calls (k : Nat) (A0 : Option Addr) (c0 : Nat) (l0 : List (S50)) (r : List (S85)) (w : World) (hr0 : Kd.C k50 w A0 l0.length l0) (hc0 : l0.length ≤ c0) (h : spec_PlanFor.f k l0 = some r) :
  Calls Try.prog 151 #[.slice A0 l0.length c0] w fun e w' => ∃ v0_ : Value, e = .returned (v0_) ∧ Kd.S k85 85 w' w.heap.size (fun _ => True) v0_ r ∧ Below w.heap.size w w' := by
 have hu85 := Try.underlying85
 have HR0 := Aside0.mk hr0
 have HC0 := Aside0.mk hc0
 clear hr0 hc0
 have HB := Aside0.mk (Below.refl w.heap.size w)
 have H : ((spec_CoverOf.f k l0).bind fun t294 => (spec_PlanFor.l0 k l0 (([] : List (S85))) t294 0)) = some r := h
 clear h
 obtain ⟨y291, hy291⟩ : ∃ y_ : List (S85), y_ = (([] : List (S85))) := ⟨_, rfl⟩
 replace H : ((spec_CoverOf.f k l0).bind fun t294 => (spec_PlanFor.l0 k l0 y291 t294 0)) = some r := rH H hy291
 have Ny291 := Aside0.mk hy291
 clear hy291
 obtain ⟨t294, A2, H⟩ := bindE H
 try dsimp only at H
 have H' := Aside0.mk H
 clear H
 go_enter Try.func151, Try.ntmps151
 go_wp2_with (first | ((with_reducible refine gate_dst (N := 6) rfl ?_); refine Kd.R_lit k85 _ 85 ?hg (N := 6) ?hd (xs := ([] : List (S85))) (inner := []) (ok := fun _ => True) (okp := fun _ => True) ?hr ?hp (fun _ hk => hk) trivial (Below.refl _ _) (Nat.le_refl _) (by simp) ?_; (case hd => rfl); (case hg => rfl); (case hr => first | (go_simp; done) | (go_simp; rfl)); (case hp => exact (Reps.none _ _)); intro v292 w3 ho4 hb hg_ hnew_; clear hg_ hnew_; have HO293 := rl w ho4; replace HB := bs HB hb; clear hb ho4) | ((with_reducible refine gate_callee (f := 89) rfl ?_); refine gL (some 8) Try.func89 #[.slice A0 l0.length c0] ?_; (with_reducible refine (spec_CoverOf.calls k _ _ l0 t294 _ ?_ ?_ A2.out).mono ?_); exact cB HR0; exact HC0.out; rintro e w5 ⟨v295, rfl, ⟨f_, ho0⟩, hb⟩; refine ⟨_, rfl, ?_⟩; have HO296 := rl w (Kd.R_mono (ok' := fun k_ => True ∧ some k_ ≠ (v292 : Value).ownBlock) (Kd.R_bound ho0) (fun k_ hk_ => ⟨trivial, fun e_ => Nat.not_lt.2 hk_.2.1 (Kd.R_lt (rK HO293) k_ e_.symm)⟩)); replace HO293 := Aside0.mk (spec_PlanFor.retag (d := k85) (d' := Kd.tag f_ k85) rfl (Kd.R_below (rK HO293) hb)); replace HB := bs HB hb; (try clear hb); (try clear ho0)))
 go_loopg [3, 5] k (fun kq v3 v5 w' => ∃ (x3_1 : List (S85)) (x5_1 : Int), v5 = .int .i64 x5_1 ∧ Aside0 (spec_PlanFor.l0 kq l0 x3_1 t294 x5_1 = some r) ∧ Aside0 (kq ≤ k) ∧ Aside0 ((Kd.tag f_ k85).R 85 w' w.heap.size (fun _ => True) v3 x3_1.zipIdx) ∧ Aside0 ((Kd.tag f_ (Kd.slice 3 (Kd.int .i64))).R 35 w' w.heap.size (fun k_ => True ∧ some k_ ≠ (v3 : Value).ownBlock) v295 t294.zipIdx) ∧ Aside0 ((x3_1.length : Int) = x5_1) ∧ Aside0 (Below w.heap.size w w'))
 case atStart => exact ⟨(y291), (0), rS, H', ⟨Nat.le_refl _⟩, ⟨by rw [Ny291.out]; (with_reducible repeat (first | apply Kd.R_alloc | apply Kd.R_drewN | apply Kd.R_drew)); exact HO293.out⟩, ⟨rK HO296⟩, ⟨by rw [Ny291.out]; rfl⟩, ⟨bA⟩⟩
 case round =>
  clear H'
  obtain ⟨x3_1, x5_1, rfl, HA, HK1, HO_3, HO_4, HN, HB⟩ := hrel
  cases gk with
  | zero => exact absurd HA.out (by simp [spec_PlanFor.l0])
  | succ k1 =>
   have H := HA.out
   clear HA
   simp only [spec_PlanFor.l0] at H
   by_cases c6 : x5_1 < (t294.length : Int)
   ·
    rw [if_pos c6] at H
    have c6b0 := decide_eq_true c6
    clear c6
    have c7 : 0 ≤ x5_1 := ifN H
    replace H := ifT H
    have c7b0 := decide_eq_true c7
    clear c7
    obtain ⟨t299, A8, H⟩ := bindE H
    try dsimp only at H
    have c9 : x3_1.length < 4398046511104 := ifN H
    replace H := ifT H
    have LMc9 := Aside0.mk c9
    clear c9
    obtain ⟨y300, hy300⟩ : ∃ y_ : List (S85), y_ = (x3_1 ++ [(⟨rd_L3 t294 x5_1, t299⟩ : S85)]) := ⟨_, rfl⟩
    replace H : (spec_PlanFor.l0 k1 l0 y300 t294 (wrap64 (x5_1 + 1))) = some r := rH H hy300
    have Ny300 := Aside0.mk hy300
    clear hy300
    have H' := Aside0.mk H
    clear H
    obtain ⟨Ao10, co10, eo10⟩ := Kd.R_slice HO_4.out
    rw [List.length_zipIdx] at eo10
    subst eo10
    try go_wp2
    replace HO_3 := dr HO_3
    replace HO_4 := dr HO_4
    have HBo := HB
    replace HB := db HB
    obtain ⟨p297, q297⟩ : 0 ≤ (x5_1 : Int) ∧ x5_1 < (t294.length : Int) := ⟨dA, dA⟩
    obtain ⟨ad297, A297_0, c297_0, e297, hx297_0, hl297_0, hi297_0⟩ := at_L3 (Kd.R_reads' (Kd.S_R (spec_PlanFor.toS HO_4.out))).2.2 x5_1 p297 q297
    cases e297
    obtain ⟨ve297, hve297, hRe297⟩ := spec_PlanFor.el HO_4.out x5_1.toNat (by omega)
    obtain rfl := Option.some.inj (hve297.symm.trans hx297_0)
    have HL297_0 := Aside0.mk (hRe297)
    have HR297_0 := Aside0.mk hi297_0
    have HC297_0 := Aside0.mk hl297_0
    clear hi297_0 hl297_0
    obtain ⟨p297, q297⟩ := eT p297 q297
    obtain ⟨p298, q298⟩ : 0 ≤ (x5_1 : Int) ∧ x5_1 < (t294.length : Int) := ⟨dA, dA⟩
    obtain ⟨ad298, A298_0, c298_0, e298, hx298_0, hl298_0, hi298_0⟩ := at_L3 (Kd.R_reads' (Kd.S_R (spec_PlanFor.toS HO_4.out))).2.2 x5_1 p298 q298
    obtain rfl : ad297 = ad298 := (by injection e298)
    obtain ⟨ve298, hve298, hRe298⟩ := spec_PlanFor.el HO_4.out x5_1.toNat (by omega)
    obtain rfl := Option.some.inj (hve298.symm.trans hx298_0)
    have HL298_0 := Aside0.mk (hRe298)
    have HR298_0 := Aside0.mk hi298_0
    have HC298_0 := Aside0.mk hl298_0
    clear hi298_0 hl298_0
    obtain ⟨p298, q298⟩ := eT p298 q298
    have ea_ := Option.some.inj (hx297_0.symm.trans hx298_0)
    injection ea_ with ea_ en_ ec_
    subst ea_
    subst ec_
    clear en_
    refine sw (ds := [12, 13]) 15 (mb 15 0) spec_PlanFor.tab6 spec_PlanFor.bits6 (h1c hx297_0 (h1 hx298_0)) (fun hHeld HT_ HW_ => ?_)
    generalize wr.drew = w11 at HO_3 HO_4 HB HL297_0 HL298_0 HR297_0 HR298_0 hx297_0 hx298_0 hHeld ⊢
    refine pa 0 15 (mb 15 1) HT_ ?_
    refine pa 1 16 (mb 15 3) HT_ ?_
    refine pa 2 17 (mb 15 7) HT_ ?_
    refine pa 3 18 (mb 15 15) HT_ ?_
    refine pa 5 20 (mb 15 47) HT_ ?_
    refine pa 6 21 (mb 15 111) HT_ ?_
    refine pa 7 22 (mb 15 239) HT_ ?_
    refine pa 8 23 (mb 15 495) HT_ ?_
    refine ta2 4 19 (mb 15 511) HT_ HW_ hHeld ?_
    refine ta2 9 24 (mb 15 1023) HT_ HW_ hHeld ?_
    refine oa 10 25 (mb 15 2047) HT_ (fun K hK => ?_)
    refine gA Try.func113 #[.slice A0 l0.length c0, .slice A297_0 (rd_L3 t294 x5_1).length c297_0] ?_
    with_reducible refine (spec_LeastGreen.calls k1 _ _ l0 _ _ (rd_L3 t294 x5_1) t299 _ ?side1 ?side2 ?side3 ?side4 A8.out).mono ?_
    (case side1 => exact cB HR0)
    (case side2 => exact HC0.out)
    (case side3 => repeat (first | exact (by repeat (first | (with_reducible exact HR298_0.out) | (with_reducible refine Kd.C_alloc ?_ _) | (with_reducible refine Kd.C_drewN ?_ _) | (with_reducible refine Kd.C_drew ?_) | exact HR298_0.out)) | (with_reducible refine Kd.C_alloc ?_ _) | (with_reducible refine Kd.C_drewN ?_ _) | (with_reducible refine Kd.C_drew ?_)))
    (case side4 => exact HC298_0.out)
    rintro e w' ⟨rfl, ⟨nd, rfl⟩⟩
    refine ⟨_, rfl, ?_⟩
    refine hK.out _ _ ⟨hHeld.1, hHeld.2⟩ (fun hHeld => ?_)
    clear hK K
    refine nB ?_
    refine pa 11 26 (mb 15 4095) HT_ ?_
    refine last_ (i := 12) (N := some 27) (mb 15 8191) rfl rfl (one_of HT_.out (by kernel_rfl)) (by decide) (fun K hK => ?_)
    refine value_ (w1 := ?_) (v := ?_) (by rfl) rfl ?_ ?_
    rotate_left 2
    ·
     go_simp
     constructor
     ·
      rfl
     ·
      rfl
    refine hK.out _ _ ?_
    clear hK K
    refine nB ?_
    refine last_ (i := 13) (N := some 28) (mb 15 16383) rfl rfl (one_of HT_.out (by kernel_rfl)) (by decide) (fun K hK => ?_)
    refine Kd.R_append_step (Kd.tag f_ k85) (w0 := w) w.heap.size (by rfl) (.tmp 15) (.tmp 27) 25 85 (.agg #[(.slice none 0 0), (.int .i64 0)]) 32 rfl Try.underlying25 info85 rfl (show 0 < k85.sz by decide) (by omega) u3 x3_1.zipIdx ((⟨rd_L3 t294 x5_1, t299⟩ : S85), x3_1.length) [.slice A297_0 (rd_L3 t294 x5_1).length c297_0, .int .i64 t299] (fun _ => True) (n1 u3) rfl rfl ?aP (fun _ hk => ⟨trivial, hk⟩) (fun _ _ => trivial) ?aO ?aB ?aS ?aL ?_
    (case aP => have hz_ := Kd.R_mono HL297_0.out (fun k_ hk => (⟨hk.1.1.2, hk.2.trans (by have := HN.out; omega)⟩ : some k_ ≠ (u3 : Value).ownBlock ∧ f_ k_ = x3_1.length)); exact (show k85.M _ _ (fun k_ => some k_ ≠ (u3 : Value).ownBlock ∧ f_ k_ = x3_1.length) _ _ from k85_mkM _ _ _ (⟨rd_L3 t294 x5_1, t299⟩ : S85) (by (with_reducible repeat (first | apply Kd.R_alloc | apply Kd.R_drewN | apply Kd.R_drew)); exact hz_)))
    (case aB => exact bA)
    (case aO => exact (rK HO_3))
    (case aS => exact (below_size bA))
    (case aL => have := LMc9.out; rw [List.length_zipIdx]; omega)
    intro v301 w12 ho hb hg hat
    rw [← Kd.zip_snoc, ← Ny300.out] at ho
    have n0_ := Aside0.mk (Kd.R_after (ok := fun _ => True) (rK HO_4) hg hat)
    have n1_ := HL297_0
    have n2_ := HL298_0
    have n3_ := Aside0.mk (hb)
    have n4_ := Aside0.mk (ho)
    clear HO_4
    clear HL297_0
    clear HL298_0
    clear HB
    clear HO_3
    have HO_4 := n0_
    have HL297_0 := n1_
    have HL298_0 := n2_
    have HB := n3_
    have HO302 := n4_
    clear n0_ n1_ n2_ n3_ n4_
    clear ho hb hg hat
    refine hK.out _ _ ?_
    clear hK K
    refine nB ?_
    refine pa 14 3 (mb 15 32767) HT_ ?_
    refine eA HT_ ?_
    try go_wp2
    go_roundg k1
    case measure => have := HK1.out; omega
    case rel => exact ⟨(y300), (wrap64 (x5_1 + 1)), rS, H', ⟨by have := HK1.out; omega⟩, ⟨rK HO302⟩, ⟨rK HO_4⟩, ⟨by (have h1_ := HN.out; have h2_ := LMc9.out; rw [Ny300.out, List.length_append, List.length_singleton]; unfold wrap64; omega)⟩, ⟨bA⟩⟩
   rw [if_neg c6] at H
   have c6b0 := decide_eq_false c6
   clear c6
   obtain ⟨t303, A13, H⟩ := bindE H
   try dsimp only at H
   by_cases c14 : t303 = true
   ·
    subst c14
    have H1 : (some x3_1) = some r := by rw [if_pos rfl] at H; exact H
    clear H
    have H := H1
    clear H1
    obtain rfl := Option.some.inj H
    obtain ⟨Ao15, co15, eo15⟩ := Kd.R_slice HO_4.out
    rw [List.length_zipIdx] at eo15
    subst eo15
    obtain ⟨Ao16, co16, eo16⟩ := Kd.R_slice HO_3.out
    rw [List.length_zipIdx] at eo16
    subst eo16
    go_wp2_with (first | ((with_reducible refine gate_callee (f := 61) rfl ?_); refine gL (some 31) Try.func61 #[.slice A0 l0.length c0, .slice Ao16 x3_1.length co16] ?_; (with_reducible refine (spec_IsPlan.calls k1 _ _ l0 _ _ x3_1 true _ ?_ ?_ ?_ ?_ A13.out).mono ?_); exact cB HR0; exact HC0.out; (focus repeat (first | exact (Kd.R_reads' (Kd.S_R (spec_PlanFor.toS HO_3.out))).2.2 | (with_reducible refine Kd.C_alloc ?_ _) | (with_reducible refine Kd.C_drewN ?_ _) | (with_reducible refine Kd.C_drew ?_))); exact (Kd.R_reads' (Kd.S_R (spec_PlanFor.toS HO_3.out))).2.1; rintro e w17 ⟨rfl, hb⟩; refine ⟨_, rfl, ?_⟩; replace HO_3 := rb HO_3 hb; replace HO_4 := rb HO_4 hb; replace HB := bs HB hb; (try clear hb)))
    go_ret
    exact ⟨_, rA, spec_PlanFor.toS (rK HO_3), bA⟩
   replace c14 := Bool.eq_false_iff.mpr c14
   subst c14
   have H1 : (some (([] : List (S85)))) = some r := by rw [if_neg (show ¬ (false = true) by decide)] at H; exact H
   clear H
   have H := H1
   clear H1
   obtain ⟨y304, hy304⟩ : ∃ y_ : List (S85), y_ = (([] : List (S85))) := ⟨_, rfl⟩
   replace H : (some y304) = some r := rH H hy304
   have Ny304 := Aside0.mk hy304
   clear hy304
   obtain rfl := Option.some.inj H
   obtain ⟨Ao18, co18, eo18⟩ := Kd.R_slice HO_4.out
   rw [List.length_zipIdx] at eo18
   subst eo18
   obtain ⟨Ao19, co19, eo19⟩ := Kd.R_slice HO_3.out
   rw [List.length_zipIdx] at eo19
   subst eo19
   go_wp2_with (first | ((with_reducible refine gate_callee (f := 61) rfl ?_); refine gL (some 31) Try.func61 #[.slice A0 l0.length c0, .slice Ao19 x3_1.length co19] ?_; (with_reducible refine (spec_IsPlan.calls k1 _ _ l0 _ _ x3_1 false _ ?_ ?_ ?_ ?_ A13.out).mono ?_); exact cB HR0; exact HC0.out; (focus repeat (first | exact (Kd.R_reads' (Kd.S_R (spec_PlanFor.toS HO_3.out))).2.2 | (with_reducible refine Kd.C_alloc ?_ _) | (with_reducible refine Kd.C_drewN ?_ _) | (with_reducible refine Kd.C_drew ?_))); exact (Kd.R_reads' (Kd.S_R (spec_PlanFor.toS HO_3.out))).2.1; rintro e w20 ⟨rfl, hb⟩; refine ⟨_, rfl, ?_⟩; replace HO_3 := rb HO_3 hb; replace HO_4 := rb HO_4 hb; replace HB := bs HB hb; (try clear hb)) | ((with_reducible refine gate_dst (N := 33) rfl ?_); refine Kd.R_lit k85 _ 85 ?hg (N := 33) ?hd (xs := ([] : List (S85))) (inner := []) (ok := fun _ => True) (okp := fun _ => True) ?hr ?hp (fun _ hk => hk) trivial (Below.refl _ _) (Nat.le_refl _) (by simp) ?_; (case hd => rfl); (case hg => rfl); (case hr => first | (go_simp; done) | (go_simp; rfl)); (case hp => exact (Reps.none _ _)); intro v305 w21 ho22 hb hg_ hnew_; clear hg_ hnew_; replace HO_3 := rb HO_3 hb; replace HO_4 := rb HO_4 hb; have HO306 := rl w ho22; replace HB := bs HB hb; clear hb ho22))
   go_ret
   exact ⟨_, rA, by rw [Ny304.out]; exact spec_PlanFor.nilS (rK HO306), bA⟩

/-! ### spec_l8Draw: function 124 -/
mutual
def spec_l8Draw.l0 : Nat → List (S50) → List (S85) → Int → List Int → Int → Int → Option ((List (S50)) × (List (S85)) × Int × Int)
 | 0, _, _, _, _, _, _ => none
 | k + 1, x4, x5, x6, x1000, x1001, x1002 => if x6 < 4 then (spec_l8Draw.j1 k x4 x5 x6 ((x5.length : Int) == 0) x1000 x1001 x1002) else (spec_l8Draw.j1 k x4 x5 x6 false x1000 x1001 x1002)
def spec_l8Draw.j1 : Nat → List (S50) → List (S85) → Int → Bool → List Int → Int → Int → Option ((List (S50)) × (List (S85)) × Int × Int)
 | 0, _, _, _, _, _, _, _ => none
 | k + 1, x4, x5, x6, x18, x1000, x1001, x1002 => if x18 = true then ((spec_l5Draw.f k x1000 x1001 x1002).bind fun bt315 => ((spec_PlanFor.f k bt315.1).bind fun t320 => (spec_l8Draw.l0 k bt315.1 t320 (wrap64 (x6 + 1)) x1000 bt315.2.1 bt315.2.2))) else (spec_l8Draw.l1 k x4 x5 0 x1000 x1001 x1002)
def spec_l8Draw.l1 : Nat → List (S50) → List (S85) → Int → List Int → Int → Int → Option ((List (S50)) × (List (S85)) × Int × Int)
 | 0, _, _, _, _, _, _ => none
 | k + 1, x4, x5, x7, x1000, x1001, x1002 => if x7 < (x5.length : Int) then (if 0 ≤ x7 then ((spec_l1Below.f x1000 x1001 x1002 12).bind fun bt324 => (spec_l8Draw.l1 k x4 (x5.set (x7 : Int).toNat (⟨(rd_T85 x5 x7).f0, wrap64 (((rd_T85 x5 x7).f1) + bt324.1)⟩ : S85)) (wrap64 (x7 + 1)) x1000 bt324.2.1 bt324.2.2)) else (none)) else (some (x4, x5, x1001, x1002))
end
def spec_l8Draw.f (k : Nat) (s0_0 : List Int) (s0_1 : Int) (s0_2 : Int) : Option ((List (S50)) × (List (S85)) × Int × Int) := (spec_l5Draw.f k s0_0 s0_1 s0_2).bind fun bt307 => ((spec_PlanFor.f k bt307.1).bind fun t312 => (spec_l8Draw.l0 k bt307.1 t312 0 s0_0 bt307.2.1 bt307.2.2))
theorem spec_l8Draw.mono_l : ∀ k, (∀ y0 y1 y2 y3 y4 y5, LeO (spec_l8Draw.l0 k y0 y1 y2 y3 y4 y5) (spec_l8Draw.l0 (k + 1) y0 y1 y2 y3 y4 y5)) ∧ (∀ y0 y1 y2 y3 y4 y5 y6, LeO (spec_l8Draw.j1 k y0 y1 y2 y3 y4 y5 y6) (spec_l8Draw.j1 (k + 1) y0 y1 y2 y3 y4 y5 y6)) ∧ (∀ y0 y1 y2 y3 y4 y5, LeO (spec_l8Draw.l1 k y0 y1 y2 y3 y4 y5) (spec_l8Draw.l1 (k + 1) y0 y1 y2 y3 y4 y5))
 | 0 => ⟨fun _ _ _ _ _ _ r h => by simp [spec_l8Draw.l0] at h, fun _ _ _ _ _ _ _ r h => by simp [spec_l8Draw.j1] at h, fun _ _ _ _ _ _ r h => by simp [spec_l8Draw.l1] at h⟩
 | k + 1 => by
  obtain ⟨ih0, ih1, ih2⟩ := spec_l8Draw.mono_l k
  refine ⟨?_, ?_, ?_⟩
  ·
   intro y0 y1 y2 y3 y4 y5
   unfold spec_l8Draw.l0
   exact mz5 ih0 ih1 ih2 spec_PlanFor.mono spec_l5Draw.mono
  ·
   intro y0 y1 y2 y3 y4 y5 y6
   unfold spec_l8Draw.j1
   exact mz5 ih0 ih1 ih2 spec_PlanFor.mono spec_l5Draw.mono
  ·
   intro y0 y1 y2 y3 y4 y5
   unfold spec_l8Draw.l1
   exact mz5 ih0 ih1 ih2 spec_PlanFor.mono spec_l5Draw.mono
theorem spec_l8Draw.mono : ∀ a0 a1 a2 k, LeO (spec_l8Draw.f k a0 a1 a2) (spec_l8Draw.f (k + 1) a0 a1 a2) := by
 intro a0 a1 a2 k
 obtain ⟨ih0, ih1, ih2⟩ := spec_l8Draw.mono_l k
 unfold spec_l8Draw.f
 exact mz5 ih0 ih1 ih2 spec_PlanFor.mono spec_l5Draw.mono
def spec_l8Draw.T11 : Bool × List (List Nat × List Nat) := (true, [([], []), ([], []), ([], []), ([], []), ([2, 3], [2, 3]), ([4], [4]), ([5], [5]), ([], []), ([7], [7]), ([6, 8], [6, 8]), ([0, 1, 0, 1, 2, 3, 4, 5, 6, 7, 8, 9], [0, 1]), ([10, 0, 1, 2, 3, 4, 5, 6, 7, 8, 9], [10]), ([11, 9, 8, 0, 1, 2, 3, 4, 5, 6, 7, 8, 9], [9, 11])])
def spec_l8Draw.B11 : List Nat := [0, 0, 0, 0, 12, 28, 60, 0, 128, 508, 1023, 2047, 4095]
theorem spec_l8Draw.tab11 : rtab .any (opsOf Try.f124 11) = spec_l8Draw.T11 := by kernel_rfl
theorem spec_l8Draw.bits11 : waitsOk spec_l8Draw.T11.2 spec_l8Draw.B11 = true := by kernel_rfl
set_option maxHeartbeats 8000000 in
set_option maxRecDepth 100000 in
theorem spec_l8Draw.calls (k : Nat) (g : Nat) (s0_0 : List Int) (s0_1 : Int) (s0_2 : Int) (r1 : List (S50)) (r2 : List (S85)) (r3 : Int) (r4 : Int) (w0 w : World) (hI : IsS138 w0 w g s0_0 s0_1 s0_2) (hB : Below w0.heap.size w0 w) (h : spec_l8Draw.f k s0_0 s0_1 s0_2 = some (r1, r2, r3, r4)) :
  Calls Try.prog 124 #[.pointer (some ⟨g, 0, none⟩)] w fun e w' => ∃ v0_ v1_ : Value, e = .returned (.tuple #[v0_, v1_]) ∧ Kd.R k50 50 w' w.heap.size (fun _ => True) v0_ r1 ∧ Kd.S k85 85 w' w.heap.size (fun _ => True) v1_ r2 ∧ IsS138 w0 w' g s0_0 r3 r4 ∧ Below w0.heap.size w0 w' ∧ KeepBut w w' g none := by
 have HI0 := Aside0.mk hI
 have HK := Aside0.mk (KeepBut.refl w g none)
 have HL := Aside0.mk hB.size
 clear hI
 have HW0 := Aside0.mk hB.size
 have HB := Aside0.mk hB
 clear hB
 have H : ((spec_l5Draw.f k s0_0 s0_1 s0_2).bind fun bt307 => ((spec_PlanFor.f k bt307.1).bind fun t312 => (spec_l8Draw.l0 k bt307.1 t312 0 s0_0 bt307.2.1 bt307.2.2))) = some (r1, r2, r3, r4) := h
 clear h
 obtain ⟨⟨t307, t310, t311⟩, A2, H⟩ := bindE H
 try dsimp only at H
 obtain ⟨t312, A3, H⟩ := bindE H
 try dsimp only at H
 have H' := Aside0.mk H
 clear H
 go_enter Try.func124, Try.ntmps124
 go_wp2_with (first | ((with_reducible refine gate_callee (f := 150) rfl ?_); refine gL (some 9) Try.func150 #[.pointer (some ⟨g, 0, none⟩)] ?_; (with_reducible refine (spec_l5Draw.calls k g s0_0 s0_1 s0_2 t307 t310 t311 w0 _ ?_ ?_ A2.out).mono ?_); exact sI1380 HI0.out; exact sB1 HB.out (IsS138.ge HI0.out); rintro e w4 ⟨v308, rfl, ho0, hi, hb, hk⟩; refine ⟨_, rfl, ?_⟩; have HO309 := Aside0.mk (Kd.R_lower ho0 (keep_size (w := w) (g := g) (row := none) (by exact sK0 HK.out))); replace HK := Aside0.mk (KeepBut.trans (by exact sK0 HK.out) hk (.inl rfl)); replace HB := Aside0.mk (hb); replace HI0 := Aside0.mk (hi); (try clear hb); (try clear hk); (try clear hi); (try clear ho0); obtain ⟨Ao5, co5, eo5⟩ := Kd.R_slice HO309.out; subst eo5) | ((with_reducible refine gate_callee (f := 151) rfl ?_); refine gL (some 11) Try.func151 #[.slice Ao5 t307.length co5] ?_; (with_reducible refine (spec_PlanFor.calls k _ _ t307 t312 _ ?_ ?_ A3.out).mono ?_); exact cO ⟨(Kd.R_reads' HO309.out).2.2⟩; exact (Kd.R_reads' HO309.out).2.1; rintro e w6 ⟨v313, rfl, ho0, hb⟩; refine ⟨_, rfl, ?_⟩; replace HO309 := rb HO309 hb; have HO314 := Aside0.mk (Kd.S_lower ho0 (keep_size (w := w) (g := g) (row := none) (by exact sK0 HK.out))); replace HK := Aside0.mk (KeepBut.trans (by exact sK0 HK.out) (KeepBut.of_below hb g none) (.inl rfl)); replace HB := Aside0.mk (below_step (by exact sB1 HB.out (IsS138.ge HI0.out)) hb); replace HI0 := Aside0.mk (IsS138.below (by exact sI1380 HI0.out) hb); (try clear hb); (try clear ho0)))
 go_loopg [4, 5, 6] k (fun kq v4 v5 v6 w' => ∃ (x4_1 : List (S50)) (x5_1 : List (S85)) (x6_1 : Int) (x1001_1 : Int) (x1002_1 : Int), v6 = .int .i64 x6_1 ∧ Aside0 (spec_l8Draw.l0 kq x4_1 x5_1 x6_1 s0_0 x1001_1 x1002_1 = some (r1, r2, r3, r4)) ∧ Aside0 (kq ≤ k) ∧ Aside0 (Kd.R k50 50 w' w.heap.size (fun _ => True) v4 x4_1) ∧ Aside0 (Kd.S k85 85 w' w.heap.size (fun _ => True) v5 x5_1) ∧ Aside0 (IsS138 w0 w' g s0_0 x1001_1 x1002_1) ∧ Aside0 (KeepBut w w' g none) ∧ Aside0 (Below w0.heap.size w0 w'))
 case atStart => exact ⟨(t307), (t312), (0), (t310), (t311), rS, H', ⟨Nat.le_refl _⟩, ⟨rK HO309⟩, ⟨sK HO314⟩, ⟨by exact sI1380 HI0.out⟩, ⟨by exact sK0 HK.out⟩, ⟨by exact sB1 HB.out (IsS138.ge HI0.out)⟩⟩
 case round =>
  clear H'
  obtain ⟨x4_1, x5_1, x6_1, x1001_1, x1002_1, rfl, HA, HK1, HO_4, HO_5, HI0, HK, HB⟩ := hrel
  cases gk with
  | zero => exact absurd HA.out (by simp [spec_l8Draw.l0])
  | succ k1 =>
   have H := HA.out
   clear HA
   simp only [spec_l8Draw.l0] at H
   have HC7 := Aside0.mk H
   clear H
   go_upto_region 4 with (fail)
   go_cut [18] (fun v18 wc => ∃ (kq : Nat) (x18_6 : Bool), v18 = .bool x18_6 ∧ Aside0 (spec_l8Draw.j1 kq x4_1 x5_1 x6_1 x18_6 s0_0 x1001_1 x1002_1 = some (r1, r2, r3, r4)) ∧ Aside0 (kq ≤ k1) ∧ Aside0 (Kd.R k50 50 wc w.heap.size (fun _ => True) u4 x4_1) ∧ Aside0 (Kd.S k85 85 wc w.heap.size (fun _ => True) u5 x5_1) ∧ Aside0 (IsS138 w0 wc g s0_0 x1001_1 x1002_1) ∧ Aside0 (KeepBut w wc g none) ∧ Aside0 (Below w0.heap.size w0 wc))
   case first =>
    have H := HC7.out
    clear HC7
    by_cases c8 : x6_1 < 4
    ·
     rw [if_pos c8] at H
     have c8b0 := decide_eq_true c8
     clear c8
     (first | rw [c8b0] | (simp only [i64_w, i32_w]; rw [c8b0]) | skip)
     have H' := Aside0.mk H
     clear H
     obtain ⟨Ao9, co9, eo9⟩ := Kd.S_slice HO_5.out
     subst eo9
     go_wp2
     go_meet
     case rel => exact ⟨_, (((x5_1.length : Int) == 0)), rS, H', ⟨by have := HK1.out; first | omega | exact Nat.le_refl _⟩, ⟨rK HO_4⟩, ⟨sK HO_5⟩, ⟨by exact sI1380 HI0.out⟩, ⟨by exact sK0 HK.out⟩, ⟨by exact sB1 HB.out (IsS138.ge HI0.out)⟩⟩
    rw [if_neg c8] at H
    have c8b0 := decide_eq_false c8
    clear c8
    (first | rw [c8b0] | (simp only [i64_w, i32_w]; rw [c8b0]) | skip)
    have H' := Aside0.mk H
    clear H
    go_wp2
    go_meet
    case rel => exact ⟨_, (false), rS, H', ⟨by have := HK1.out; first | omega | exact Nat.le_refl _⟩, ⟨rK HO_4⟩, ⟨sK HO_5⟩, ⟨by exact sI1380 HI0.out⟩, ⟨by exact sK0 HK.out⟩, ⟨by exact sB1 HB.out (IsS138.ge HI0.out)⟩⟩
   case rest =>
    clear HC7
    obtain ⟨kq, x18_6, rfl, HA, HJ6, HO_4, HO_5, HI0, HK, HB⟩ := hcut
    cases kq with
    | zero => exact absurd HA.out (by simp [spec_l8Draw.j1])
    | succ kj6 =>
     have H := HA.out
     clear HA
     simp only [spec_l8Draw.j1] at H
     by_cases c10 : x18_6 = true
     ·
      subst c10
      have H1 : ((spec_l5Draw.f kj6 s0_0 x1001_1 x1002_1).bind fun bt315 => ((spec_PlanFor.f kj6 bt315.1).bind fun t320 => (spec_l8Draw.l0 kj6 bt315.1 t320 (wrap64 (x6_1 + 1)) s0_0 bt315.2.1 bt315.2.2))) = some (r1, r2, r3, r4) := by rw [if_pos rfl] at H; exact H
      clear H
      have H := H1
      clear H1
      obtain ⟨⟨t315, t318, t319⟩, A11, H⟩ := bindE H
      try dsimp only at H
      obtain ⟨t320, A12, H⟩ := bindE H
      try dsimp only at H
      have H' := Aside0.mk H
      clear H
      go_wp2_with (first | ((with_reducible refine gate_callee (f := 150) rfl ?_); refine gL (some 22) Try.func150 #[.pointer (some ⟨g, 0, none⟩)] ?_; (with_reducible refine (spec_l5Draw.calls kj6 g s0_0 x1001_1 x1002_1 t315 t318 t319 w0 _ ?_ ?_ A11.out).mono ?_); exact sI1380 HI0.out; exact sB1 HB.out (IsS138.ge HI0.out); rintro e w13 ⟨v316, rfl, ho0, hi, hb, hk⟩; refine ⟨_, rfl, ?_⟩; replace HO_5 := Aside0.mk (Kd.S_mono (Kd.S_keep (IsS138.apartS (show IsS138 w0 _ g s0_0 x1001_1 x1002_1 from by exact sI1380 HI0.out) (sK HO_5) (by decide)) hk (fun _ h => h.2)) (fun _ h => h.1)); have HO317 := Aside0.mk (Kd.R_lower (Kd.R_new' ho0 (Kd.R_lt (rK HO_4))) (keep_size (w := w) (g := g) (row := none) (by exact sK0 HK.out))); replace HO_4 := Aside0.mk (Kd.R_mono (Kd.R_told (Kd.R_oldK (IsS138.apart (show IsS138 w0 _ g s0_0 x1001_1 x1002_1 from by exact sI1380 HI0.out) (rK HO_4) (by decide)) hk) (Kd.R_base ho0)) (fun _ h_ => h_.1)); replace HK := Aside0.mk (KeepBut.trans (by exact sK0 HK.out) hk (.inl rfl)); replace HB := Aside0.mk (hb); replace HI0 := Aside0.mk (hi); (try clear hb); (try clear hk); (try clear hi); (try clear ho0); obtain ⟨Ao14, co14, eo14⟩ := Kd.R_slice HO317.out; subst eo14) | ((with_reducible refine gate_callee (f := 151) rfl ?_); refine gL (some 24) Try.func151 #[.slice Ao14 t315.length co14] ?_; (with_reducible refine (spec_PlanFor.calls kj6 _ _ t315 t320 _ ?_ ?_ A12.out).mono ?_); exact cO ⟨(Kd.R_reads' HO317.out).2.2⟩; exact (Kd.R_reads' HO317.out).2.1; rintro e w15 ⟨v321, rfl, ho0, hb⟩; refine ⟨_, rfl, ?_⟩; replace HO_4 := rb HO_4 hb; replace HO317 := rb HO317 hb; have HO322 := Aside0.mk (Kd.S_lower (Kd.S_new' ho0 (Kd.S_lt (sK HO_5))) (keep_size (w := w) (g := g) (row := none) (by exact sK0 HK.out))); replace HO_5 := Aside0.mk (Kd.S_elder' (sK HO_5) (Kd.S_base ho0) hb); replace HK := Aside0.mk (KeepBut.trans (by exact sK0 HK.out) (KeepBut.of_below hb g none) (.inl rfl)); replace HB := Aside0.mk (below_step (by exact sB1 HB.out (IsS138.ge HI0.out)) hb); replace HI0 := Aside0.mk (IsS138.below (by exact sI1380 HI0.out) hb); (try clear hb); (try clear ho0)))
      go_roundg kj6
      case measure => have := HK1.out; have := HJ6.out; omega
      case rel => exact ⟨(t315), (t320), (wrap64 (x6_1 + 1)), (t318), (t319), rS, H', ⟨by have := HK1.out; have := HJ6.out; omega⟩, ⟨rm HO317 (fun _ hk => trivial)⟩, ⟨sm HO322 (fun _ hk => trivial)⟩, ⟨by exact sI1380 HI0.out⟩, ⟨by exact sK0 HK.out⟩, ⟨by exact sB1 HB.out (IsS138.ge HI0.out)⟩⟩
     replace c10 := Bool.eq_false_iff.mpr c10
     subst c10
     have H1 : (spec_l8Draw.l1 kj6 x4_1 x5_1 0 s0_0 x1001_1 x1002_1) = some (r1, r2, r3, r4) := by rw [if_neg (show ¬ (false = true) by decide)] at H; exact H
     clear H
     have H := H1
     clear H1
     have H' := Aside0.mk H
     clear H
     go_wp2
     go_loopg [7] kj6 (fun kq v7 w' => ∃ (x5_3 : List (S85)) (x7_3 : Int) (x1001_3 : Int) (x1002_3 : Int), v7 = .int .i64 x7_3 ∧ Aside0 (spec_l8Draw.l1 kq x4_1 x5_3 x7_3 s0_0 x1001_3 x1002_3 = some (r1, r2, r3, r4)) ∧ Aside0 (kq ≤ kj6) ∧ Aside0 (Kd.R k50 50 w' w.heap.size (fun _ => True) u4 x4_1) ∧ Aside0 (Kd.S k85 85 w' w.heap.size (fun _ => True) u5 x5_3) ∧ Aside0 (IsS138 w0 w' g s0_0 x1001_3 x1002_3) ∧ Aside0 (KeepBut w w' g none) ∧ Aside0 (Below w0.heap.size w0 w'))
     case atStart => exact ⟨(x5_1), (0), (x1001_1), (x1002_1), rS, H', ⟨Nat.le_refl _⟩, ⟨rK HO_4⟩, ⟨sK HO_5⟩, ⟨by exact sI1380 HI0.out⟩, ⟨by exact sK0 HK.out⟩, ⟨by exact sB1 HB.out (IsS138.ge HI0.out)⟩⟩
     case round =>
      clear H'
      obtain ⟨x5_3, x7_3, x1001_3, x1002_3, rfl, HA, HK3, HO_4, HO_5, HI0, HK, HB⟩ := hrel
      cases gk with
      | zero => exact absurd HA.out (by simp [spec_l8Draw.l1])
      | succ k3 =>
       have H := HA.out
       clear HA
       simp only [spec_l8Draw.l1] at H
       by_cases c16 : x7_3 < (x5_3.length : Int)
       ·
        rw [if_pos c16] at H
        have c16b0 := decide_eq_true c16
        clear c16
        have c17 : 0 ≤ x7_3 := ifN H
        replace H := ifT H
        have c17b0 := decide_eq_true c17
        clear c17
        obtain ⟨⟨t324, t325, t326⟩, A18, H⟩ := bindE H
        try dsimp only at H
        obtain ⟨y327, hy327⟩ : ∃ y_ : List (S85), y_ = (x5_3.set (x7_3 : Int).toNat (⟨(rd_T85 x5_3 x7_3).f0, wrap64 (((rd_T85 x5_3 x7_3).f1) + t324)⟩ : S85)) := ⟨_, rfl⟩
        replace H : (spec_l8Draw.l1 k3 x4_1 y327 (wrap64 (x7_3 + 1)) s0_0 t325 t326) = some (r1, r2, r3, r4) := rH H hy327
        have Ny327 := Aside0.mk hy327
        clear hy327
        have H' := Aside0.mk H
        clear H
        obtain ⟨Ao20, co20, eo20⟩ := Kd.S_slice HO_5.out
        subst eo20
        try go_wp2
        replace HO_4 := dr HO_4
        replace HO_5 := ds HO_5
        replace HI0 := Aside0.mk (IsS138.drew HI0.out)
        replace HK := Aside0.mk (keep_drew HK.out)
        have HBo := HB
        replace HB := db HB
        obtain ⟨p323, q323⟩ : 0 ≤ (x7_3 : Int) ∧ x7_3 < (x5_3.length : Int) := ⟨dA, dA⟩
        obtain ⟨ad323, A323_0, c323_0, e323, hx323_0, hx323_1, hl323_0, hi323_0⟩ := at_T85 (Kd.S_reads' HO_5.out).2.2 x7_3 p323 q323
        cases e323
        obtain ⟨ce323, hce323, hMe323, hcc323⟩ := Kd.S_get HO_5.out z85 x7_3 p323 (by first | exact q323 | exact dA | (have e_ := (Kd.S_reads' HO_5.out).1; omega))
        obtain ⟨ve323_0, rfl, ge323_0⟩ := k85_openM hMe323
        have hv323_0 := hcc323 0 _ rfl
        rw [Nat.add_zero] at hv323_0
        replace hv323_0 := Option.some.inj (hv323_0.symm.trans hx323_0)
        rw [hv323_0] at ge323_0
        have HL323_0 := Aside0.mk (show Kd.R (Kd.int .i64) 3 _ _ _ _ ((rd_T85 x5_3 x7_3).f0) from ge323_0)
        clear hv323_0 ge323_0
        clear hcc323 hce323
        have HR323_0 := Aside0.mk hi323_0
        have HC323_0 := Aside0.mk hl323_0
        clear hi323_0 hl323_0
        obtain ⟨p323, q323⟩ := eT p323 q323
        refine sw (ds := [12]) 13 (mb 13 0) spec_l8Draw.tab11 spec_l8Draw.bits11 (h1c hx323_0 (h1 hx323_1)) (fun hHeld HT_ HW_ => ?_)
        generalize wr.drew = w21 at HO_4 HO_5 HI0 HK HB HL323_0 HR323_0 hx323_0 hx323_1 hHeld ⊢
        refine pa 0 31 (mb 13 1) HT_ ?_
        refine pa 1 32 (mb 13 3) HT_ ?_
        refine pa 2 33 (mb 13 7) HT_ ?_
        refine pa 3 34 (mb 13 15) HT_ ?_
        refine pa 4 35 (mb 13 31) HT_ ?_
        refine pa 5 36 (mb 13 63) HT_ ?_
        refine pa 7 38 (mb 13 191) HT_ ?_
        refine ta2 6 37 (mb 13 255) HT_ HW_ hHeld ?_
        refine oa 8 39 (mb 13 511) HT_ (fun K hK => ?_)
        refine gA Try.func84 #[.pointer (some ⟨g, 0, none⟩), .int .i64 12] ?_
        with_reducible refine (spec_l1Below.calls g s0_0 x1001_3 x1002_3 12 t324 t325 t326 w0 _ ?side1 ?side2 A18.out).mono ?_
        (case side1 => exact sI1380 HI0.out)
        (case side2 => exact sB1 HB.out (IsS138.ge HI0.out))
        rintro e w22 ⟨rfl, hi, hb, hk⟩
        have HS0_ := keep_cell hk (hHeld.1) (by first | (rw [add_block]; exact Kd.own_blk (IsS138.own_neS HI0.out HO_5.out (by decide))) | (show (Addr.add _ _).block ≠ _; rw [add_block]; exact Kd.own_blk (IsS138.own_neS HI0.out HO_5.out (by decide))) | exact Kd.own_blk (IsS138.own_neS HI0.out HO_5.out (by decide)))
        have HS1_ := keep_cell hk (hHeld.2) (by first | (rw [add_block]; exact Kd.own_blk (IsS138.own_neS HI0.out HO_5.out (by decide))) | (show (Addr.add _ _).block ≠ _; rw [add_block]; exact Kd.own_blk (IsS138.own_neS HI0.out HO_5.out (by decide))) | exact Kd.own_blk (IsS138.own_neS HI0.out HO_5.out (by decide)))
        refine ⟨_, rfl, ?_⟩
        replace HO_4 := Aside0.mk (Kd.R_mono (Kd.R_keep (IsS138.apart (show IsS138 w0 _ g s0_0 x1001_3 x1002_3 from by exact sI1380 HI0.out) (rK HO_4) (by decide)) hk (fun _ h => h.2)) (fun _ h => h.1))
        replace HO_5 := Aside0.mk (Kd.S_mono (Kd.S_keep (IsS138.apartS (show IsS138 w0 _ g s0_0 x1001_3 x1002_3 from by exact sI1380 HI0.out) (sK HO_5) (by decide)) hk (fun _ h => h.2)) (fun _ h => h.1))
        replace HL323_0 := Aside0.mk (Kd.R_mono (Kd.R_keep (IsS138.apart (show IsS138 w0 _ g s0_0 x1001_3 x1002_3 from by exact sI1380 HI0.out) (by (with_reducible repeat (first | apply Kd.R_alloc | apply Kd.R_drewN | apply Kd.R_drew)); exact HL323_0.out) (by decide)) hk (fun _ h => h.2)) (fun _ h => h.1))
        replace HK := Aside0.mk (KeepBut.trans (by exact sK0 HK.out) hk (.inl rfl))
        replace HB := Aside0.mk (hb)
        replace HI0 := Aside0.mk (hi)
        (try clear hb)
        (try clear hb2)
        (try clear hk)
        (try clear hi)
        obtain ⟨p19, q19⟩ : 0 ≤ (x7_3 : Int) ∧ (x7_3 : Int) < ((x5_3.length : Int) : Int) := ⟨dA, dA⟩
        obtain ⟨go19, co19, eo19, gb19, gl19, cl19, HG19⟩ := Kd.S_form HO_5.out (by omega)
        (first | cases eo19 | (injection eo19 with ea_ en_ ec_; (first | subst ea_ | (injection ea_ with ea_; subst ea_)); subst ec_; clear en_))
        have GB19 := Aside0.mk gb19
        have GG19 := Aside0.mk HG19
        clear gb19 gl19 HG19
        (first | simp only [add_plain] at hx323_0 | skip)
        (first | simp only [add_plain] at hx323_1 | skip)
        obtain ⟨_, ce19, hcl19, hM19, hcc19, hfr19, _, _⟩ := Kd.S_elem HO_5.out z85 (x7_3 : Int) p19 q19
        obtain ⟨ve19_0, rfl, ge19_0⟩ := k85_openM hM19
        have hx19_0 : World.cell? _ ⟨go19, (x7_3 : Int).toNat * 2, none⟩ = some (ve19_0) := hcc19 0 _ rfl
        have hx19_1 : World.cell? _ ⟨go19, (x7_3 : Int).toNat * 2 + 1, none⟩ = some (.int .i64 ((rd_T85 x5_3 x7_3).f1)) := hcc19 1 _ rfl
        have hf19_0 : World.frozen? _ ⟨go19, (x7_3 : Int).toNat * 2, none⟩ = false := hfr19 0
        have hf19_1 : World.frozen? _ ⟨go19, (x7_3 : Int).toNat * 2 + 1, none⟩ = false := hfr19 1
        clear hcl19 hcc19 hfr19 hM19
        obtain ⟨p19, q19⟩ := eT p19 q19
        have HN0_go19 := Aside0.mk (show g ≠ go19 from by have h_ := IsS138.own_neS HI0.out HO_5.out (by decide); intro e_; exact h_ (by rw [e_]; rfl))
        have HX23 := Aside0.mk (show Kd.S k85 85 _ w.heap.size (fun k_ => ((fun _ => True)) k_ ∧ ¬ (fun _ => False) k_) (.slice (some ⟨go19, 0, none⟩) x5_3.length co20) x5_3 from (sm HO_5 (fun k_ hk => ⟨trivial, fun e_ => e_⟩)))
        obtain ⟨oki23, ce23, hcl23, hM23, hcc23, hfr23, hoki23, hH23⟩ := Kd.S_elem HX23.out z85 (x7_3 : Int) (dA) (by have h_ : (x7_3 : Int) < ((x5_3.length : Int) : Int) := dA; first | exact h_ | (have e_ := (Kd.S_reads' HO_5.out).1; omega) | simpa using h_)
        obtain ⟨ve23_0, rfl, ge23_0⟩ := k85_openM hM23
        have HP23 := (Kd.S_seg hH23 (dA) (by have h_ : (x7_3 : Int) < ((x5_3.length : Int) : Int) := dA; first | exact h_ | (have e_ := (Kd.S_reads' HO_5.out).1; omega) | simpa using h_) (seg := [.int .i64 (wrap64 (((rd_T85 x5_3 x7_3).f1) + t324))]) (j := 1) (show 2 ≤ 2 from by decide) (x' := (⟨(rd_T85 x5_3 x7_3).f0, wrap64 (((rd_T85 x5_3 x7_3).f1) + t324)⟩ : S85)) (k85_mkM _ _ _ (⟨(rd_T85 x5_3 x7_3).f0, wrap64 (((rd_T85 x5_3 x7_3).f1) + t324)⟩ : S85) ge23_0) (fun _ hk => Or.inl hk) (fun _ hk => hk.elim)).1
        rw [← Ny327.out] at HP23
        have HQ23 := Aside0.mk HP23
        clear hcl23 hcc23 hfr23 hM23 HP23
        refine hK.out _ _ ⟨HS0_, HS1_⟩ (fun hHeld => ?_)
        clear hK K
        refine nB ?_
        refine pa 9 40 (mb 13 1023) HT_ ?_
        refine pa 10 41 (mb 13 2047) HT_ ?_
        refine pa 11 42 (mb 13 4095) HT_ ?_
        refine last_ (i := 12) (N := none) (mb 13 8191) rfl rfl (one_of HT_.out (by kernel_rfl)) (by decide) (fun K hK => ?_)
        refine skip_ (w1 := ?_) (by rfl) rfl ?_ ?_
        rotate_left
        ·
         go_simp
         rfl
        refine hK.out _ _ ?_
        clear hK K
        refine eA HT_ ?_
        try go_wp2
        go_roundg k3
        case measure => have := HK1.out; have := HJ6.out; have := HK3.out; omega
        case rel => exact ⟨(y327), (wrap64 (x7_3 + 1)), (t325), (t326), rS, H', ⟨by have := HK1.out; have := HJ6.out; have := HK3.out; omega⟩, ⟨by (with_reducible repeat (first | apply Kd.R_alloc | apply Kd.R_drewN | apply Kd.R_drew)); exact Kd.R_mono (Kd.R_far (p := ⟨go19, (x7_3 : Int).toNat * 2 + 1, none⟩) (Kd.R_types HO_4.out GG19.out (by decide)) (fun _ hk => hk.2) (.int .i64 (wrap64 (((rd_T85 x5_3 x7_3).f1) + t324)))) (fun _ hk => trivial)⟩, ⟨by (with_reducible repeat (first | apply Kd.S_alloc | apply Kd.S_drewN | apply Kd.S_drew)); exact HQ23.out⟩, ⟨by exact sI1381 HI0.out HN0_go19.out⟩, ⟨by exact sK1 HK.out GB19.out⟩, ⟨by repeat (first | (with_reducible first | exact HB.out | apply below_alloc | apply pw_below_drewN | apply below_drew1 | refine below_set ?_ (Nat.le_trans HL.out GB19.out) | refine below_set ?_ (IsS138.ge HI0.out)) | exact HB.out)⟩⟩
       rw [if_neg c16] at H
       have c16b0 := decide_eq_false c16
       clear c16
       simp only [Option.some.injEq, Prod.mk.injEq] at H
       obtain ⟨rfl, rfl, rfl, rfl⟩ := H
       obtain ⟨Ao24, co24, eo24⟩ := Kd.S_slice HO_5.out
       subst eo24
       go_wp2
       go_ret2
       exact ⟨_, _, rA, rK HO_4, sK HO_5, by exact sI1380 HI0.out, by exact sB1 HB.out (IsS138.ge HI0.out), by exact sK0 HK.out⟩

/-! ### spec_l1Once: function 93 -/
def spec_l1Once.f (s0_0 : List Int) (s0_1 : Int) (s0_2 : Int) (a1 : Int) : Option (Bool × Int × Int) := (spec_l1Below.f s0_0 s0_1 s0_2 a1).bind fun bt328 => (some ((bt328.1 == 0), bt328.2.1, bt328.2.2))
set_option maxHeartbeats 8000000 in
set_option maxRecDepth 100000 in
theorem spec_l1Once.calls (g : Nat) (s0_0 : List Int) (s0_1 : Int) (s0_2 : Int) (a1 : Int) (r1 : Bool) (r2 : Int) (r3 : Int) (w0 w : World) (hI : IsS138 w0 w g s0_0 s0_1 s0_2) (hB : Below w0.heap.size w0 w) (h : spec_l1Once.f s0_0 s0_1 s0_2 a1 = some (r1, r2, r3)) :
  Calls Try.prog 93 #[.pointer (some ⟨g, 0, none⟩), .int .i64 a1] w fun e w' => e = .returned (.bool r1) ∧ IsS138 w0 w' g s0_0 r2 r3 ∧ Below w0.heap.size w0 w' ∧ KeepBut w w' g none := by
 have HI0 := Aside0.mk hI
 have HK := Aside0.mk (KeepBut.refl w g none)
 have HL := Aside0.mk hB.size
 clear hI
 have HW0 := Aside0.mk hB.size
 have HB := Aside0.mk hB
 clear hB
 have H : ((spec_l1Below.f s0_0 s0_1 s0_2 a1).bind fun bt328 => (some ((bt328.1 == 0), bt328.2.1, bt328.2.2))) = some (r1, r2, r3) := h
 clear h
 obtain ⟨⟨t328, t329, t330⟩, A3, H⟩ := bindE H
 try dsimp only at H
 simp only [Option.some.injEq, Prod.mk.injEq] at H
 obtain ⟨rfl, rfl, rfl⟩ := H
 go_enter Try.func93, Try.ntmps93
 go_wp2_with (first | ((with_reducible refine gate_callee (f := 84) rfl ?_); refine gL (some 7) Try.func84 #[.pointer (some ⟨g, 0, none⟩), .int .i64 a1] ?_; (with_reducible refine (spec_l1Below.calls g s0_0 s0_1 s0_2 a1 t328 t329 t330 w0 _ ?_ ?_ A3.out).mono ?_); exact sI1380 HI0.out; exact sB1 HB.out (IsS138.ge HI0.out); rintro e w4 ⟨rfl, hi, hb, hk⟩; refine ⟨_, rfl, ?_⟩; replace HK := Aside0.mk (KeepBut.trans (by exact sK0 HK.out) hk (.inl rfl)); replace HB := Aside0.mk (hb); replace HI0 := Aside0.mk (hi); (try clear hb); (try clear hk); (try clear hi)))
 go_ret
 exact ⟨rA, by exact sI1380 HI0.out, by exact sB1 HB.out (IsS138.ge HI0.out), by exact sK0 HK.out⟩

/-! ### spec_l4Raw: function 129 -/
def spec_l4Raw.f (s0_0 : List Int) (s0_1 : Int) (s0_2 : Int) : Option (Int × Int × Int) := (spec_l1Int.f s0_0 s0_1 s0_2 (([(-1), 0, 4, 7, 20, 21, 9223372036854775807, (-9223372036854775808)] : List Int))).bind fun bt334 => (some (bt334.1, bt334.2.1, bt334.2.2))
set_option maxHeartbeats 8000000 in
set_option maxRecDepth 100000 in
theorem spec_l4Raw.calls (g : Nat) (s0_0 : List Int) (s0_1 : Int) (s0_2 : Int) (r1 : Int) (r2 : Int) (r3 : Int) (w0 w : World) (hI : IsS138 w0 w g s0_0 s0_1 s0_2) (hB : Below w0.heap.size w0 w) (h : spec_l4Raw.f s0_0 s0_1 s0_2 = some (r1, r2, r3)) :
  Calls Try.prog 129 #[.pointer (some ⟨g, 0, none⟩)] w fun e w' => e = .returned (.int .i64 r1) ∧ IsS138 w0 w' g s0_0 r2 r3 ∧ Below w0.heap.size w0 w' ∧ KeepBut w w' g none := by
 have HI0 := Aside0.mk hI
 have HK := Aside0.mk (KeepBut.refl w g none)
 have HL := Aside0.mk hB.size
 clear hI
 have HW0 := Aside0.mk hB.size
 have HB := Aside0.mk hB
 clear hB
 have H : ((spec_l1Int.f s0_0 s0_1 s0_2 (([(-1), 0, 4, 7, 20, 21, 9223372036854775807, (-9223372036854775808)] : List Int))).bind fun bt334 => (some (bt334.1, bt334.2.1, bt334.2.2))) = some (r1, r2, r3) := h
 clear h
 obtain ⟨y331, hy331⟩ : ∃ y_ : List Int, y_ = (([(-1), 0, 4, 7, 20, 21, 9223372036854775807, (-9223372036854775808)] : List Int)) := ⟨_, rfl⟩
 replace H : ((spec_l1Int.f s0_0 s0_1 s0_2 y331).bind fun bt334 => (some (bt334.1, bt334.2.1, bt334.2.2))) = some (r1, r2, r3) := rH H hy331
 have Ny331 := Aside0.mk hy331
 clear hy331
 obtain ⟨⟨t334, t335, t336⟩, A2, H⟩ := bindE H
 try dsimp only at H
 simp only [Option.some.injEq, Prod.mk.injEq] at H
 obtain ⟨rfl, rfl, rfl⟩ := H
 go_enter Try.func129, Try.ntmps129
 go_wp2_with (first | ((with_reducible refine gate_dst (N := 4) rfl ?_); refine Kd.R_lit (Kd.int .i64) _ 3 ?hg (N := 4) ?hd (xs := ([(-1), 0, 4, 7, 20, 21, 9223372036854775807, (-9223372036854775808)] : List Int)) (inner := [.int .i64 (-1), .int .i64 0, .int .i64 4, .int .i64 7, .int .i64 20, .int .i64 21, .int .i64 9223372036854775807, .int .i64 (-9223372036854775808)]) (ok := fun _ => True) (okp := fun _ => True) ?hr ?hp (fun _ hk => hk) trivial (Below.refl _ _) (Nat.le_refl _) (by simp) ?_; (case hd => rfl); (case hg => rfl); (case hr => first | (go_simp; done) | (go_simp; rfl)); (case hp => exact (Reps.one (show Kd.M (Kd.int .i64) _ _ _ (-1) [.int .i64 (-1)] from rfl) (Reps.one (show Kd.M (Kd.int .i64) _ _ _ 0 [.int .i64 0] from rfl) (Reps.one (show Kd.M (Kd.int .i64) _ _ _ 4 [.int .i64 4] from rfl) (Reps.one (show Kd.M (Kd.int .i64) _ _ _ 7 [.int .i64 7] from rfl) (Reps.one (show Kd.M (Kd.int .i64) _ _ _ 20 [.int .i64 20] from rfl) (Reps.one (show Kd.M (Kd.int .i64) _ _ _ 21 [.int .i64 21] from rfl) (Reps.one (show Kd.M (Kd.int .i64) _ _ _ 9223372036854775807 [.int .i64 9223372036854775807] from rfl) (Reps.one (show Kd.M (Kd.int .i64) _ _ _ (-9223372036854775808) [.int .i64 (-9223372036854775808)] from rfl) (Reps.none _ _)))))))))); intro v332 w3 ho4 hb hg_ hnew_; clear hg_ hnew_; (first | rw [← Ny331.out] at ho4 | (simp only [Int.reduceToNat] at ho4; rw [← Ny331.out] at ho4)); have HO333 := Aside0.mk (Kd.R_lower ho4 (keep_size (w := w) (g := g) (row := none) (by exact sK0 HK.out))); replace HK := Aside0.mk (KeepBut.trans (by exact sK0 HK.out) (KeepBut.of_below hb g none) (.inl rfl)); replace HB := Aside0.mk (below_step (by exact sB1 HB.out (IsS138.ge HI0.out)) hb); replace HI0 := Aside0.mk (IsS138.below (by exact sI1380 HI0.out) hb); clear hb ho4; obtain ⟨Ao5, co5, eo5⟩ := Kd.R_slice HO333.out; subst eo5) | ((with_reducible refine gate_callee (f := 94) rfl ?_); refine gL (some 5) Try.func94 #[.pointer (some ⟨g, 0, none⟩), .slice Ao5 y331.length co5] ?_; (with_reducible refine (spec_l1Int.calls g s0_0 s0_1 s0_2 _ _ y331 t334 t335 t336 w0 _ ?_ ?_ ?_ ?_ ?_ A2.out).mono ?_); exact sI1380 HI0.out; exact sB1 HB.out (IsS138.ge HI0.out); exact cO ⟨(Kd.R_reads' HO333.out).2.2⟩; exact (Kd.R_reads' HO333.out).2.1; exact far_slice (IsS138.own_ne HI0.out HO333.out (by decide)); rintro e w6 ⟨rfl, hi, hb, hk⟩; refine ⟨_, rfl, ?_⟩; replace HO333 := Aside0.mk (Kd.R_mono (Kd.R_keep (IsS138.apart (show IsS138 w0 _ g s0_0 s0_1 s0_2 from by exact sI1380 HI0.out) (rK HO333) (by decide)) hk (fun _ h => h.2)) (fun _ h => h.1)); replace HK := Aside0.mk (KeepBut.trans (by exact sK0 HK.out) hk (.inl rfl)); replace HB := Aside0.mk (hb); replace HI0 := Aside0.mk (hi); (try clear hb); (try clear hk); (try clear hi)))
 go_ret
 exact ⟨rA, by exact sI1380 HI0.out, by exact sB1 HB.out (IsS138.ge HI0.out), by exact sK0 HK.out⟩

/-! ### spec_l4Any: function 152 -/
def spec_l4Any.f (s0_0 : List Int) (s0_1 : Int) (s0_2 : Int) : Option (Int × Int × Int × Int × Int × Int) := (spec_l1Below.f s0_0 s0_1 s0_2 20).bind fun bt338 => ((spec_l4Draw.f s0_0 bt338.2.1 bt338.2.2 (wrap64 (1 + bt338.1))).bind fun bt341 => ((spec_l1Below.f s0_0 bt341.2.2.2.2.1 bt341.2.2.2.2.2 10).bind fun bt348 => (if bt348.1 = 0 then ((spec_l1Int.f s0_0 bt348.2.1 bt348.2.2 (([0, 20, 21] : List Int))).bind fun bt354 => (some (bt354.1, bt341.2.1, bt341.2.2.1, bt341.2.2.2.1, bt354.2.1, bt354.2.2))) else (if bt348.1 = 1 then ((spec_l1Int.f s0_0 bt348.2.1 bt348.2.2 (([0, 2, 4] : List Int))).bind fun bt360 => (some (bt341.1, bt360.1, bt341.2.2.1, bt341.2.2.2.1, bt360.2.1, bt360.2.2))) else (if bt348.1 = 2 then ((spec_l4Raw.f s0_0 bt348.2.1 bt348.2.2).bind fun bt363 => (some (bt341.1, bt341.2.1, bt363.1, bt341.2.2.2.1, bt363.2.1, bt363.2.2))) else (if bt348.1 = 3 then ((spec_l4Raw.f s0_0 bt348.2.1 bt348.2.2).bind fun bt366 => (some (bt341.1, bt341.2.1, bt341.2.2.1, bt366.1, bt366.2.1, bt366.2.2))) else (some (bt341.1, bt341.2.1, bt341.2.2.1, bt341.2.2.2.1, bt348.2.1, bt348.2.2))))))))
set_option maxHeartbeats 8000000 in
set_option maxRecDepth 100000 in
theorem spec_l4Any.calls (g : Nat) (s0_0 : List Int) (s0_1 : Int) (s0_2 : Int) (r1 : Int) (r2 : Int) (r3 : Int) (r4 : Int) (r5 : Int) (r6 : Int) (w0 w : World) (hI : IsS138 w0 w g s0_0 s0_1 s0_2) (hB : Below w0.heap.size w0 w) (h : spec_l4Any.f s0_0 s0_1 s0_2 = some (r1, r2, r3, r4, r5, r6)) :
  Calls Try.prog 152 #[.pointer (some ⟨g, 0, none⟩)] w fun e w' => e = .returned (.agg #[.int .i64 r1, .int .i64 r2, .int .i64 r3, .int .i64 r4]) ∧ IsS138 w0 w' g s0_0 r5 r6 ∧ Below w0.heap.size w0 w' ∧ KeepBut w w' g none := by
 have hu50 := Try.underlying50
 have HI0 := Aside0.mk hI
 have HK := Aside0.mk (KeepBut.refl w g none)
 have HL := Aside0.mk hB.size
 clear hI
 have HW0 := Aside0.mk hB.size
 have HB := Aside0.mk hB
 clear hB
 have H : ((spec_l1Below.f s0_0 s0_1 s0_2 20).bind fun bt338 => ((spec_l4Draw.f s0_0 bt338.2.1 bt338.2.2 (wrap64 (1 + bt338.1))).bind fun bt341 => ((spec_l1Below.f s0_0 bt341.2.2.2.2.1 bt341.2.2.2.2.2 10).bind fun bt348 => (if bt348.1 = 0 then ((spec_l1Int.f s0_0 bt348.2.1 bt348.2.2 (([0, 20, 21] : List Int))).bind fun bt354 => (some (bt354.1, bt341.2.1, bt341.2.2.1, bt341.2.2.2.1, bt354.2.1, bt354.2.2))) else (if bt348.1 = 1 then ((spec_l1Int.f s0_0 bt348.2.1 bt348.2.2 (([0, 2, 4] : List Int))).bind fun bt360 => (some (bt341.1, bt360.1, bt341.2.2.1, bt341.2.2.2.1, bt360.2.1, bt360.2.2))) else (if bt348.1 = 2 then ((spec_l4Raw.f s0_0 bt348.2.1 bt348.2.2).bind fun bt363 => (some (bt341.1, bt341.2.1, bt363.1, bt341.2.2.2.1, bt363.2.1, bt363.2.2))) else (if bt348.1 = 3 then ((spec_l4Raw.f s0_0 bt348.2.1 bt348.2.2).bind fun bt366 => (some (bt341.1, bt341.2.1, bt341.2.2.1, bt366.1, bt366.2.1, bt366.2.2))) else (some (bt341.1, bt341.2.1, bt341.2.2.1, bt341.2.2.2.1, bt348.2.1, bt348.2.2))))))))) = some (r1, r2, r3, r4, r5, r6) := h
 clear h
 obtain ⟨⟨t338, t339, t340⟩, A2, H⟩ := bindE H
 try dsimp only at H
 obtain ⟨⟨t341, t342, t343, t344, t345, t346⟩, A3, H⟩ := bindE H
 try dsimp only at H
 obtain ⟨⟨t348, t349, t350⟩, A4, H⟩ := bindE H
 try dsimp only at H
 go_enter Try.func152, Try.ntmps152
 go_upto_region 3 with (first | ((with_reducible refine gate_dst (N := 2) rfl ?_); refine bE (N := 2) (cs := #[.int .i64 0, .int .i64 0, .int .i64 0, .int .i64 0]) (t := 50) ?_; intro gb337 hg w7 hbox hb; have n0_ := Aside0.mk (IsS138.below (by exact sI1380 HI0.out) hb); have n1_ := Aside0.mk (KeepBut.trans (by exact sK0 HK.out) (KeepBut.of_below hb g none) (.inl rfl)); have n2_ := Aside0.mk (below_step (by exact sB1 HB.out (IsS138.ge HI0.out)) hb); have n3_ := Aside0.mk (hbox); have n4_ := Aside0.mk ((by rw [hg]; exact (keep_size (w := w) (g := g) (row := none) (by exact sK0 HK.out)) : w.heap.size ≤ gb337)); have n5_ := Aside0.mk ((Nat.le_trans HW0.out (by rw [hg]; exact (keep_size (w := w) (g := g) (row := none) (by exact sK0 HK.out)) : w.heap.size ≤ gb337) : w0.heap.size ≤ gb337)); have n6_ := Aside0.mk ((by rw [hg]; exact Nat.ne_of_lt (IsS138.lt (show IsS138 w0 _ g s0_0 s0_1 s0_2 from by exact sI1380 HI0.out)) : g ≠ gb337)); have n7_ := Aside0.mk ((by rw [hg]; exact Nat.ne_of_gt (IsS138.lt (show IsS138 w0 _ g s0_0 s0_1 s0_2 from by exact sI1380 HI0.out)) : gb337 ≠ g)); clear HI0; clear HK; clear HB; have HI0 := n0_; have HK := n1_; have HB := n2_; have BK337 := n3_; have GW337 := n4_; have GE337 := n5_; have NB0_337 := n6_; have NB337_0 := n7_; clear n0_ n1_ n2_ n3_ n4_ n5_ n6_ n7_; clear hb hbox hg) | ((with_reducible refine gate_callee (f := 84) rfl ?_); refine gL (some 6) Try.func84 #[.pointer (some ⟨g, 0, none⟩), .int .i64 20] ?_; (with_reducible refine (spec_l1Below.calls g s0_0 s0_1 s0_2 20 t338 t339 t340 w0 _ ?_ ?_ A2.out).mono ?_); exact sI1381 HI0.out NB0_337.out; exact sB2 HB.out (IsS138.ge HI0.out) GE337.out; rintro e w8 ⟨rfl, hi, hb, hk⟩; refine ⟨_, rfl, ?_⟩; replace BK337 := Aside0.mk (KeepBut.blk hk (g' := gb337) (o := .cells #[.int .i64 0, .int .i64 0, .int .i64 0, .int .i64 0] 50 (0, 0)) (bK BK337) NB337_0.out (by simp)); replace HK := Aside0.mk (KeepBut.trans (by exact sK1 HK.out GW337.out) hk (.inl rfl)); replace HB := Aside0.mk (hb); replace HI0 := Aside0.mk (hi); (try clear hb); (try clear hk); (try clear hi)) | ((with_reducible refine gate_callee (f := 174) rfl ?_); refine gL (some 8) Try.func174 #[.pointer (some ⟨g, 0, none⟩), .int .i64 (wrap64 (1 + t338))] ?_; (with_reducible refine (spec_l4Draw.calls g s0_0 t339 t340 (wrap64 (1 + t338)) t341 t342 t343 t344 t345 t346 w0 _ ?_ ?_ A3.out).mono ?_); exact sI1381 HI0.out NB0_337.out; exact sB2 HB.out (IsS138.ge HI0.out) GE337.out; rintro e w9 ⟨rfl, hi, hb, hk⟩; refine ⟨_, rfl, ?_⟩; replace BK337 := Aside0.mk (KeepBut.blk hk (g' := gb337) (o := .cells #[.int .i64 0, .int .i64 0, .int .i64 0, .int .i64 0] 50 (0, 0)) (bK BK337) NB337_0.out (by simp)); replace HK := Aside0.mk (KeepBut.trans (by exact sK1 HK.out GW337.out) hk (.inl rfl)); replace HB := Aside0.mk (hb); replace HI0 := Aside0.mk (hi); (try clear hb); (try clear hk); (try clear hi)) | ((with_reducible refine gate_dst (N := 3) rfl ?_); refine bE (N := 3) (cs := #[.int .i64 0, .int .i64 0, .int .i64 0, .int .i64 0]) (t := 50) ?_; intro gb347 hg w10 hbox hb; have n0_ := Aside0.mk (IsS138.below (by exact sI1381 HI0.out NB0_337.out) hb); have n1_ := kb BK337 hb; have n2_ := Aside0.mk (KeepBut.trans (by exact sK1 HK.out GW337.out) (KeepBut.of_below hb g none) (.inl rfl)); have n3_ := Aside0.mk (below_step (by exact sB2 HB.out (IsS138.ge HI0.out) GE337.out) hb); have n4_ := Aside0.mk (hbox); have n5_ := Aside0.mk ((by rw [hg]; exact (keep_size (w := w) (g := g) (row := none) (by exact sK1 HK.out GW337.out)) : w.heap.size ≤ gb347)); have n6_ := Aside0.mk ((Nat.le_trans HW0.out (by rw [hg]; exact (keep_size (w := w) (g := g) (row := none) (by exact sK1 HK.out GW337.out)) : w.heap.size ≤ gb347) : w0.heap.size ≤ gb347)); have n7_ := nl BK337 hg; have n8_ := nr BK337 hg; have n9_ := Aside0.mk ((by rw [hg]; exact Nat.ne_of_lt (IsS138.lt (show IsS138 w0 _ g s0_0 t345 t346 from by exact sI1381 HI0.out NB0_337.out)) : g ≠ gb347)); have n10_ := Aside0.mk ((by rw [hg]; exact Nat.ne_of_gt (IsS138.lt (show IsS138 w0 _ g s0_0 t345 t346 from by exact sI1381 HI0.out NB0_337.out)) : gb347 ≠ g)); clear HI0; clear BK337; clear HK; clear HB; have HI0 := n0_; have BK337 := n1_; have HK := n2_; have HB := n3_; have BK347 := n4_; have GW347 := n5_; have GE347 := n6_; have NB337_347 := n7_; have NB347_337 := n8_; have NB0_347 := n9_; have NB347_0 := n10_; clear n0_ n1_ n2_ n3_ n4_ n5_ n6_ n7_ n8_ n9_ n10_; clear hb hbox hg; have hnb11 := NB347_337.out; have hnc11 := NB337_347.out; have hnb12 := NB347_0.out; have hnc12 := NB0_347.out; obtain ⟨_, _, _, _, _, _, _, _⟩ := blkc4 BK347) | ((with_reducible refine gate_callee (f := 84) rfl ?_); refine gL (some 10) Try.func84 #[.pointer (some ⟨g, 0, none⟩), .int .i64 10] ?_; (with_reducible refine (spec_l1Below.calls g s0_0 t345 t346 10 t348 t349 t350 w0 _ ?_ ?_ A4.out).mono ?_); exact sI1382 HI0.out NB0_337.out NB0_347.out; exact sB3 HB.out (IsS138.ge HI0.out) GE337.out GE347.out; rintro e w14 ⟨rfl, hi, hb, hk⟩; refine ⟨_, rfl, ?_⟩; replace BK337 := Aside0.mk (KeepBut.blk hk (g' := gb337) (o := .cells #[.int .i64 0, .int .i64 0, .int .i64 0, .int .i64 0] 50 (0, 0)) (kf BK337 NB337_347) NB337_0.out (by simp)); replace BK347 := Aside0.mk (KeepBut.blk hk (g' := gb347) (o := .cells #[.int .i64 t341, .int .i64 t342, .int .i64 t343, .int .i64 t344] 50 (0, 0)) (kp BK347) NB347_0.out (by simp)); replace HK := Aside0.mk (KeepBut.trans (by exact sK2 HK.out GW337.out GW347.out) hk (.inl rfl)); replace HB := Aside0.mk (hb); replace HI0 := Aside0.mk (hi); (try clear hb); (try clear hk); (try clear hi)))
 by_cases c5 : t348 = 0
 ·
  rw [if_pos c5] at H
  have c5b0 : (t348 == 0) = true := beq_iff_eq.mpr c5
  have c5b1 : (t348 != 0) = false := bne_eq_false_iff_eq.mpr c5
  clear c5
  obtain ⟨y351, hy351⟩ : ∃ y_ : List Int, y_ = (([0, 20, 21] : List Int)) := ⟨_, rfl⟩
  replace H : ((spec_l1Int.f s0_0 t349 t350 y351).bind fun bt354 => (some (bt354.1, t342, t343, t344, bt354.2.1, bt354.2.2))) = some (r1, r2, r3, r4, r5, r6) := rH H hy351
  have Ny351 := Aside0.mk hy351
  clear hy351
  obtain ⟨⟨t354, t355, t356⟩, A6, H⟩ := bindE H
  try dsimp only at H
  simp only [Option.some.injEq, Prod.mk.injEq] at H
  obtain ⟨rfl, rfl, rfl, rfl, rfl, rfl⟩ := H
  go_wp2_with (first | ((with_reducible refine gate_dst (N := 14) rfl ?_); refine Kd.R_lit (Kd.int .i64) _ 3 ?hg (N := 14) ?hd (xs := ([0, 20, 21] : List Int)) (inner := [.int .i64 0, .int .i64 20, .int .i64 21]) (ok := fun _ => True) (okp := fun _ => True) ?hr ?hp (fun _ hk => hk) trivial (Below.refl _ _) (Nat.le_refl _) (by simp) ?_; (case hd => rfl); (case hg => rfl); (case hr => first | (go_simp; done) | (go_simp; rfl)); (case hp => exact (Reps.one (show Kd.M (Kd.int .i64) _ _ _ 0 [.int .i64 0] from rfl) (Reps.one (show Kd.M (Kd.int .i64) _ _ _ 20 [.int .i64 20] from rfl) (Reps.one (show Kd.M (Kd.int .i64) _ _ _ 21 [.int .i64 21] from rfl) (Reps.none _ _))))); intro v352 w15 ho16 hb hg_ hnew_; clear hg_ hnew_; (first | rw [← Ny351.out] at ho16 | (simp only [Int.reduceToNat] at ho16; rw [← Ny351.out] at ho16)); have HO353 := Aside0.mk (Kd.R_lower ho16 (keep_size (w := w) (g := g) (row := none) (by exact sK2 HK.out GW337.out GW347.out))); replace BK337 := kb BK337 hb; replace BK347 := kb BK347 hb; replace HK := Aside0.mk (KeepBut.trans (by exact sK2 HK.out GW337.out GW347.out) (KeepBut.of_below hb g none) (.inl rfl)); replace HB := Aside0.mk (below_step (by exact sB3 HB.out (IsS138.ge HI0.out) GE337.out GE347.out) hb); replace HI0 := Aside0.mk (IsS138.below (by exact sI1382 HI0.out NB0_337.out NB0_347.out) hb); clear hb ho16; obtain ⟨Ao17, co17, eo17⟩ := Kd.R_slice HO353.out; subst eo17) | ((with_reducible refine gate_callee (f := 94) rfl ?_); refine gL (some 15) Try.func94 #[.pointer (some ⟨g, 0, none⟩), .slice Ao17 y351.length co17] ?_; (with_reducible refine (spec_l1Int.calls g s0_0 t349 t350 _ _ y351 t354 t355 t356 w0 _ ?_ ?_ ?_ ?_ ?_ A6.out).mono ?_); exact sI1382 HI0.out NB0_337.out NB0_347.out; exact sB3 HB.out (IsS138.ge HI0.out) GE337.out GE347.out; exact cO ⟨(Kd.R_reads' HO353.out).2.2⟩; exact (Kd.R_reads' HO353.out).2.1; exact far_slice (IsS138.own_ne HI0.out HO353.out (by decide)); rintro e w18 ⟨rfl, hi, hb, hk⟩; refine ⟨_, rfl, ?_⟩; replace BK337 := Aside0.mk (KeepBut.blk hk (g' := gb337) (o := .cells #[.int .i64 0, .int .i64 0, .int .i64 0, .int .i64 0] 50 (0, 0)) (bK BK337) NB337_0.out (by simp)); replace BK347 := Aside0.mk (KeepBut.blk hk (g' := gb347) (o := .cells #[.int .i64 t341, .int .i64 t342, .int .i64 t343, .int .i64 t344] 50 (0, 0)) (bK BK347) NB347_0.out (by simp)); replace HO353 := Aside0.mk (Kd.R_mono (Kd.R_keep (IsS138.apart (show IsS138 w0 _ g s0_0 t349 t350 from by exact sI1382 HI0.out NB0_337.out NB0_347.out) (rK HO353) (by decide)) hk (fun _ h => h.2)) (fun _ h => h.1)); replace HK := Aside0.mk (KeepBut.trans (by exact sK2 HK.out GW337.out GW347.out) hk (.inl rfl)); replace HB := Aside0.mk (hb); replace HI0 := Aside0.mk (hi); (try clear hb); (try clear hk); (try clear hi); obtain ⟨_, _, _, _, _, _, _, _⟩ := blkc4 BK347; have hnb20 := NB337_0.out; have hnc20 := NB0_337.out; obtain ⟨_, _, _, _, _, _, _, _⟩ := blkc4 BK337))
  refine bodyPost_ret (results_cell_row rfl _ _ gb337 50 #[.int .i64 t354, .int .i64 t342, .int .i64 t343, .int .i64 t344] (0, 0) _ rfl (kP BK337 NB337_347) Try.underlying50 rfl (by kernel_rfl)) rfl ?_
  exact ⟨rA, by exact sI1382 HI0.out NB0_337.out NB0_347.out, by exact sB3 HB.out (IsS138.ge HI0.out) GE337.out GE347.out, by exact sK2 HK.out GW337.out GW347.out⟩
 rw [if_neg c5] at H
 have c5b0 : (t348 == 0) = false := beq_eq_false_iff_ne.mpr c5
 have c5b1 : (t348 != 0) = true := bne_iff_ne.mpr c5
 by_cases c22 : t348 = 1
 ·
  rw [if_pos c22] at H
  have c22b0 : (t348 == 1) = true := beq_iff_eq.mpr c22
  have c22b1 : (t348 != 1) = false := bne_eq_false_iff_eq.mpr c22
  clear c22
  obtain ⟨y357, hy357⟩ : ∃ y_ : List Int, y_ = (([0, 2, 4] : List Int)) := ⟨_, rfl⟩
  replace H : ((spec_l1Int.f s0_0 t349 t350 y357).bind fun bt360 => (some (t341, bt360.1, t343, t344, bt360.2.1, bt360.2.2))) = some (r1, r2, r3, r4, r5, r6) := rH H hy357
  have Ny357 := Aside0.mk hy357
  clear hy357
  obtain ⟨⟨t360, t361, t362⟩, A23, H⟩ := bindE H
  try dsimp only at H
  simp only [Option.some.injEq, Prod.mk.injEq] at H
  obtain ⟨rfl, rfl, rfl, rfl, rfl, rfl⟩ := H
  go_wp2_with (first | ((with_reducible refine gate_dst (N := 20) rfl ?_); refine Kd.R_lit (Kd.int .i64) _ 3 ?hg (N := 20) ?hd (xs := ([0, 2, 4] : List Int)) (inner := [.int .i64 0, .int .i64 2, .int .i64 4]) (ok := fun _ => True) (okp := fun _ => True) ?hr ?hp (fun _ hk => hk) trivial (Below.refl _ _) (Nat.le_refl _) (by simp) ?_; (case hd => rfl); (case hg => rfl); (case hr => first | (go_simp; done) | (go_simp; rfl)); (case hp => exact (Reps.one (show Kd.M (Kd.int .i64) _ _ _ 0 [.int .i64 0] from rfl) (Reps.one (show Kd.M (Kd.int .i64) _ _ _ 2 [.int .i64 2] from rfl) (Reps.one (show Kd.M (Kd.int .i64) _ _ _ 4 [.int .i64 4] from rfl) (Reps.none _ _))))); intro v358 w32 ho33 hb hg_ hnew_; clear hg_ hnew_; (first | rw [← Ny357.out] at ho33 | (simp only [Int.reduceToNat] at ho33; rw [← Ny357.out] at ho33)); have HO359 := Aside0.mk (Kd.R_lower ho33 (keep_size (w := w) (g := g) (row := none) (by exact sK2 HK.out GW337.out GW347.out))); replace BK337 := kb BK337 hb; replace BK347 := kb BK347 hb; replace HK := Aside0.mk (KeepBut.trans (by exact sK2 HK.out GW337.out GW347.out) (KeepBut.of_below hb g none) (.inl rfl)); replace HB := Aside0.mk (below_step (by exact sB3 HB.out (IsS138.ge HI0.out) GE337.out GE347.out) hb); replace HI0 := Aside0.mk (IsS138.below (by exact sI1382 HI0.out NB0_337.out NB0_347.out) hb); clear hb ho33; obtain ⟨Ao34, co34, eo34⟩ := Kd.R_slice HO359.out; subst eo34) | ((with_reducible refine gate_callee (f := 94) rfl ?_); refine gL (some 21) Try.func94 #[.pointer (some ⟨g, 0, none⟩), .slice Ao34 y357.length co34] ?_; (with_reducible refine (spec_l1Int.calls g s0_0 t349 t350 _ _ y357 t360 t361 t362 w0 _ ?_ ?_ ?_ ?_ ?_ A23.out).mono ?_); exact sI1382 HI0.out NB0_337.out NB0_347.out; exact sB3 HB.out (IsS138.ge HI0.out) GE337.out GE347.out; exact cO ⟨(Kd.R_reads' HO359.out).2.2⟩; exact (Kd.R_reads' HO359.out).2.1; exact far_slice (IsS138.own_ne HI0.out HO359.out (by decide)); rintro e w35 ⟨rfl, hi, hb, hk⟩; refine ⟨_, rfl, ?_⟩; replace BK337 := Aside0.mk (KeepBut.blk hk (g' := gb337) (o := .cells #[.int .i64 0, .int .i64 0, .int .i64 0, .int .i64 0] 50 (0, 0)) (bK BK337) NB337_0.out (by simp)); replace BK347 := Aside0.mk (KeepBut.blk hk (g' := gb347) (o := .cells #[.int .i64 t341, .int .i64 t342, .int .i64 t343, .int .i64 t344] 50 (0, 0)) (bK BK347) NB347_0.out (by simp)); replace HO359 := Aside0.mk (Kd.R_mono (Kd.R_keep (IsS138.apart (show IsS138 w0 _ g s0_0 t349 t350 from by exact sI1382 HI0.out NB0_337.out NB0_347.out) (rK HO359) (by decide)) hk (fun _ h => h.2)) (fun _ h => h.1)); replace HK := Aside0.mk (KeepBut.trans (by exact sK2 HK.out GW337.out GW347.out) hk (.inl rfl)); replace HB := Aside0.mk (hb); replace HI0 := Aside0.mk (hi); (try clear hb); (try clear hk); (try clear hi); obtain ⟨_, _, _, _, _, _, _, _⟩ := blkc4 BK347; have hnb37 := NB337_0.out; have hnc37 := NB0_337.out; obtain ⟨_, _, _, _, _, _, _, _⟩ := blkc4 BK337))
  refine bodyPost_ret (results_cell_row rfl _ _ gb337 50 #[.int .i64 t341, .int .i64 t360, .int .i64 t343, .int .i64 t344] (0, 0) _ rfl (kP BK337 NB337_347) Try.underlying50 rfl (by kernel_rfl)) rfl ?_
  exact ⟨rA, by exact sI1382 HI0.out NB0_337.out NB0_347.out, by exact sB3 HB.out (IsS138.ge HI0.out) GE337.out GE347.out, by exact sK2 HK.out GW337.out GW347.out⟩
 rw [if_neg c22] at H
 have c22b0 : (t348 == 1) = false := beq_eq_false_iff_ne.mpr c22
 have c22b1 : (t348 != 1) = true := bne_iff_ne.mpr c22
 by_cases c39 : t348 = 2
 ·
  rw [if_pos c39] at H
  have c39b0 : (t348 == 2) = true := beq_iff_eq.mpr c39
  have c39b1 : (t348 != 2) = false := bne_eq_false_iff_eq.mpr c39
  clear c39
  obtain ⟨⟨t363, t364, t365⟩, A40, H⟩ := bindE H
  try dsimp only at H
  simp only [Option.some.injEq, Prod.mk.injEq] at H
  obtain ⟨rfl, rfl, rfl, rfl, rfl, rfl⟩ := H
  go_wp2_with (first | ((with_reducible refine gate_callee (f := 129) rfl ?_); refine gL (some 26) Try.func129 #[.pointer (some ⟨g, 0, none⟩)] ?_; (with_reducible refine (spec_l4Raw.calls g s0_0 t349 t350 t363 t364 t365 w0 _ ?_ ?_ A40.out).mono ?_); exact sI1382 HI0.out NB0_337.out NB0_347.out; exact sB3 HB.out (IsS138.ge HI0.out) GE337.out GE347.out; rintro e w49 ⟨rfl, hi, hb, hk⟩; refine ⟨_, rfl, ?_⟩; replace BK337 := Aside0.mk (KeepBut.blk hk (g' := gb337) (o := .cells #[.int .i64 0, .int .i64 0, .int .i64 0, .int .i64 0] 50 (0, 0)) (bK BK337) NB337_0.out (by simp)); replace BK347 := Aside0.mk (KeepBut.blk hk (g' := gb347) (o := .cells #[.int .i64 t341, .int .i64 t342, .int .i64 t343, .int .i64 t344] 50 (0, 0)) (bK BK347) NB347_0.out (by simp)); replace HK := Aside0.mk (KeepBut.trans (by exact sK2 HK.out GW337.out GW347.out) hk (.inl rfl)); replace HB := Aside0.mk (hb); replace HI0 := Aside0.mk (hi); (try clear hb); (try clear hk); (try clear hi); obtain ⟨_, _, _, _, _, _, _, _⟩ := blkc4 BK347; have hnb51 := NB337_0.out; have hnc51 := NB0_337.out; obtain ⟨_, _, _, _, _, _, _, _⟩ := blkc4 BK337))
  refine bodyPost_ret (results_cell_row rfl _ _ gb337 50 #[.int .i64 t341, .int .i64 t342, .int .i64 t363, .int .i64 t344] (0, 0) _ rfl (kP BK337 NB337_347) Try.underlying50 rfl (by kernel_rfl)) rfl ?_
  exact ⟨rA, by exact sI1382 HI0.out NB0_337.out NB0_347.out, by exact sB3 HB.out (IsS138.ge HI0.out) GE337.out GE347.out, by exact sK2 HK.out GW337.out GW347.out⟩
 rw [if_neg c39] at H
 have c39b0 : (t348 == 2) = false := beq_eq_false_iff_ne.mpr c39
 have c39b1 : (t348 != 2) = true := bne_iff_ne.mpr c39
 by_cases c53 : t348 = 3
 ·
  rw [if_pos c53] at H
  have c53b0 : (t348 == 3) = true := beq_iff_eq.mpr c53
  have c53b1 : (t348 != 3) = false := bne_eq_false_iff_eq.mpr c53
  clear c53
  obtain ⟨⟨t366, t367, t368⟩, A54, H⟩ := bindE H
  try dsimp only at H
  simp only [Option.some.injEq, Prod.mk.injEq] at H
  obtain ⟨rfl, rfl, rfl, rfl, rfl, rfl⟩ := H
  go_wp2_with (first | ((with_reducible refine gate_callee (f := 129) rfl ?_); refine gL (some 31) Try.func129 #[.pointer (some ⟨g, 0, none⟩)] ?_; (with_reducible refine (spec_l4Raw.calls g s0_0 t349 t350 t366 t367 t368 w0 _ ?_ ?_ A54.out).mono ?_); exact sI1382 HI0.out NB0_337.out NB0_347.out; exact sB3 HB.out (IsS138.ge HI0.out) GE337.out GE347.out; rintro e w63 ⟨rfl, hi, hb, hk⟩; refine ⟨_, rfl, ?_⟩; replace BK337 := Aside0.mk (KeepBut.blk hk (g' := gb337) (o := .cells #[.int .i64 0, .int .i64 0, .int .i64 0, .int .i64 0] 50 (0, 0)) (bK BK337) NB337_0.out (by simp)); replace BK347 := Aside0.mk (KeepBut.blk hk (g' := gb347) (o := .cells #[.int .i64 t341, .int .i64 t342, .int .i64 t343, .int .i64 t344] 50 (0, 0)) (bK BK347) NB347_0.out (by simp)); replace HK := Aside0.mk (KeepBut.trans (by exact sK2 HK.out GW337.out GW347.out) hk (.inl rfl)); replace HB := Aside0.mk (hb); replace HI0 := Aside0.mk (hi); (try clear hb); (try clear hk); (try clear hi); obtain ⟨_, _, _, _, _, _, _, _⟩ := blkc4 BK347; have hnb65 := NB337_0.out; have hnc65 := NB0_337.out; obtain ⟨_, _, _, _, _, _, _, _⟩ := blkc4 BK337))
  refine bodyPost_ret (results_cell_row rfl _ _ gb337 50 #[.int .i64 t341, .int .i64 t342, .int .i64 t343, .int .i64 t366] (0, 0) _ rfl (kP BK337 NB337_347) Try.underlying50 rfl (by kernel_rfl)) rfl ?_
  exact ⟨rA, by exact sI1382 HI0.out NB0_337.out NB0_347.out, by exact sB3 HB.out (IsS138.ge HI0.out) GE337.out GE347.out, by exact sK2 HK.out GW337.out GW347.out⟩
 rw [if_neg c53] at H
 have c53b0 : (t348 == 3) = false := beq_eq_false_iff_ne.mpr c53
 have c53b1 : (t348 != 3) = true := bne_iff_ne.mpr c53
 simp only [Option.some.injEq, Prod.mk.injEq] at H
 obtain ⟨rfl, rfl, rfl, rfl, rfl, rfl⟩ := H
 obtain ⟨_, _, _, _, _, _, _, _⟩ := blkc4 BK347
 have hnb76 := NB337_0.out
 have hnc76 := NB0_337.out
 obtain ⟨_, _, _, _, _, _, _, _⟩ := blkc4 BK337
 go_wp2
 refine bodyPost_ret (results_cell_row rfl _ _ gb337 50 #[.int .i64 t341, .int .i64 t342, .int .i64 t343, .int .i64 t344] (0, 0) _ rfl (kp BK337) Try.underlying50 rfl (by kernel_rfl)) rfl ?_
 exact ⟨rA, by exact sI1382 HI0.out NB0_337.out NB0_347.out, by exact sB3 HB.out (IsS138.ge HI0.out) GE337.out GE347.out, by exact sK2 HK.out GW337.out GW347.out⟩

/-! ### spec_l5Any: function 125 -/
def spec_l5Any.f (k : Nat) (s0_0 : List Int) (s0_1 : Int) (s0_2 : Int) : Option ((List (S50)) × Int × Int) := (spec_l5Draw.f k s0_0 s0_1 s0_2).bind fun bt369 => ((spec_l1Once.f s0_0 bt369.2.1 bt369.2.2 6).bind fun bt374 => (if bt374.1 = true then ((spec_l1Below.f s0_0 bt374.2.1 bt374.2.2 (bt369.1.length : Int)).bind fun bt377 => ((spec_l4Any.f s0_0 bt377.2.1 bt377.2.2).bind fun bt380 => (if 0 ≤ bt377.1 then (if bt377.1 < (bt369.1.length : Int) then (some ((bt369.1.set (bt377.1 : Int).toNat (⟨bt380.1, bt380.2.1, bt380.2.2.1, bt380.2.2.2.1⟩ : S50)), bt380.2.2.2.2.1, bt380.2.2.2.2.2)) else (none)) else (none)))) else (some (bt369.1, bt374.2.1, bt374.2.2))))
theorem spec_l5Any.mono : ∀ a0 a1 a2 k, LeO (spec_l5Any.f k a0 a1 a2) (spec_l5Any.f (k + 1) a0 a1 a2) := by
 intro a0 a1 a2 k
 unfold spec_l5Any.f
 exact mz1 spec_l5Draw.mono
set_option maxHeartbeats 8000000 in
set_option maxRecDepth 100000 in
theorem spec_l5Any.calls (k : Nat) (g : Nat) (s0_0 : List Int) (s0_1 : Int) (s0_2 : Int) (r1 : List (S50)) (r2 : Int) (r3 : Int) (w0 w : World) (hI : IsS138 w0 w g s0_0 s0_1 s0_2) (hB : Below w0.heap.size w0 w) (h : spec_l5Any.f k s0_0 s0_1 s0_2 = some (r1, r2, r3)) :
  Calls Try.prog 125 #[.pointer (some ⟨g, 0, none⟩)] w fun e w' => ∃ v0_ : Value, e = .returned (v0_) ∧ Kd.R k50 50 w' w.heap.size (fun _ => True) v0_ r1 ∧ IsS138 w0 w' g s0_0 r2 r3 ∧ Below w0.heap.size w0 w' ∧ KeepBut w w' g none := by
 have hu50 := Try.underlying50
 have HI0 := Aside0.mk hI
 have HK := Aside0.mk (KeepBut.refl w g none)
 have HL := Aside0.mk hB.size
 clear hI
 have HW0 := Aside0.mk hB.size
 have HB := Aside0.mk hB
 clear hB
 have H : ((spec_l5Draw.f k s0_0 s0_1 s0_2).bind fun bt369 => ((spec_l1Once.f s0_0 bt369.2.1 bt369.2.2 6).bind fun bt374 => (if bt374.1 = true then ((spec_l1Below.f s0_0 bt374.2.1 bt374.2.2 (bt369.1.length : Int)).bind fun bt377 => ((spec_l4Any.f s0_0 bt377.2.1 bt377.2.2).bind fun bt380 => (if 0 ≤ bt377.1 then (if bt377.1 < (bt369.1.length : Int) then (some ((bt369.1.set (bt377.1 : Int).toNat (⟨bt380.1, bt380.2.1, bt380.2.2.1, bt380.2.2.2.1⟩ : S50)), bt380.2.2.2.2.1, bt380.2.2.2.2.2)) else (none)) else (none)))) else (some (bt369.1, bt374.2.1, bt374.2.2))))) = some (r1, r2, r3) := h
 clear h
 obtain ⟨⟨t369, t372, t373⟩, A2, H⟩ := bindE H
 try dsimp only at H
 obtain ⟨⟨t374, t375, t376⟩, A3, H⟩ := bindE H
 try dsimp only at H
 by_cases c4 : t374 = true
 ·
  subst c4
  have H1 : ((spec_l1Below.f s0_0 t375 t376 (t369.length : Int)).bind fun bt377 => ((spec_l4Any.f s0_0 bt377.2.1 bt377.2.2).bind fun bt380 => (if 0 ≤ bt377.1 then (if bt377.1 < (t369.length : Int) then (some ((t369.set (bt377.1 : Int).toNat (⟨bt380.1, bt380.2.1, bt380.2.2.1, bt380.2.2.2.1⟩ : S50)), bt380.2.2.2.2.1, bt380.2.2.2.2.2)) else (none)) else (none)))) = some (r1, r2, r3) := by rw [if_pos rfl] at H; exact H
  clear H
  have H := H1
  clear H1
  obtain ⟨⟨t377, t378, t379⟩, A5, H⟩ := bindE H
  try dsimp only at H
  obtain ⟨⟨t380, t381, t382, t383, t384, t385⟩, A6, H⟩ := bindE H
  try dsimp only at H
  have c7 : 0 ≤ t377 := ifN H
  replace H := ifT H
  have c7b0 := decide_eq_true c7
  clear c7
  have c8 : t377 < (t369.length : Int) := ifN H
  replace H := ifT H
  have c8b0 := decide_eq_true c8
  clear c8
  obtain ⟨y386, hy386⟩ : ∃ y_ : List (S50), y_ = (t369.set (t377 : Int).toNat (⟨t380, t381, t382, t383⟩ : S50)) := ⟨_, rfl⟩
  replace H : (some (y386, t384, t385)) = some (r1, r2, r3) := rH H hy386
  have Ny386 := Aside0.mk hy386
  clear hy386
  simp only [Option.some.injEq, Prod.mk.injEq] at H
  obtain ⟨rfl, rfl, rfl⟩ := H
  go_enter Try.func125, Try.ntmps125
  go_wp2_with (first | ((with_reducible refine gate_callee (f := 150) rfl ?_); refine gL (some 5) Try.func150 #[.pointer (some ⟨g, 0, none⟩)] ?_; (with_reducible refine (spec_l5Draw.calls k g s0_0 s0_1 s0_2 t369 t372 t373 w0 _ ?_ ?_ A2.out).mono ?_); exact sI1380 HI0.out; exact sB1 HB.out (IsS138.ge HI0.out); rintro e w10 ⟨v370, rfl, ho0, hi, hb, hk⟩; refine ⟨_, rfl, ?_⟩; have HO371 := Aside0.mk (Kd.R_lower ho0 (keep_size (w := w) (g := g) (row := none) (by exact sK0 HK.out))); replace HK := Aside0.mk (KeepBut.trans (by exact sK0 HK.out) hk (.inl rfl)); replace HB := Aside0.mk (hb); replace HI0 := Aside0.mk (hi); (try clear hb); (try clear hk); (try clear hi); (try clear ho0)) | ((with_reducible refine gate_callee (f := 93) rfl ?_); refine gL (some 7) Try.func93 #[.pointer (some ⟨g, 0, none⟩), .int .i64 6] ?_; (with_reducible refine (spec_l1Once.calls g s0_0 t372 t373 6 true t375 t376 w0 _ ?_ ?_ A3.out).mono ?_); exact sI1380 HI0.out; exact sB1 HB.out (IsS138.ge HI0.out); rintro e w11 ⟨rfl, hi, hb, hk⟩; refine ⟨_, rfl, ?_⟩; replace HO371 := Aside0.mk (Kd.R_mono (Kd.R_keep (IsS138.apart (show IsS138 w0 _ g s0_0 t372 t373 from by exact sI1380 HI0.out) (rK HO371) (by decide)) hk (fun _ h => h.2)) (fun _ h => h.1)); replace HK := Aside0.mk (KeepBut.trans (by exact sK0 HK.out) hk (.inl rfl)); replace HB := Aside0.mk (hb); replace HI0 := Aside0.mk (hi); (try clear hb); (try clear hk); (try clear hi); obtain ⟨Ao12, co12, eo12⟩ := Kd.R_slice HO371.out; subst eo12) | ((with_reducible refine gate_callee (f := 84) rfl ?_); refine gL (some 12) Try.func84 #[.pointer (some ⟨g, 0, none⟩), .int .i64 (t369.length : Int)] ?_; (with_reducible refine (spec_l1Below.calls g s0_0 t375 t376 (t369.length : Int) t377 t378 t379 w0 _ ?_ ?_ A5.out).mono ?_); exact sI1380 HI0.out; exact sB1 HB.out (IsS138.ge HI0.out); rintro e w13 ⟨rfl, hi, hb, hk⟩; refine ⟨_, rfl, ?_⟩; replace HO371 := Aside0.mk (Kd.R_mono (Kd.R_keep (IsS138.apart (show IsS138 w0 _ g s0_0 t375 t376 from by exact sI1380 HI0.out) (rK HO371) (by decide)) hk (fun _ h => h.2)) (fun _ h => h.1)); replace HK := Aside0.mk (KeepBut.trans (by exact sK0 HK.out) hk (.inl rfl)); replace HB := Aside0.mk (hb); replace HI0 := Aside0.mk (hi); (try clear hb); (try clear hk); (try clear hi)) | ((with_reducible refine gate_callee (f := 152) rfl ?_); refine gL (some 14) Try.func152 #[.pointer (some ⟨g, 0, none⟩)] ?_; (with_reducible refine (spec_l4Any.calls g s0_0 t378 t379 t380 t381 t382 t383 t384 t385 w0 _ ?_ ?_ A6.out).mono ?_); exact sI1380 HI0.out; exact sB1 HB.out (IsS138.ge HI0.out); rintro e w14 ⟨rfl, hi, hb, hk⟩; refine ⟨_, rfl, ?_⟩; replace HO371 := Aside0.mk (Kd.R_mono (Kd.R_keep (IsS138.apart (show IsS138 w0 _ g s0_0 t378 t379 from by exact sI1380 HI0.out) (rK HO371) (by decide)) hk (fun _ h => h.2)) (fun _ h => h.1)); replace HK := Aside0.mk (KeepBut.trans (by exact sK0 HK.out) hk (.inl rfl)); replace HB := Aside0.mk (hb); replace HI0 := Aside0.mk (hi); (try clear hb); (try clear hk); (try clear hi); have p9 : 0 ≤ (t377 : Int) := dA; have q9 : (t377 : Int) < ((t369.length : Int) : Int) := dA; obtain ⟨go9, co9, eo9, gb9, gl9, cl9, HG9⟩ := Kd.R_form HO371.out (by omega); (first | cases eo9 | (injection eo9 with ea_ en_ ec_; (first | subst ea_ | (injection ea_ with ea_; subst ea_)); subst ec_; clear en_)); have GB9 := Aside0.mk gb9; have GG9 := Aside0.mk HG9; clear gb9 gl9 HG9; obtain ⟨ce9, hcl9, hM9, hcc9, hfr9⟩ := Kd.R_elem HO371.out z50 (t377 : Int) p9 q9; obtain rfl := k50_openM hM9; have hx9_0 : w14.cell? ⟨go9, (t377 : Int).toNat * 4, none⟩ = some (.int .i64 ((rd_T50 t369 t377).f0)) := hcc9 0 _ rfl; have hx9_1 : w14.cell? ⟨go9, (t377 : Int).toNat * 4 + 1, none⟩ = some (.int .i64 ((rd_T50 t369 t377).f1)) := hcc9 1 _ rfl; have hx9_2 : w14.cell? ⟨go9, (t377 : Int).toNat * 4 + 2, none⟩ = some (.int .i64 ((rd_T50 t369 t377).f2)) := hcc9 2 _ rfl; have hx9_3 : w14.cell? ⟨go9, (t377 : Int).toNat * 4 + 3, none⟩ = some (.int .i64 ((rd_T50 t369 t377).f3)) := hcc9 3 _ rfl; have hf9_0 : w14.frozen? ⟨go9, (t377 : Int).toNat * 4, none⟩ = false := hfr9 0; have hf9_1 : w14.frozen? ⟨go9, (t377 : Int).toNat * 4 + 1, none⟩ = false := hfr9 1; have hf9_2 : w14.frozen? ⟨go9, (t377 : Int).toNat * 4 + 2, none⟩ = false := hfr9 2; have hf9_3 : w14.frozen? ⟨go9, (t377 : Int).toNat * 4 + 3, none⟩ = false := hfr9 3; clear hcl9 hcc9 hfr9 hM9; replace p9 := eq_true p9; replace q9 := eq_true q9; have HX15 := Aside0.mk (show Kd.R k50 50 w14 w.heap.size (fun _ => True) (.slice (some ⟨go9, 0, none⟩) t369.length co12) t369 from (rK HO371)); obtain ⟨ce15, hcl15, hM15, hcc15, hfr15⟩ := Kd.R_elem HX15.out z50 (t377 : Int) (dA) (by have h_ : (t377 : Int) < ((t369.length : Int) : Int) := dA; first | exact h_ | (have e_ := (Kd.R_reads' HO371.out).1; omega) | simpa using h_); obtain rfl := k50_openM hM15; have HP15 := Kd.R_seg HX15.out (t377 : Int) (dA) (by have h_ : (t377 : Int) < ((t369.length : Int) : Int) := dA; first | exact h_ | (have e_ := (Kd.R_reads' HO371.out).1; omega) | simpa using h_) (seg := [.int .i64 t380, .int .i64 t381, .int .i64 t382, .int .i64 t383]) (j := 0) hcl15 hcc15 (show 4 ≤ 4 from by decide) (x' := (⟨t380, t381, t382, t383⟩ : S50)) (k50_mkM _ _ _ (⟨t380, t381, t382, t383⟩ : S50) ) (fun _ hk => hk); have hx15_0 := hcc15 0 _ rfl; (try simp only [show (k50).sz = 4 from rfl, Nat.mul_one, Nat.add_zero] at hx15_0); have hf15_0 := hfr15 0; (try simp only [show (k50).sz = 4 from rfl, Nat.mul_one, Nat.add_zero] at hf15_0); have hx15_1 := hcc15 1 _ rfl; (try simp only [show (k50).sz = 4 from rfl, Nat.mul_one, Nat.add_zero] at hx15_1); have hf15_1 := hfr15 1; (try simp only [show (k50).sz = 4 from rfl, Nat.mul_one, Nat.add_zero] at hf15_1); have hx15_2 := hcc15 2 _ rfl; (try simp only [show (k50).sz = 4 from rfl, Nat.mul_one, Nat.add_zero] at hx15_2); have hf15_2 := hfr15 2; (try simp only [show (k50).sz = 4 from rfl, Nat.mul_one, Nat.add_zero] at hf15_2); have hx15_3 := hcc15 3 _ rfl; (try simp only [show (k50).sz = 4 from rfl, Nat.mul_one, Nat.add_zero] at hx15_3); have hf15_3 := hfr15 3; (try simp only [show (k50).sz = 4 from rfl, Nat.mul_one, Nat.add_zero] at hf15_3); clear hcl15 hcc15 hfr15 hM15) | ((with_reducible refine gate_store (t := 50) (p := 15) rfl ?_); refine store_event (t := 50) (p := 15) (v := ?vo_w16) (w1 := ((((w14.setCell ⟨go9, (t377 : Int).toNat * 4, none⟩ (.int .i64 t380)).setCell ⟨go9, (t377 : Int).toNat * 4 + 1, none⟩ (.int .i64 t381)).setCell ⟨go9, (t377 : Int).toNat * 4 + 2, none⟩ (.int .i64 t382)).setCell ⟨go9, (t377 : Int).toNat * 4 + 3, none⟩ (.int .i64 t383))) ?hg ?ho ?hn ?hr ?_; (case ho => rfl); (case hg => rfl); (case hn => rfl); (case hr => first | (go_simp; done) | (go_simp; rfl)); intro w16 hw; have hg : w14.grownBy w16 (some go9) := (by rw [hw]; exact HP15.2); have hp_ : Kd.R k50 50 w16 w.heap.size (fun _ => True) (.slice (some ⟨go9, 0, none⟩) t369.length co12) y386 := (by rw [hw, Ny386.out]; exact HP15.1); clear HP15; have n0_ := Aside0.mk (IsS138.grown (by exact sI1380 HI0.out) hg (IsS138.own_ne HI0.out HO371.out (by decide))); have n1_ := Aside0.mk (hp_); have n2_ := Aside0.mk ((by rw [hw]; exact below_set (below_set (below_set (below_set (HB.out) (Nat.le_trans HL.out GB9.out)) (Nat.le_trans HL.out GB9.out)) (Nat.le_trans HL.out GB9.out)) (Nat.le_trans HL.out GB9.out) : Below w0.heap.size w0 w16)); have n3_ := Aside0.mk (KeepBut.trans (by exact sK0 HK.out) (KeepBut.of_grown hg g) (Kd.R_base2 HO371.out)); clear HI0; clear HO371; clear HB; clear HK; have HI0 := n0_; have HO371 := n1_; have HB := n2_; have HK := n3_; clear n0_ n1_ n2_ n3_; clear hg hw hp_))
  go_ret
  exact ⟨_, rA, rK HO371, by exact sI1380 HI0.out, by exact sB1 HB.out (IsS138.ge HI0.out), by exact sK0 HK.out⟩
 replace c4 := Bool.eq_false_iff.mpr c4
 subst c4
 have H1 : (some (t369, t375, t376)) = some (r1, r2, r3) := by rw [if_neg (show ¬ (false = true) by decide)] at H; exact H
 clear H
 have H := H1
 clear H1
 simp only [Option.some.injEq, Prod.mk.injEq] at H
 obtain ⟨rfl, rfl, rfl⟩ := H
 go_enter Try.func125, Try.ntmps125
 go_wp2_with (first | ((with_reducible refine gate_callee (f := 150) rfl ?_); refine gL (some 5) Try.func150 #[.pointer (some ⟨g, 0, none⟩)] ?_; (with_reducible refine (spec_l5Draw.calls k g s0_0 s0_1 s0_2 t369 t372 t373 w0 _ ?_ ?_ A2.out).mono ?_); exact sI1380 HI0.out; exact sB1 HB.out (IsS138.ge HI0.out); rintro e w17 ⟨v370, rfl, ho0, hi, hb, hk⟩; refine ⟨_, rfl, ?_⟩; have HO371 := Aside0.mk (Kd.R_lower ho0 (keep_size (w := w) (g := g) (row := none) (by exact sK0 HK.out))); replace HK := Aside0.mk (KeepBut.trans (by exact sK0 HK.out) hk (.inl rfl)); replace HB := Aside0.mk (hb); replace HI0 := Aside0.mk (hi); (try clear hb); (try clear hk); (try clear hi); (try clear ho0)) | ((with_reducible refine gate_callee (f := 93) rfl ?_); refine gL (some 7) Try.func93 #[.pointer (some ⟨g, 0, none⟩), .int .i64 6] ?_; (with_reducible refine (spec_l1Once.calls g s0_0 t372 t373 6 false t375 t376 w0 _ ?_ ?_ A3.out).mono ?_); exact sI1380 HI0.out; exact sB1 HB.out (IsS138.ge HI0.out); rintro e w18 ⟨rfl, hi, hb, hk⟩; refine ⟨_, rfl, ?_⟩; replace HO371 := Aside0.mk (Kd.R_mono (Kd.R_keep (IsS138.apart (show IsS138 w0 _ g s0_0 t372 t373 from by exact sI1380 HI0.out) (rK HO371) (by decide)) hk (fun _ h => h.2)) (fun _ h => h.1)); replace HK := Aside0.mk (KeepBut.trans (by exact sK0 HK.out) hk (.inl rfl)); replace HB := Aside0.mk (hb); replace HI0 := Aside0.mk (hi); (try clear hb); (try clear hk); (try clear hi)))
 go_ret
 exact ⟨_, rA, rK HO371, by exact sI1380 HI0.out, by exact sB1 HB.out (IsS138.ge HI0.out), by exact sK0 HK.out⟩

/-! ### spec_l8Any: function 82 -/
def spec_l8Any.f (k : Nat) (s0_0 : List Int) (s0_1 : Int) (s0_2 : Int) : Option ((List (S50)) × (List (S85)) × Int × Int) := (spec_l8Draw.f k s0_0 s0_1 s0_2).bind fun bt387 => (if (bt387.2.1.length : Int) = 0 then (some (bt387.1, bt387.2.1, bt387.2.2.1, bt387.2.2.2)) else ((spec_l1Below.f s0_0 bt387.2.2.1 bt387.2.2.2 (bt387.2.1.length : Int)).bind fun bt395 => ((spec_l1Below.f s0_0 bt395.2.1 bt395.2.2 10).bind fun bt398 => (if bt398.1 = 0 then ((spec_l1Int.f s0_0 bt398.2.1 bt398.2.2 (([4, 60, 61, 9223372036854775807] : List Int))).bind fun bt404 => (if 0 ≤ bt395.1 then (if bt395.1 < (bt387.2.1.length : Int) then (some (bt387.1, (bt387.2.1.set (bt395.1 : Int).toNat (⟨(rd_T85 bt387.2.1 bt395.1).f0, bt404.1⟩ : S85)), bt404.2.1, bt404.2.2)) else (none)) else (none))) else (if bt398.1 = 1 then (if 0 ≤ bt395.1 then (if bt395.1 < (bt387.2.1.length : Int) then (if 1 ≤ (((rd_T85 bt387.2.1 bt395.1).f0).length : Int) then (some (bt387.1, (bt387.2.1.set (bt395.1 : Int).toNat (⟨(((rd_T85 bt387.2.1 bt395.1).f0).drop 1), (rd_T85 bt387.2.1 bt395.1).f1⟩ : S85)), bt398.2.1, bt398.2.2)) else (none)) else (none)) else (none)) else (if bt398.1 = 2 then ((spec_l5Any.f k s0_0 bt398.2.1 bt398.2.2).bind fun bt415 => (some (bt415.1, bt387.2.1, bt415.2.1, bt415.2.2))) else (if bt398.1 = 3 then (if 1 ≤ (bt387.2.1.length : Int) then (some (bt387.1, (bt387.2.1.drop 1), bt398.2.1, bt398.2.2)) else (none)) else (some (bt387.1, bt387.2.1, bt398.2.1, bt398.2.2)))))))))
theorem spec_l8Any.mono : ∀ a0 a1 a2 k, LeO (spec_l8Any.f k a0 a1 a2) (spec_l8Any.f (k + 1) a0 a1 a2) := by
 intro a0 a1 a2 k
 unfold spec_l8Any.f
 exact mz2 spec_l5Any.mono spec_l8Draw.mono
set_option maxHeartbeats 8000000 in
set_option maxRecDepth 100000 in
theorem spec_l8Any.calls (k : Nat) (g : Nat) (s0_0 : List Int) (s0_1 : Int) (s0_2 : Int) (r1 : List (S50)) (r2 : List (S85)) (r3 : Int) (r4 : Int) (w0 w : World) (hI : IsS138 w0 w g s0_0 s0_1 s0_2) (hB : Below w0.heap.size w0 w) (h : spec_l8Any.f k s0_0 s0_1 s0_2 = some (r1, r2, r3, r4)) :
  Calls Try.prog 82 #[.pointer (some ⟨g, 0, none⟩)] w fun e w' => ∃ v0_ v1_ : Value, e = .returned (.tuple #[v0_, v1_]) ∧ Kd.R k50 50 w' w.heap.size (fun k_ => (w.heap.size ≤ k_)) v0_ r1 ∧ Kd.V k85 85 w' w.heap.size (fun k_ => (w.heap.size ≤ k_) ∧ some k_ ≠ (v0_ : Value).ownBlock) v1_ r2 ∧ IsS138 w0 w' g s0_0 r3 r4 ∧ Below w0.heap.size w0 w' ∧ KeepBut w w' g none := by
 have HI0 := Aside0.mk hI
 have HK := Aside0.mk (KeepBut.refl w g none)
 have HL := Aside0.mk hB.size
 clear hI
 have HW0 := Aside0.mk hB.size
 have HB := Aside0.mk hB
 clear hB
 have H : ((spec_l8Draw.f k s0_0 s0_1 s0_2).bind fun bt387 => (if (bt387.2.1.length : Int) = 0 then (some (bt387.1, bt387.2.1, bt387.2.2.1, bt387.2.2.2)) else ((spec_l1Below.f s0_0 bt387.2.2.1 bt387.2.2.2 (bt387.2.1.length : Int)).bind fun bt395 => ((spec_l1Below.f s0_0 bt395.2.1 bt395.2.2 10).bind fun bt398 => (if bt398.1 = 0 then ((spec_l1Int.f s0_0 bt398.2.1 bt398.2.2 (([4, 60, 61, 9223372036854775807] : List Int))).bind fun bt404 => (if 0 ≤ bt395.1 then (if bt395.1 < (bt387.2.1.length : Int) then (some (bt387.1, (bt387.2.1.set (bt395.1 : Int).toNat (⟨(rd_T85 bt387.2.1 bt395.1).f0, bt404.1⟩ : S85)), bt404.2.1, bt404.2.2)) else (none)) else (none))) else (if bt398.1 = 1 then (if 0 ≤ bt395.1 then (if bt395.1 < (bt387.2.1.length : Int) then (if 1 ≤ (((rd_T85 bt387.2.1 bt395.1).f0).length : Int) then (some (bt387.1, (bt387.2.1.set (bt395.1 : Int).toNat (⟨(((rd_T85 bt387.2.1 bt395.1).f0).drop 1), (rd_T85 bt387.2.1 bt395.1).f1⟩ : S85)), bt398.2.1, bt398.2.2)) else (none)) else (none)) else (none)) else (if bt398.1 = 2 then ((spec_l5Any.f k s0_0 bt398.2.1 bt398.2.2).bind fun bt415 => (some (bt415.1, bt387.2.1, bt415.2.1, bt415.2.2))) else (if bt398.1 = 3 then (if 1 ≤ (bt387.2.1.length : Int) then (some (bt387.1, (bt387.2.1.drop 1), bt398.2.1, bt398.2.2)) else (none)) else (some (bt387.1, bt387.2.1, bt398.2.1, bt398.2.2)))))))))) = some (r1, r2, r3, r4) := h
 clear h
 obtain ⟨⟨t387, t390, t393, t394⟩, A2, H⟩ := bindE H
 try dsimp only at H
 by_cases c3 : (t390.length : Int) = 0
 ·
  rw [if_pos c3] at H
  have c3b0 : ((t390.length : Int) == 0) = true := beq_iff_eq.mpr c3
  have c3b1 : ((t390.length : Int) != 0) = false := bne_eq_false_iff_eq.mpr c3
  clear c3
  simp only [Option.some.injEq, Prod.mk.injEq] at H
  obtain ⟨rfl, rfl, rfl, rfl⟩ := H
  go_enter Try.func82, Try.ntmps82
  go_wp2_with (first | ((with_reducible refine gate_callee (f := 124) rfl ?_); refine gL (some 9) Try.func124 #[.pointer (some ⟨g, 0, none⟩)] ?_; (with_reducible refine (spec_l8Draw.calls k g s0_0 s0_1 s0_2 t387 t390 t393 t394 w0 _ ?_ ?_ A2.out).mono ?_); exact sI1380 HI0.out; exact sB1 HB.out (IsS138.ge HI0.out); rintro e w4 ⟨v388, v391, rfl, ho0, ho1, hi, hb, hk⟩; refine ⟨_, rfl, ?_⟩; have HO389 := Aside0.mk (Kd.R_lower (Kd.R_newM (M := fun k_ => (w.heap.size ≤ k_)) ho0 (keep_size (w := w) (g := g) (row := none) (by exact sK0 HK.out)) (fun k_ h_ => h_)) (keep_size (w := w) (g := g) (row := none) (by exact sK0 HK.out))); have HO392 := Aside0.mk (Kd.N_lower (Kd.N_mono (ok' := fun k_ => (w.heap.size ≤ k_) ∧ some k_ ≠ (v388 : Value).ownBlock ∧ k_ ≠ g) (Kd.S_N (Kd.S_bound (Kd.S_apart' ho1 (Kd.R_typed ho0) (by decide)))) (fun k_ hk_ => ⟨(Nat.le_trans (keep_size (w := w) (g := g) (row := none) (by exact sK0 HK.out)) hk_.2.1), hk_.1.2, (IsS138.fresh (by exact sI1380 HI0.out) k_ hk_.2.1)⟩)) (keep_size (w := w) (g := g) (row := none) (by exact sK0 HK.out))); replace HK := Aside0.mk (KeepBut.trans (by exact sK0 HK.out) hk (.inl rfl)); replace HB := Aside0.mk (hb); replace HI0 := Aside0.mk (hi); (try clear hb); (try clear hk); (try clear hi); (try clear ho0); (try clear ho1); obtain ⟨Ao5, co5, eo5⟩ := Kd.N_slice HO392.out; subst eo5))
  go_ret2
  exact ⟨_, _, rA, rm HO389 (fun _ hk => hk.1), Kd.N_V (nm HO392 (fun _ hk => ⟨hk.1, hk.2.1⟩)), by exact sI1380 HI0.out, by exact sB1 HB.out (IsS138.ge HI0.out), by exact sK0 HK.out⟩
 rw [if_neg c3] at H
 have c3b0 : ((t390.length : Int) == 0) = false := beq_eq_false_iff_ne.mpr c3
 have c3b1 : ((t390.length : Int) != 0) = true := bne_iff_ne.mpr c3
 have c3b2 : ¬ (t390 = []) := fun h_ => c3 (by rw [h_]; rfl)
 obtain ⟨⟨t395, t396, t397⟩, A6, H⟩ := bindE H
 try dsimp only at H
 obtain ⟨⟨t398, t399, t400⟩, A7, H⟩ := bindE H
 try dsimp only at H
 by_cases c8 : t398 = 0
 ·
  rw [if_pos c8] at H
  have c8b0 : (t398 == 0) = true := beq_iff_eq.mpr c8
  have c8b1 : (t398 != 0) = false := bne_eq_false_iff_eq.mpr c8
  clear c8
  obtain ⟨y401, hy401⟩ : ∃ y_ : List Int, y_ = (([4, 60, 61, 9223372036854775807] : List Int)) := ⟨_, rfl⟩
  replace H : ((spec_l1Int.f s0_0 t399 t400 y401).bind fun bt404 => (if 0 ≤ t395 then (if t395 < (t390.length : Int) then (some (t387, (t390.set (t395 : Int).toNat (⟨(rd_T85 t390 t395).f0, bt404.1⟩ : S85)), bt404.2.1, bt404.2.2)) else (none)) else (none))) = some (r1, r2, r3, r4) := rH H hy401
  have Ny401 := Aside0.mk hy401
  clear hy401
  obtain ⟨⟨t404, t405, t406⟩, A9, H⟩ := bindE H
  try dsimp only at H
  have c10 : 0 ≤ t395 := ifN H
  replace H := ifT H
  have c10b0 := decide_eq_true c10
  clear c10
  have c11 : t395 < (t390.length : Int) := ifN H
  replace H := ifT H
  have c11b0 := decide_eq_true c11
  clear c11
  obtain ⟨y407, hy407⟩ : ∃ y_ : List (S85), y_ = (t390.set (t395 : Int).toNat (⟨(rd_T85 t390 t395).f0, t404⟩ : S85)) := ⟨_, rfl⟩
  replace H : (some (t387, y407, t405, t406)) = some (r1, r2, r3, r4) := rH H hy407
  have Ny407 := Aside0.mk hy407
  clear hy407
  simp only [Option.some.injEq, Prod.mk.injEq] at H
  obtain ⟨rfl, rfl, rfl, rfl⟩ := H
  go_enter Try.func82, Try.ntmps82
  go_wp2_with (first | ((with_reducible refine gate_callee (f := 124) rfl ?_); refine gL (some 9) Try.func124 #[.pointer (some ⟨g, 0, none⟩)] ?_; (with_reducible refine (spec_l8Draw.calls k g s0_0 s0_1 s0_2 t387 t390 t393 t394 w0 _ ?_ ?_ A2.out).mono ?_); exact sI1380 HI0.out; exact sB1 HB.out (IsS138.ge HI0.out); rintro e w13 ⟨v388, v391, rfl, ho0, ho1, hi, hb, hk⟩; refine ⟨_, rfl, ?_⟩; have HO389 := Aside0.mk (Kd.R_lower (Kd.R_newM (M := fun k_ => (w.heap.size ≤ k_)) ho0 (keep_size (w := w) (g := g) (row := none) (by exact sK0 HK.out)) (fun k_ h_ => h_)) (keep_size (w := w) (g := g) (row := none) (by exact sK0 HK.out))); have HO392 := Aside0.mk (Kd.N_lower (Kd.N_mono (ok' := fun k_ => (w.heap.size ≤ k_) ∧ some k_ ≠ (v388 : Value).ownBlock ∧ k_ ≠ g) (Kd.S_N (Kd.S_bound (Kd.S_apart' ho1 (Kd.R_typed ho0) (by decide)))) (fun k_ hk_ => ⟨(Nat.le_trans (keep_size (w := w) (g := g) (row := none) (by exact sK0 HK.out)) hk_.2.1), hk_.1.2, (IsS138.fresh (by exact sI1380 HI0.out) k_ hk_.2.1)⟩)) (keep_size (w := w) (g := g) (row := none) (by exact sK0 HK.out))); replace HK := Aside0.mk (KeepBut.trans (by exact sK0 HK.out) hk (.inl rfl)); replace HB := Aside0.mk (hb); replace HI0 := Aside0.mk (hi); (try clear hb); (try clear hk); (try clear hi); (try clear ho0); (try clear ho1); obtain ⟨Ao14, co14, eo14⟩ := Kd.N_slice HO392.out; subst eo14) | ((with_reducible refine gate_callee (f := 84) rfl ?_); refine gL (some 20) Try.func84 #[.pointer (some ⟨g, 0, none⟩), .int .i64 (t390.length : Int)] ?_; (with_reducible refine (spec_l1Below.calls g s0_0 t393 t394 (t390.length : Int) t395 t396 t397 w0 _ ?_ ?_ A6.out).mono ?_); exact sI1380 HI0.out; exact sB1 HB.out (IsS138.ge HI0.out); rintro e w15 ⟨rfl, hi, hb, hk⟩; refine ⟨_, rfl, ?_⟩; have n0_ := Aside0.mk (Kd.R_mono (Kd.R_keep (IsS138.apart (show IsS138 w0 _ g s0_0 t393 t394 from by exact sI1380 HI0.out) (rK HO389) (by decide)) hk (fun _ h => h.2)) (fun _ h => h.1)); have n1_ := Aside0.mk (Kd.N_mono (Kd.N_keep (Kd.N_mono (ok := fun k_ => (((w.heap.size ≤ k_)) ∧ (some k_ ≠ (v388 : Value).ownBlock ∧ k_ ≠ g))) (by (with_reducible repeat (first | apply Kd.N_alloc | apply Kd.N_drewN | apply Kd.N_drew)); exact HO392.out) (fun k_ hk_ => (⟨hk_, hk_.2.2⟩ : _ ∧ k_ ≠ g))) hk (fun _ h => h.2)) (fun _ h => h.1)); have n2_ := Aside0.mk (KeepBut.trans (by exact sK0 HK.out) hk (.inl rfl)); have n3_ := Aside0.mk (hb); have n4_ := Aside0.mk (hi); clear HO389; clear HO392; clear HK; clear HB; clear HI0; have HO389 := n0_; have HO392 := n1_; have HK := n2_; have HB := n3_; have HI0 := n4_; clear n0_ n1_ n2_ n3_ n4_; (try clear hb); (try clear hk); (try clear hi)) | ((with_reducible refine gate_callee (f := 84) rfl ?_); refine gL (some 22) Try.func84 #[.pointer (some ⟨g, 0, none⟩), .int .i64 10] ?_; (with_reducible refine (spec_l1Below.calls g s0_0 t396 t397 10 t398 t399 t400 w0 _ ?_ ?_ A7.out).mono ?_); exact sI1380 HI0.out; exact sB1 HB.out (IsS138.ge HI0.out); rintro e w16 ⟨rfl, hi, hb, hk⟩; refine ⟨_, rfl, ?_⟩; have n0_ := Aside0.mk (Kd.R_mono (Kd.R_keep (IsS138.apart (show IsS138 w0 _ g s0_0 t396 t397 from by exact sI1380 HI0.out) (rK HO389) (by decide)) hk (fun _ h => h.2)) (fun _ h => h.1)); have n1_ := Aside0.mk (Kd.N_mono (Kd.N_keep (Kd.N_mono (ok := fun k_ => (((w.heap.size ≤ k_)) ∧ (some k_ ≠ (v388 : Value).ownBlock ∧ k_ ≠ g))) (by (with_reducible repeat (first | apply Kd.N_alloc | apply Kd.N_drewN | apply Kd.N_drew)); exact HO392.out) (fun k_ hk_ => (⟨hk_, hk_.2.2⟩ : _ ∧ k_ ≠ g))) hk (fun _ h => h.2)) (fun _ h => h.1)); have n2_ := Aside0.mk (KeepBut.trans (by exact sK0 HK.out) hk (.inl rfl)); have n3_ := Aside0.mk (hb); have n4_ := Aside0.mk (hi); clear HO389; clear HO392; clear HK; clear HB; clear HI0; have HO389 := n0_; have HO392 := n1_; have HK := n2_; have HB := n3_; have HI0 := n4_; clear n0_ n1_ n2_ n3_ n4_; (try clear hb); (try clear hk); (try clear hi)) | ((with_reducible refine gate_dst (N := 28) rfl ?_); refine Kd.R_lit (Kd.int .i64) _ 3 ?hg (N := 28) ?hd (xs := ([4, 60, 61, 9223372036854775807] : List Int)) (inner := [.int .i64 4, .int .i64 60, .int .i64 61, .int .i64 9223372036854775807]) (ok := fun _ => True) (okp := fun _ => True) ?hr ?hp (fun _ hk => hk) trivial (Below.refl _ _) (Nat.le_refl _) (by simp) ?_; (case hd => rfl); (case hg => rfl); (case hr => first | (go_simp; done) | (go_simp; rfl)); (case hp => exact (Reps.one (show Kd.M (Kd.int .i64) _ _ _ 4 [.int .i64 4] from rfl) (Reps.one (show Kd.M (Kd.int .i64) _ _ _ 60 [.int .i64 60] from rfl) (Reps.one (show Kd.M (Kd.int .i64) _ _ _ 61 [.int .i64 61] from rfl) (Reps.one (show Kd.M (Kd.int .i64) _ _ _ 9223372036854775807 [.int .i64 9223372036854775807] from rfl) (Reps.none _ _)))))); intro v402 w17 ho18 hb hg_ hnew_; clear hg_ hnew_; (first | rw [← Ny401.out] at ho18 | (simp only [Int.reduceToNat] at ho18; rw [← Ny401.out] at ho18)); have n0_ := rb HO389 hb; have n1_ := Aside0.mk (Kd.N_elder' (by (with_reducible repeat (first | apply Kd.N_alloc | apply Kd.N_drewN | apply Kd.N_drew)); exact HO392.out) (Kd.R_base ho18) hb); have n2_ := Aside0.mk (Kd.R_lower (Kd.R_newM (M := fun k_ => (w.heap.size ≤ k_)) ho18 (keep_size (w := w) (g := g) (row := none) (by exact sK0 HK.out)) (fun k_ h_ => h_)) (keep_size (w := w) (g := g) (row := none) (by exact sK0 HK.out))); have n3_ := Aside0.mk (IsS138.below (by exact sI1380 HI0.out) hb); have n4_ := Aside0.mk (KeepBut.trans (by exact sK0 HK.out) (KeepBut.of_below hb g none) (.inl rfl)); have n5_ := Aside0.mk (below_step (by exact sB1 HB.out (IsS138.ge HI0.out)) hb); clear HO389; clear HO392; clear HI0; clear HK; clear HB; have HO389 := n0_; have HO392 := n1_; have HO403 := n2_; have HI0 := n3_; have HK := n4_; have HB := n5_; clear n0_ n1_ n2_ n3_ n4_ n5_; clear hb ho18; obtain ⟨Ao19, co19, eo19⟩ := Kd.R_slice HO403.out; subst eo19) | ((with_reducible refine gate_callee (f := 94) rfl ?_); refine gL (some 29) Try.func94 #[.pointer (some ⟨g, 0, none⟩), .slice Ao19 y401.length co19] ?_; (with_reducible refine (spec_l1Int.calls g s0_0 t399 t400 _ _ y401 t404 t405 t406 w0 _ ?_ ?_ ?_ ?_ ?_ A9.out).mono ?_); exact sI1380 HI0.out; exact sB1 HB.out (IsS138.ge HI0.out); exact cO ⟨(Kd.R_reads' HO403.out).2.2⟩; exact (Kd.R_reads' HO403.out).2.1; exact far_slice (IsS138.own_ne HI0.out HO403.out (by decide)); rintro e w20 ⟨rfl, hi, hb, hk⟩; refine ⟨_, rfl, ?_⟩; have n0_ := Aside0.mk (Kd.R_mono (Kd.R_keep (IsS138.apart (show IsS138 w0 _ g s0_0 t399 t400 from by exact sI1380 HI0.out) (rK HO389) (by decide)) hk (fun _ h => h.2)) (fun _ h => h.1)); have n1_ := Aside0.mk (Kd.N_mono (Kd.N_keep (Kd.N_mono (ok := fun k_ => ((((w.heap.size ≤ k_)) ∧ (some k_ ≠ (v388 : Value).ownBlock ∧ k_ ≠ g)) ∧ some k_ ≠ (.slice Ao19 y401.length co19 : Value).ownBlock)) (by (with_reducible repeat (first | apply Kd.N_alloc | apply Kd.N_drewN | apply Kd.N_drew)); exact HO392.out) (fun k_ hk_ => (⟨hk_, hk_.1.2.2⟩ : _ ∧ k_ ≠ g))) hk (fun _ h => h.2)) (fun _ h => h.1)); have n2_ := Aside0.mk (Kd.R_mono (Kd.R_keep (IsS138.apart (show IsS138 w0 _ g s0_0 t399 t400 from by exact sI1380 HI0.out) (rK HO403) (by decide)) hk (fun _ h => h.2)) (fun _ h => h.1)); have n3_ := Aside0.mk (KeepBut.trans (by exact sK0 HK.out) hk (.inl rfl)); have n4_ := Aside0.mk (hb); have n5_ := Aside0.mk (hi); clear HO389; clear HO392; clear HO403; clear HK; clear HB; clear HI0; have HO389 := n0_; have HO392 := n1_; have HO403 := n2_; have HK := n3_; have HB := n4_; have HI0 := n5_; clear n0_ n1_ n2_ n3_ n4_ n5_; (try clear hb); (try clear hk); (try clear hi); have p12 : 0 ≤ (t395 : Int) := dA; have q12 : (t395 : Int) < ((t390.length : Int) : Int) := dA; obtain ⟨go12, co12, eo12, gb12, gl12, cl12, HG12⟩ := Kd.N_form HO392.out (by omega); (first | cases eo12 | (injection eo12 with ea_ en_ ec_; (first | subst ea_ | (injection ea_ with ea_; subst ea_)); subst ec_; clear en_)); have GB12 := Aside0.mk gb12; have GG12 := Aside0.mk HG12; clear gb12 gl12 HG12; obtain ⟨ce12, hcl12, hM12, hcc12, hfr12⟩ := Kd.N_elem HO392.out z85 (t395 : Int) p12 q12; obtain ⟨ua12_0, uc12_0, rfl, ul12_0, ge12_0⟩ := k85_openF hM12; have hx12_0 : w20.cell? ⟨go12, (t395 : Int).toNat * 2, none⟩ = some (.slice ua12_0 ((rd_T85 t390 t395).f0).length uc12_0) := hcc12 0 _ rfl; have hx12_1 : w20.cell? ⟨go12, (t395 : Int).toNat * 2 + 1, none⟩ = some (.int .i64 ((rd_T85 t390 t395).f1)) := hcc12 1 _ rfl; have hf12_0 : w20.frozen? ⟨go12, (t395 : Int).toNat * 2, none⟩ = false := hfr12 0; have hf12_1 : w20.frozen? ⟨go12, (t395 : Int).toNat * 2 + 1, none⟩ = false := hfr12 1; clear hcl12 hcc12 hfr12 hM12; replace p12 := eq_true p12; replace q12 := eq_true q12; have n_ := Aside0.mk (Kd.N_mono (ok' := (fun k_ => (w.heap.size ≤ k_) ∧ some k_ ≠ (v388 : Value).ownBlock ∧ some k_ ≠ (.slice Ao19 y401.length co19 : Value).ownBlock)) HO392.out (fun k_ hk => ⟨hk.1.1, ⟨hk.1.2.1, hk.2⟩⟩)); clear HO392; have HO392 := n_; clear n_; have HX21 := Aside0.mk (show Kd.N k85 85 w20 w.heap.size (fun k_ => (w.heap.size ≤ k_) ∧ some k_ ≠ (v388 : Value).ownBlock ∧ some k_ ≠ (.slice Ao19 y401.length co19 : Value).ownBlock) (.slice (some ⟨go12, 0, none⟩) t390.length co14) t390 from (by (with_reducible repeat (first | apply Kd.N_alloc | apply Kd.N_drewN | apply Kd.N_drew)); exact HO392.out)); obtain ⟨ce21, hcl21, hM21, hcc21, hfr21⟩ := Kd.N_elem HX21.out z85 (t395 : Int) (dA) (by have h_ : (t395 : Int) < ((t390.length : Int) : Int) := dA; first | exact h_ | (have e_ := (Kd.N_reads' HO392.out).1; omega) | simpa using h_); obtain ⟨ua21_0, uc21_0, rfl, ul21_0, ge21_0⟩ := k85_openF hM21; have HP21 := Kd.N_seg HX21.out (t395 : Int) (dA) (by have h_ : (t395 : Int) < ((t390.length : Int) : Int) := dA; first | exact h_ | (have e_ := (Kd.N_reads' HO392.out).1; omega) | simpa using h_) (seg := [.int .i64 t404]) (j := 1) hcl21 hcc21 (show 2 ≤ 2 from by decide) (x' := (⟨(rd_T85 t390 t395).f0, t404⟩ : S85)) (k85_mkF _ _ (⟨(rd_T85 t390 t395).f0, t404⟩ : S85) ul21_0 ge21_0) (fun _ hk => hk); have hx21_1 := hcc21 1 _ rfl; (try simp only [show (k85).sz = 2 from rfl, Nat.mul_one, Nat.add_zero] at hx21_1); have hf21_1 := hfr21 1; (try simp only [show (k85).sz = 2 from rfl, Nat.mul_one, Nat.add_zero] at hf21_1); clear hcl21 hcc21 hfr21 hM21) | ((with_reducible refine gate_store (t := 3) (p := 31) rfl ?_); refine store_event (t := 3) (p := 31) (v := ?vo_w22) (w1 := (w20.setCell ⟨go12, (t395 : Int).toNat * 2 + 1, none⟩ (.int .i64 t404))) ?hg ?ho ?hn ?hr ?_; (case ho => rfl); (case hg => rfl); (case hn => rfl); (case hr => first | (go_simp; done) | (go_simp; rfl)); intro w22 hw; have hg : w20.grownBy w22 (some go12) := (by rw [hw]; exact HP21.2); have hp_ : Kd.N k85 85 w22 w.heap.size (fun k_ => (w.heap.size ≤ k_) ∧ some k_ ≠ (v388 : Value).ownBlock ∧ some k_ ≠ (.slice Ao19 y401.length co19 : Value).ownBlock) (.slice (some ⟨go12, 0, none⟩) t390.length co14) y407 := (by rw [hw, Ny407.out]; exact HP21.1); clear HP21; have n0_ := Aside0.mk (IsS138.grown (by exact sI1380 HI0.out) hg (IsS138.own_neN HI0.out HO392.out (by decide))); have n1_ := Aside0.mk (Kd.R_over' (v := (.slice (some ⟨go12, 0, none⟩) t390.length co14)) (rK HO389) (Kd.N_typed HO392.out) (by decide) hg); have n2_ := Aside0.mk (hp_); have n3_ := Aside0.mk (Kd.R_over' (v := (.slice (some ⟨go12, 0, none⟩) t390.length co14)) (rK HO403) (Kd.N_typed HO392.out) (by decide) hg); have n4_ := Aside0.mk ((by rw [hw]; exact below_set (HB.out) (Nat.le_trans HL.out GB12.out) : Below w0.heap.size w0 w22)); have n5_ := Aside0.mk (KeepBut.trans (by exact sK0 HK.out) (KeepBut.of_grown hg g) (Kd.N_base2 HO392.out)); clear HI0; clear HO389; clear HO392; clear HO403; clear HB; clear HK; have HI0 := n0_; have HO389 := n1_; have HO392 := n2_; have HO403 := n3_; have HB := n4_; have HK := n5_; clear n0_ n1_ n2_ n3_ n4_ n5_; clear hg hw hp_))
  go_ret2
  exact ⟨_, _, rA, rm HO389 (fun _ hk => hk.1), Kd.N_V (nm HO392 (fun _ hk => ⟨hk.1, hk.2.1⟩)), by exact sI1380 HI0.out, by exact sB1 HB.out (IsS138.ge HI0.out), by exact sK0 HK.out⟩
 rw [if_neg c8] at H
 have c8b0 : (t398 == 0) = false := beq_eq_false_iff_ne.mpr c8
 have c8b1 : (t398 != 0) = true := bne_iff_ne.mpr c8
 by_cases c23 : t398 = 1
 ·
  rw [if_pos c23] at H
  have c23b0 : (t398 == 1) = true := beq_iff_eq.mpr c23
  have c23b1 : (t398 != 1) = false := bne_eq_false_iff_eq.mpr c23
  clear c23
  have c24 : 0 ≤ t395 := ifN H
  replace H := ifT H
  have c24b0 := decide_eq_true c24
  clear c24
  have c25 : t395 < (t390.length : Int) := ifN H
  replace H := ifT H
  have c25b0 := decide_eq_true c25
  clear c25
  have c26 : 1 ≤ (((rd_T85 t390 t395).f0).length : Int) := ifN H
  replace H := ifT H
  have c26b0 := eq_true c26
  have c26b1 := decide_eq_true c26
  clear c26
  obtain ⟨y409, hy409⟩ : ∃ y_ : List Int, y_ = (((rd_T85 t390 t395).f0).drop 1) := ⟨_, rfl⟩
  replace H : (some (t387, (t390.set (t395 : Int).toNat (⟨y409, (rd_T85 t390 t395).f1⟩ : S85)), t399, t400)) = some (r1, r2, r3, r4) := rH H hy409
  have Ny409 := Aside0.mk hy409
  clear hy409
  obtain ⟨y414, hy414⟩ : ∃ y_ : List (S85), y_ = (t390.set (t395 : Int).toNat (⟨y409, (rd_T85 t390 t395).f1⟩ : S85)) := ⟨_, rfl⟩
  replace H : (some (t387, y414, t399, t400)) = some (r1, r2, r3, r4) := rH H hy414
  have Ny414 := Aside0.mk hy414
  clear hy414
  simp only [Option.some.injEq, Prod.mk.injEq] at H
  obtain ⟨rfl, rfl, rfl, rfl⟩ := H
  go_enter Try.func82, Try.ntmps82
  go_wp2_with (first | ((with_reducible refine gate_callee (f := 124) rfl ?_); refine gL (some 9) Try.func124 #[.pointer (some ⟨g, 0, none⟩)] ?_; (with_reducible refine (spec_l8Draw.calls k g s0_0 s0_1 s0_2 t387 t390 t393 t394 w0 _ ?_ ?_ A2.out).mono ?_); exact sI1380 HI0.out; exact sB1 HB.out (IsS138.ge HI0.out); rintro e w28 ⟨v388, v391, rfl, ho0, ho1, hi, hb, hk⟩; refine ⟨_, rfl, ?_⟩; have HO389 := Aside0.mk (Kd.R_lower (Kd.R_newM (M := fun k_ => (w.heap.size ≤ k_)) ho0 (keep_size (w := w) (g := g) (row := none) (by exact sK0 HK.out)) (fun k_ h_ => h_)) (keep_size (w := w) (g := g) (row := none) (by exact sK0 HK.out))); have HO392 := Aside0.mk (Kd.N_lower (Kd.N_mono (ok' := fun k_ => (w.heap.size ≤ k_) ∧ some k_ ≠ (v388 : Value).ownBlock ∧ k_ ≠ g) (Kd.S_N (Kd.S_bound (Kd.S_apart' ho1 (Kd.R_typed ho0) (by decide)))) (fun k_ hk_ => ⟨(Nat.le_trans (keep_size (w := w) (g := g) (row := none) (by exact sK0 HK.out)) hk_.2.1), hk_.1.2, (IsS138.fresh (by exact sI1380 HI0.out) k_ hk_.2.1)⟩)) (keep_size (w := w) (g := g) (row := none) (by exact sK0 HK.out))); replace HK := Aside0.mk (KeepBut.trans (by exact sK0 HK.out) hk (.inl rfl)); replace HB := Aside0.mk (hb); replace HI0 := Aside0.mk (hi); (try clear hb); (try clear hk); (try clear hi); (try clear ho0); (try clear ho1); obtain ⟨Ao29, co29, eo29⟩ := Kd.N_slice HO392.out; subst eo29) | ((with_reducible refine gate_callee (f := 84) rfl ?_); refine gL (some 20) Try.func84 #[.pointer (some ⟨g, 0, none⟩), .int .i64 (t390.length : Int)] ?_; (with_reducible refine (spec_l1Below.calls g s0_0 t393 t394 (t390.length : Int) t395 t396 t397 w0 _ ?_ ?_ A6.out).mono ?_); exact sI1380 HI0.out; exact sB1 HB.out (IsS138.ge HI0.out); rintro e w30 ⟨rfl, hi, hb, hk⟩; refine ⟨_, rfl, ?_⟩; have n0_ := Aside0.mk (Kd.R_mono (Kd.R_keep (IsS138.apart (show IsS138 w0 _ g s0_0 t393 t394 from by exact sI1380 HI0.out) (rK HO389) (by decide)) hk (fun _ h => h.2)) (fun _ h => h.1)); have n1_ := Aside0.mk (Kd.N_mono (Kd.N_keep (Kd.N_mono (ok := fun k_ => (((w.heap.size ≤ k_)) ∧ (some k_ ≠ (v388 : Value).ownBlock ∧ k_ ≠ g))) (by (with_reducible repeat (first | apply Kd.N_alloc | apply Kd.N_drewN | apply Kd.N_drew)); exact HO392.out) (fun k_ hk_ => (⟨hk_, hk_.2.2⟩ : _ ∧ k_ ≠ g))) hk (fun _ h => h.2)) (fun _ h => h.1)); have n2_ := Aside0.mk (KeepBut.trans (by exact sK0 HK.out) hk (.inl rfl)); have n3_ := Aside0.mk (hb); have n4_ := Aside0.mk (hi); clear HO389; clear HO392; clear HK; clear HB; clear HI0; have HO389 := n0_; have HO392 := n1_; have HK := n2_; have HB := n3_; have HI0 := n4_; clear n0_ n1_ n2_ n3_ n4_; (try clear hb); (try clear hk); (try clear hi)) | ((with_reducible refine gate_callee (f := 84) rfl ?_); refine gL (some 22) Try.func84 #[.pointer (some ⟨g, 0, none⟩), .int .i64 10] ?_; (with_reducible refine (spec_l1Below.calls g s0_0 t396 t397 10 t398 t399 t400 w0 _ ?_ ?_ A7.out).mono ?_); exact sI1380 HI0.out; exact sB1 HB.out (IsS138.ge HI0.out); rintro e w31 ⟨rfl, hi, hb, hk⟩; refine ⟨_, rfl, ?_⟩; have n0_ := Aside0.mk (Kd.R_mono (Kd.R_keep (IsS138.apart (show IsS138 w0 _ g s0_0 t396 t397 from by exact sI1380 HI0.out) (rK HO389) (by decide)) hk (fun _ h => h.2)) (fun _ h => h.1)); have n1_ := Aside0.mk (Kd.N_mono (Kd.N_keep (Kd.N_mono (ok := fun k_ => (((w.heap.size ≤ k_)) ∧ (some k_ ≠ (v388 : Value).ownBlock ∧ k_ ≠ g))) (by (with_reducible repeat (first | apply Kd.N_alloc | apply Kd.N_drewN | apply Kd.N_drew)); exact HO392.out) (fun k_ hk_ => (⟨hk_, hk_.2.2⟩ : _ ∧ k_ ≠ g))) hk (fun _ h => h.2)) (fun _ h => h.1)); have n2_ := Aside0.mk (KeepBut.trans (by exact sK0 HK.out) hk (.inl rfl)); have n3_ := Aside0.mk (hb); have n4_ := Aside0.mk (hi); clear HO389; clear HO392; clear HK; clear HB; clear HI0; have HO389 := n0_; have HO392 := n1_; have HK := n2_; have HB := n3_; have HI0 := n4_; clear n0_ n1_ n2_ n3_ n4_; (try clear hb); (try clear hk); (try clear hi); have p408 : 0 ≤ (t395 : Int) := dA; have q408 : t395 < (t390.length : Int) := dA; obtain ⟨ad408, A408_0, c408_0, e408, hx408_0, hx408_1, hl408_0, hi408_0⟩ := at_T85 (Kd.N_reads' HO392.out).2.2 t395 p408 q408; cases e408; obtain ⟨ce408, hce408, hMe408, hcc408⟩ := Kd.N_get HO392.out z85 t395 p408 (by first | exact q408 | exact dA | (have e_ := (Kd.N_reads' HO392.out).1; omega)); obtain ⟨ua408_0, uc408_0, rfl, ul408_0, ge408_0⟩ := k85_openF hMe408; have hv408_0 := hcc408 0 _ rfl; rw [Nat.add_zero] at hv408_0; replace hv408_0 := Option.some.inj (hv408_0.symm.trans hx408_0); injection hv408_0 with hva_ hvn_ hvc_; rw [hva_] at ge408_0; rw [hvc_] at ul408_0; have HL408_0 := Aside0.mk (show Kd.V (Kd.int .i64) 3 _ w.heap.size _ _ ((rd_T85 t390 t395).f0) from Kd.V_mk ul408_0 ge408_0); clear hva_ hvn_ hvc_ ge408_0 ul408_0; clear hcc408 hce408; have HR408_0 := Aside0.mk hi408_0; have HC408_0 := Aside0.mk hl408_0; clear hi408_0 hl408_0; replace p408 := eq_true p408; replace q408 := eq_true q408; have q32 : (1 : Int) ≤ ((((rd_T85 t390 t395).f0).length : Int) : Int) := dA; obtain ⟨i032, hi032, _, hsz32, _⟩ := info_parts info3; have hroom32 : ((rd_T85 t390 t395).f0).length ≤ c408_0 := HC408_0.out; have hC32 : Kd.F (Kd.int .i64) _ _ A408_0 ((rd_T85 t390 t395).f0).length ((rd_T85 t390 t395).f0) := (Kd.V_at (base := w.heap.size) HL408_0.out).2.2; have hcut32 := cut_from (P := Try.prog) 35 3 .i64 Try.underlying35 hi032 1 hsz32 A408_0 ((rd_T85 t390 t395).f0).length c408_0 1 (by omega) q32; have hr32 := Kd.F_cut (m := (1 : Int).toNat) (c := c408_0) hC32 (by omega) hroom32; obtain ⟨A32, hA32⟩ : ∃ z_, z_ = (if c408_0 = (1 : Int).toNat then A408_0 else (A408_0 : Option Addr).map (·.add ((1 : Int).toNat * 1))) := ⟨_, rfl⟩; obtain ⟨c32, hc32⟩ : ∃ z_, z_ = c408_0 - (1 : Int).toNat := ⟨_, rfl⟩; have hy32 : y409.length = ((rd_T85 t390 t395).f0).length - (1 : Int).toNat := (by rw [Ny409.out, List.length_drop] <;> omega); rw [show ((rd_T85 t390 t395).f0).drop (1 : Int).toNat = y409 from Ny409.out.symm] at hr32; replace hr32 : Kd.F (Kd.int .i64) _ _ A32 y409.length y409 := (by rw [hA32]; exact hr32); rw [← hy32, ← hA32, ← hc32] at hcut32; have HO413 := Aside0.mk (show Kd.V (Kd.int .i64) 3 _ w.heap.size _ (.slice A32 y409.length c32) y409 from Kd.V_mk (by rw [hy32, hc32]; exact Nat.sub_le_sub_right hroom32 _) hr32); have HC413 := Aside0.mk (show y409.length ≤ c32 from by rw [hy32, hc32]; exact Nat.sub_le_sub_right hroom32 _); clear hr32 hC32 hroom32 hi032 hsz32 hc32; have KY32 := Aside0.mk hy32; have KA32 := Aside0.mk hA32; clear hy32 hA32; replace q32 := eq_true q32; have p27 : 0 ≤ (t395 : Int) := dA; have q27 : (t395 : Int) < ((t390.length : Int) : Int) := dA; obtain ⟨go27, co27, eo27, gb27, gl27, cl27, HG27⟩ := Kd.N_form HO392.out (by omega); (first | cases eo27 | (injection eo27 with ea_ en_ ec_; (first | subst ea_ | (injection ea_ with ea_; subst ea_)); subst ec_; clear en_)); have GB27 := Aside0.mk gb27; have GG27 := Aside0.mk HG27; clear gb27 gl27 HG27; (first | simp only [add_plain] at hx408_0 | skip); (first | simp only [add_plain] at hx408_1 | skip); obtain ⟨ce27, hcl27, hM27, hcc27, hfr27⟩ := Kd.N_elem HO392.out z85 (t395 : Int) p27 q27; obtain ⟨ua27_0, uc27_0, rfl, ul27_0, ge27_0⟩ := k85_openF hM27; have hx27_0 : w31.cell? ⟨go27, (t395 : Int).toNat * 2, none⟩ = some (.slice ua27_0 ((rd_T85 t390 t395).f0).length uc27_0) := hcc27 0 _ rfl; have hx27_1 : w31.cell? ⟨go27, (t395 : Int).toNat * 2 + 1, none⟩ = some (.int .i64 ((rd_T85 t390 t395).f1)) := hcc27 1 _ rfl; have hf27_0 : w31.frozen? ⟨go27, (t395 : Int).toNat * 2, none⟩ = false := hfr27 0; have hf27_1 : w31.frozen? ⟨go27, (t395 : Int).toNat * 2 + 1, none⟩ = false := hfr27 1; clear hcl27 hcc27 hfr27 hM27; replace p27 := eq_true p27; replace q27 := eq_true q27; have HX33 := Aside0.mk (show Kd.N k85 85 w31 w.heap.size (fun k_ => (w.heap.size ≤ k_) ∧ some k_ ≠ (v388 : Value).ownBlock ∧ k_ ≠ g) (.slice (some ⟨go27, 0, none⟩) t390.length co29) t390 from (by (with_reducible repeat (first | apply Kd.N_alloc | apply Kd.N_drewN | apply Kd.N_drew)); exact HO392.out)); obtain ⟨ce33, hcl33, hM33, hcc33, hfr33⟩ := Kd.N_elem HX33.out z85 (t395 : Int) (dA) (by have h_ : (t395 : Int) < ((t390.length : Int) : Int) := dA; first | exact h_ | (have e_ := (Kd.N_reads' HO392.out).1; omega) | simpa using h_); obtain ⟨ua33_0, uc33_0, rfl, ul33_0, ge33_0⟩ := k85_openF hM33; have HP33 := Kd.N_seg HX33.out (t395 : Int) (dA) (by have h_ : (t395 : Int) < ((t390.length : Int) : Int) := dA; first | exact h_ | (have e_ := (Kd.N_reads' HO392.out).1; omega) | simpa using h_) (seg := [.slice A32 y409.length c32]) (j := 0) hcl33 hcc33 (show 1 ≤ 2 from by decide) (x' := (⟨y409, (rd_T85 t390 t395).f1⟩ : S85)) (k85_mkF _ _ (⟨y409, (rd_T85 t390 t395).f1⟩ : S85) (Kd.V_reads' (Kd.V_mono (ok' := (fun k_ => ((fun k_ => (w.heap.size ≤ k_) ∧ some k_ ≠ (v388 : Value).ownBlock ∧ k_ ≠ g)) k_ ∧ k_ ≠ go27)) (HO413.out) (fun k_ hk => ⟨⟨hk.1.1, ⟨hk.1.2.1, hk.1.2.2⟩⟩, fun e_ => (hk.2) (by rw [e_]; rfl)⟩))).2.1 (Kd.V_F (Kd.V_mono (ok' := (fun k_ => ((fun k_ => (w.heap.size ≤ k_) ∧ some k_ ≠ (v388 : Value).ownBlock ∧ k_ ≠ g)) k_ ∧ k_ ≠ go27)) (HO413.out) (fun k_ hk => ⟨⟨hk.1.1, ⟨hk.1.2.1, hk.1.2.2⟩⟩, fun e_ => (hk.2) (by rw [e_]; rfl)⟩)))) (fun _ hk => hk); have hx33_0 := hcc33 0 _ rfl; (try simp only [show (k85).sz = 2 from rfl, Nat.mul_one, Nat.add_zero] at hx33_0); have hf33_0 := hfr33 0; (try simp only [show (k85).sz = 2 from rfl, Nat.mul_one, Nat.add_zero] at hf33_0); clear hcl33 hcc33 hfr33 hM33) | ((with_reducible refine gate_store (t := 35) (p := 43) rfl ?_); refine store_event (t := 35) (p := 43) (v := ?vo_w34) (w1 := (w31.setCell ⟨go27, (t395 : Int).toNat * 2, none⟩ (.slice A32 y409.length c32))) ?hg ?ho ?hn ?hr ?_; (case ho => rfl); (case hg => rfl); (case hn => rfl); (case hr => first | (go_simp; done) | (go_simp; rfl)); intro w34 hw; have hg : w31.grownBy w34 (some go27) := (by rw [hw]; exact HP33.2); have hp_ : Kd.N k85 85 w34 w.heap.size (fun k_ => (w.heap.size ≤ k_) ∧ some k_ ≠ (v388 : Value).ownBlock ∧ k_ ≠ g) (.slice (some ⟨go27, 0, none⟩) t390.length co29) y414 := (by rw [hw, Ny414.out]; exact HP33.1); clear HP33; have n0_ := Aside0.mk (IsS138.grown (by exact sI1380 HI0.out) hg (IsS138.own_neN HI0.out HO392.out (by decide))); have n1_ := Aside0.mk (Kd.R_over' (v := (.slice (some ⟨go27, 0, none⟩) t390.length co29)) (rK HO389) (Kd.N_typed HO392.out) (by decide) hg); have n2_ := Aside0.mk (hp_); have n3_ := Aside0.mk (Kd.V_afterv (v := (.slice (some ⟨go27, 0, none⟩) t390.length co29)) (v1 := (.slice (some ⟨go27, 0, none⟩) t390.length co29)) (ok := (fun k_ => (w.heap.size ≤ k_) ∧ some k_ ≠ (v388 : Value).ownBlock ∧ k_ ≠ g)) (by (with_reducible repeat (first | apply Kd.V_alloc | apply Kd.V_drewN | apply Kd.V_drew)); exact HL408_0.out) hg (.inl rfl)); have n4_ := Aside0.mk (Kd.V_afterv (v := (.slice (some ⟨go27, 0, none⟩) t390.length co29)) (v1 := (.slice (some ⟨go27, 0, none⟩) t390.length co29)) (ok := (fun k_ => (w.heap.size ≤ k_) ∧ some k_ ≠ (v388 : Value).ownBlock ∧ k_ ≠ g)) (by (with_reducible repeat (first | apply Kd.V_alloc | apply Kd.V_drewN | apply Kd.V_drew)); exact HO413.out) hg (.inl rfl)); have n5_ := Aside0.mk ((by rw [hw]; exact below_set (HB.out) (Nat.le_trans HL.out GB27.out) : Below w0.heap.size w0 w34)); have n6_ := Aside0.mk (KeepBut.trans (by exact sK0 HK.out) (KeepBut.of_grown hg g) (Kd.N_base2 HO392.out)); clear HI0; clear HO389; clear HO392; clear HL408_0; clear HO413; clear HB; clear HK; have HI0 := n0_; have HO389 := n1_; have HO392 := n2_; have HL408_0 := n3_; have HO413 := n4_; have HB := n5_; have HK := n6_; clear n0_ n1_ n2_ n3_ n4_ n5_ n6_; clear hg hw hp_))
  go_ret2
  exact ⟨_, _, rA, rm HO389 (fun _ hk => hk.1), Kd.N_V (nm HO392 (fun _ hk => ⟨hk.1, hk.2.1⟩)), by exact sI1380 HI0.out, by exact sB1 HB.out (IsS138.ge HI0.out), by exact sK0 HK.out⟩
 rw [if_neg c23] at H
 have c23b0 : (t398 == 1) = false := beq_eq_false_iff_ne.mpr c23
 have c23b1 : (t398 != 1) = true := bne_iff_ne.mpr c23
 by_cases c35 : t398 = 2
 ·
  rw [if_pos c35] at H
  have c35b0 : (t398 == 2) = true := beq_iff_eq.mpr c35
  have c35b1 : (t398 != 2) = false := bne_eq_false_iff_eq.mpr c35
  clear c35
  obtain ⟨⟨t415, t418, t419⟩, A36, H⟩ := bindE H
  try dsimp only at H
  simp only [Option.some.injEq, Prod.mk.injEq] at H
  obtain ⟨rfl, rfl, rfl, rfl⟩ := H
  go_enter Try.func82, Try.ntmps82
  go_wp2_with (first | ((with_reducible refine gate_callee (f := 124) rfl ?_); refine gL (some 9) Try.func124 #[.pointer (some ⟨g, 0, none⟩)] ?_; (with_reducible refine (spec_l8Draw.calls k g s0_0 s0_1 s0_2 t387 t390 t393 t394 w0 _ ?_ ?_ A2.out).mono ?_); exact sI1380 HI0.out; exact sB1 HB.out (IsS138.ge HI0.out); rintro e w37 ⟨v388, v391, rfl, ho0, ho1, hi, hb, hk⟩; refine ⟨_, rfl, ?_⟩; have HO389 := Aside0.mk (Kd.R_lower (Kd.R_newM (M := fun k_ => (w.heap.size ≤ k_)) ho0 (keep_size (w := w) (g := g) (row := none) (by exact sK0 HK.out)) (fun k_ h_ => h_)) (keep_size (w := w) (g := g) (row := none) (by exact sK0 HK.out))); have HO392 := Aside0.mk (Kd.N_lower (Kd.N_mono (ok' := fun k_ => (w.heap.size ≤ k_) ∧ some k_ ≠ (v388 : Value).ownBlock ∧ k_ ≠ g) (Kd.S_N (Kd.S_bound (Kd.S_apart' ho1 (Kd.R_typed ho0) (by decide)))) (fun k_ hk_ => ⟨(Nat.le_trans (keep_size (w := w) (g := g) (row := none) (by exact sK0 HK.out)) hk_.2.1), hk_.1.2, (IsS138.fresh (by exact sI1380 HI0.out) k_ hk_.2.1)⟩)) (keep_size (w := w) (g := g) (row := none) (by exact sK0 HK.out))); replace HK := Aside0.mk (KeepBut.trans (by exact sK0 HK.out) hk (.inl rfl)); replace HB := Aside0.mk (hb); replace HI0 := Aside0.mk (hi); (try clear hb); (try clear hk); (try clear hi); (try clear ho0); (try clear ho1); obtain ⟨Ao38, co38, eo38⟩ := Kd.N_slice HO392.out; subst eo38) | ((with_reducible refine gate_callee (f := 84) rfl ?_); refine gL (some 20) Try.func84 #[.pointer (some ⟨g, 0, none⟩), .int .i64 (t390.length : Int)] ?_; (with_reducible refine (spec_l1Below.calls g s0_0 t393 t394 (t390.length : Int) t395 t396 t397 w0 _ ?_ ?_ A6.out).mono ?_); exact sI1380 HI0.out; exact sB1 HB.out (IsS138.ge HI0.out); rintro e w39 ⟨rfl, hi, hb, hk⟩; refine ⟨_, rfl, ?_⟩; have n0_ := Aside0.mk (Kd.R_mono (Kd.R_keep (IsS138.apart (show IsS138 w0 _ g s0_0 t393 t394 from by exact sI1380 HI0.out) (rK HO389) (by decide)) hk (fun _ h => h.2)) (fun _ h => h.1)); have n1_ := Aside0.mk (Kd.N_mono (Kd.N_keep (Kd.N_mono (ok := fun k_ => (((w.heap.size ≤ k_)) ∧ (some k_ ≠ (v388 : Value).ownBlock ∧ k_ ≠ g))) (by (with_reducible repeat (first | apply Kd.N_alloc | apply Kd.N_drewN | apply Kd.N_drew)); exact HO392.out) (fun k_ hk_ => (⟨hk_, hk_.2.2⟩ : _ ∧ k_ ≠ g))) hk (fun _ h => h.2)) (fun _ h => h.1)); have n2_ := Aside0.mk (KeepBut.trans (by exact sK0 HK.out) hk (.inl rfl)); have n3_ := Aside0.mk (hb); have n4_ := Aside0.mk (hi); clear HO389; clear HO392; clear HK; clear HB; clear HI0; have HO389 := n0_; have HO392 := n1_; have HK := n2_; have HB := n3_; have HI0 := n4_; clear n0_ n1_ n2_ n3_ n4_; (try clear hb); (try clear hk); (try clear hi)) | ((with_reducible refine gate_callee (f := 84) rfl ?_); refine gL (some 22) Try.func84 #[.pointer (some ⟨g, 0, none⟩), .int .i64 10] ?_; (with_reducible refine (spec_l1Below.calls g s0_0 t396 t397 10 t398 t399 t400 w0 _ ?_ ?_ A7.out).mono ?_); exact sI1380 HI0.out; exact sB1 HB.out (IsS138.ge HI0.out); rintro e w40 ⟨rfl, hi, hb, hk⟩; refine ⟨_, rfl, ?_⟩; have n0_ := Aside0.mk (Kd.R_mono (Kd.R_keep (IsS138.apart (show IsS138 w0 _ g s0_0 t396 t397 from by exact sI1380 HI0.out) (rK HO389) (by decide)) hk (fun _ h => h.2)) (fun _ h => h.1)); have n1_ := Aside0.mk (Kd.N_mono (Kd.N_keep (Kd.N_mono (ok := fun k_ => (((w.heap.size ≤ k_)) ∧ (some k_ ≠ (v388 : Value).ownBlock ∧ k_ ≠ g))) (by (with_reducible repeat (first | apply Kd.N_alloc | apply Kd.N_drewN | apply Kd.N_drew)); exact HO392.out) (fun k_ hk_ => (⟨hk_, hk_.2.2⟩ : _ ∧ k_ ≠ g))) hk (fun _ h => h.2)) (fun _ h => h.1)); have n2_ := Aside0.mk (KeepBut.trans (by exact sK0 HK.out) hk (.inl rfl)); have n3_ := Aside0.mk (hb); have n4_ := Aside0.mk (hi); clear HO389; clear HO392; clear HK; clear HB; clear HI0; have HO389 := n0_; have HO392 := n1_; have HK := n2_; have HB := n3_; have HI0 := n4_; clear n0_ n1_ n2_ n3_ n4_; (try clear hb); (try clear hk); (try clear hi)) | ((with_reducible refine gate_callee (f := 125) rfl ?_); refine gL (some 47) Try.func125 #[.pointer (some ⟨g, 0, none⟩)] ?_; (with_reducible refine (spec_l5Any.calls k g s0_0 t399 t400 t415 t418 t419 w0 _ ?_ ?_ A36.out).mono ?_); exact sI1380 HI0.out; exact sB1 HB.out (IsS138.ge HI0.out); rintro e w41 ⟨v416, rfl, ho0, hi, hb, hk⟩; refine ⟨_, rfl, ?_⟩; have n0_ := Aside0.mk (Kd.R_mono (Kd.R_told (Kd.R_oldK (IsS138.apart (show IsS138 w0 _ g s0_0 t399 t400 from by exact sI1380 HI0.out) (rK HO389) (by decide)) hk) (Kd.R_base ho0)) (fun _ h_ => h_.1)); have n1_ := Aside0.mk (Kd.N_mono (Kd.N_told (Kd.N_oldK (Kd.N_mono (ok := fun k_ => (((w.heap.size ≤ k_)) ∧ (some k_ ≠ (v388 : Value).ownBlock ∧ k_ ≠ g))) (by (with_reducible repeat (first | apply Kd.N_alloc | apply Kd.N_drewN | apply Kd.N_drew)); exact HO392.out) (fun k_ hk_ => (⟨hk_, hk_.2.2⟩ : _ ∧ k_ ≠ g))) hk) (Kd.R_base ho0)) (fun _ h_ => h_.1)); have n2_ := Aside0.mk (Kd.R_lower (Kd.R_new' (Kd.R_newM (M := fun k_ => (w.heap.size ≤ k_)) ho0 (keep_size (w := w) (g := g) (row := none) (by exact sK0 HK.out)) (fun k_ h_ => h_)) (Kd.R_lt (rK HO389))) (keep_size (w := w) (g := g) (row := none) (by exact sK0 HK.out))); have n3_ := Aside0.mk (KeepBut.trans (by exact sK0 HK.out) hk (.inl rfl)); have n4_ := Aside0.mk (hb); have n5_ := Aside0.mk (hi); clear HO389; clear HO392; clear HK; clear HB; clear HI0; have HO389 := n0_; have HO392 := n1_; have HO417 := n2_; have HK := n3_; have HB := n4_; have HI0 := n5_; clear n0_ n1_ n2_ n3_ n4_ n5_; (try clear hb); (try clear hk); (try clear hi); (try clear ho0)))
  go_ret2
  exact ⟨_, _, rA, rm HO417 (fun _ hk => hk.1.1), Kd.N_V (nm HO392 (fun _ hk => ⟨hk.1.1, hk.2⟩)), by exact sI1380 HI0.out, by exact sB1 HB.out (IsS138.ge HI0.out), by exact sK0 HK.out⟩
 rw [if_neg c35] at H
 have c35b0 : (t398 == 2) = false := beq_eq_false_iff_ne.mpr c35
 have c35b1 : (t398 != 2) = true := bne_iff_ne.mpr c35
 by_cases c42 : t398 = 3
 ·
  rw [if_pos c42] at H
  have c42b0 : (t398 == 3) = true := beq_iff_eq.mpr c42
  have c42b1 : (t398 != 3) = false := bne_eq_false_iff_eq.mpr c42
  clear c42
  have c43 : 1 ≤ (t390.length : Int) := ifN H
  replace H := ifT H
  have c43b0 := eq_true c43
  have c43b1 := decide_eq_true c43
  clear c43
  obtain ⟨y420, hy420⟩ : ∃ y_ : List (S85), y_ = (t390.drop 1) := ⟨_, rfl⟩
  replace H : (some (t387, y420, t399, t400)) = some (r1, r2, r3, r4) := rH H hy420
  have Ny420 := Aside0.mk hy420
  clear hy420
  simp only [Option.some.injEq, Prod.mk.injEq] at H
  obtain ⟨rfl, rfl, rfl, rfl⟩ := H
  go_enter Try.func82, Try.ntmps82
  go_wp2_with (first | ((with_reducible refine gate_callee (f := 124) rfl ?_); refine gL (some 9) Try.func124 #[.pointer (some ⟨g, 0, none⟩)] ?_; (with_reducible refine (spec_l8Draw.calls k g s0_0 s0_1 s0_2 t387 t390 t393 t394 w0 _ ?_ ?_ A2.out).mono ?_); exact sI1380 HI0.out; exact sB1 HB.out (IsS138.ge HI0.out); rintro e w44 ⟨v388, v391, rfl, ho0, ho1, hi, hb, hk⟩; refine ⟨_, rfl, ?_⟩; have HO389 := Aside0.mk (Kd.R_lower (Kd.R_newM (M := fun k_ => (w.heap.size ≤ k_)) ho0 (keep_size (w := w) (g := g) (row := none) (by exact sK0 HK.out)) (fun k_ h_ => h_)) (keep_size (w := w) (g := g) (row := none) (by exact sK0 HK.out))); have HO392 := Aside0.mk (Kd.N_lower (Kd.N_mono (ok' := fun k_ => (w.heap.size ≤ k_) ∧ some k_ ≠ (v388 : Value).ownBlock ∧ k_ ≠ g) (Kd.S_N (Kd.S_bound (Kd.S_apart' ho1 (Kd.R_typed ho0) (by decide)))) (fun k_ hk_ => ⟨(Nat.le_trans (keep_size (w := w) (g := g) (row := none) (by exact sK0 HK.out)) hk_.2.1), hk_.1.2, (IsS138.fresh (by exact sI1380 HI0.out) k_ hk_.2.1)⟩)) (keep_size (w := w) (g := g) (row := none) (by exact sK0 HK.out))); replace HK := Aside0.mk (KeepBut.trans (by exact sK0 HK.out) hk (.inl rfl)); replace HB := Aside0.mk (hb); replace HI0 := Aside0.mk (hi); (try clear hb); (try clear hk); (try clear hi); (try clear ho0); (try clear ho1); obtain ⟨Ao45, co45, eo45⟩ := Kd.N_slice HO392.out; subst eo45) | ((with_reducible refine gate_callee (f := 84) rfl ?_); refine gL (some 20) Try.func84 #[.pointer (some ⟨g, 0, none⟩), .int .i64 (t390.length : Int)] ?_; (with_reducible refine (spec_l1Below.calls g s0_0 t393 t394 (t390.length : Int) t395 t396 t397 w0 _ ?_ ?_ A6.out).mono ?_); exact sI1380 HI0.out; exact sB1 HB.out (IsS138.ge HI0.out); rintro e w46 ⟨rfl, hi, hb, hk⟩; refine ⟨_, rfl, ?_⟩; have n0_ := Aside0.mk (Kd.R_mono (Kd.R_keep (IsS138.apart (show IsS138 w0 _ g s0_0 t393 t394 from by exact sI1380 HI0.out) (rK HO389) (by decide)) hk (fun _ h => h.2)) (fun _ h => h.1)); have n1_ := Aside0.mk (Kd.N_mono (Kd.N_keep (Kd.N_mono (ok := fun k_ => (((w.heap.size ≤ k_)) ∧ (some k_ ≠ (v388 : Value).ownBlock ∧ k_ ≠ g))) (by (with_reducible repeat (first | apply Kd.N_alloc | apply Kd.N_drewN | apply Kd.N_drew)); exact HO392.out) (fun k_ hk_ => (⟨hk_, hk_.2.2⟩ : _ ∧ k_ ≠ g))) hk (fun _ h => h.2)) (fun _ h => h.1)); have n2_ := Aside0.mk (KeepBut.trans (by exact sK0 HK.out) hk (.inl rfl)); have n3_ := Aside0.mk (hb); have n4_ := Aside0.mk (hi); clear HO389; clear HO392; clear HK; clear HB; clear HI0; have HO389 := n0_; have HO392 := n1_; have HK := n2_; have HB := n3_; have HI0 := n4_; clear n0_ n1_ n2_ n3_ n4_; (try clear hb); (try clear hk); (try clear hi)) | ((with_reducible refine gate_callee (f := 84) rfl ?_); refine gL (some 22) Try.func84 #[.pointer (some ⟨g, 0, none⟩), .int .i64 10] ?_; (with_reducible refine (spec_l1Below.calls g s0_0 t396 t397 10 t398 t399 t400 w0 _ ?_ ?_ A7.out).mono ?_); exact sI1380 HI0.out; exact sB1 HB.out (IsS138.ge HI0.out); rintro e w47 ⟨rfl, hi, hb, hk⟩; refine ⟨_, rfl, ?_⟩; have n0_ := Aside0.mk (Kd.R_mono (Kd.R_keep (IsS138.apart (show IsS138 w0 _ g s0_0 t396 t397 from by exact sI1380 HI0.out) (rK HO389) (by decide)) hk (fun _ h => h.2)) (fun _ h => h.1)); have n1_ := Aside0.mk (Kd.N_mono (Kd.N_keep (Kd.N_mono (ok := fun k_ => (((w.heap.size ≤ k_)) ∧ (some k_ ≠ (v388 : Value).ownBlock ∧ k_ ≠ g))) (by (with_reducible repeat (first | apply Kd.N_alloc | apply Kd.N_drewN | apply Kd.N_drew)); exact HO392.out) (fun k_ hk_ => (⟨hk_, hk_.2.2⟩ : _ ∧ k_ ≠ g))) hk (fun _ h => h.2)) (fun _ h => h.1)); have n2_ := Aside0.mk (KeepBut.trans (by exact sK0 HK.out) hk (.inl rfl)); have n3_ := Aside0.mk (hb); have n4_ := Aside0.mk (hi); clear HO389; clear HO392; clear HK; clear HB; clear HI0; have HO389 := n0_; have HO392 := n1_; have HK := n2_; have HB := n3_; have HI0 := n4_; clear n0_ n1_ n2_ n3_ n4_; (try clear hb); (try clear hk); (try clear hi); have q48 : (1 : Int) ≤ ((t390.length : Int) : Int) := dA; obtain ⟨i048, hi048, _, hsz48, _⟩ := info_parts info85; have hroom48 : t390.length ≤ co45 := (Kd.N_reads' HO392.out).2.1; have hC48 : Kd.F k85 _ _ Ao45 t390.length t390 := (Kd.V_at (base := w.heap.size) (Kd.N_V HO392.out)).2.2; have hcut48 := cut_from (P := Try.prog) 25 85 .i64 Try.underlying25 hi048 2 hsz48 Ao45 t390.length co45 1 (by omega) q48; have hr48 := Kd.F_cut (m := (1 : Int).toNat) (c := co45) hC48 (by omega) hroom48; obtain ⟨A48, hA48⟩ : ∃ z_, z_ = (if co45 = (1 : Int).toNat then Ao45 else (Ao45 : Option Addr).map (·.add ((1 : Int).toNat * 2))) := ⟨_, rfl⟩; obtain ⟨c48, hc48⟩ : ∃ z_, z_ = co45 - (1 : Int).toNat := ⟨_, rfl⟩; have hy48 : y420.length = t390.length - (1 : Int).toNat := (by rw [Ny420.out, List.length_drop] <;> omega); rw [show (t390).drop (1 : Int).toNat = y420 from Ny420.out.symm] at hr48; replace hr48 : Kd.F k85 _ _ A48 y420.length y420 := (by rw [hA48]; exact hr48); rw [← hy48, ← hA48, ← hc48] at hcut48; have HO424 := Aside0.mk (show Kd.V k85 85 _ w.heap.size _ (.slice A48 y420.length c48) y420 from Kd.V_mk (by rw [hy48, hc48]; exact Nat.sub_le_sub_right hroom48 _) hr48); have HC424 := Aside0.mk (show y420.length ≤ c48 from by rw [hy48, hc48]; exact Nat.sub_le_sub_right hroom48 _); clear hr48 hC48 hroom48 hi048 hsz48 hc48; have KY48 := Aside0.mk hy48; have KA48 := Aside0.mk hA48; clear hy48 hA48; replace q48 := eq_true q48))
  go_ret2
  exact ⟨_, _, rA, rm HO389 (fun _ hk => hk.1), by (with_reducible repeat (first | apply Kd.V_alloc | apply Kd.V_drewN | apply Kd.V_drew)); exact Kd.V_mono HO424.out (fun _ hk => ⟨hk.1, hk.2.1⟩), by exact sI1380 HI0.out, by exact sB1 HB.out (IsS138.ge HI0.out), by exact sK0 HK.out⟩
 rw [if_neg c42] at H
 have c42b0 : (t398 == 3) = false := beq_eq_false_iff_ne.mpr c42
 have c42b1 : (t398 != 3) = true := bne_iff_ne.mpr c42
 simp only [Option.some.injEq, Prod.mk.injEq] at H
 obtain ⟨rfl, rfl, rfl, rfl⟩ := H
 go_enter Try.func82, Try.ntmps82
 go_wp2_with (first | ((with_reducible refine gate_callee (f := 124) rfl ?_); refine gL (some 9) Try.func124 #[.pointer (some ⟨g, 0, none⟩)] ?_; (with_reducible refine (spec_l8Draw.calls k g s0_0 s0_1 s0_2 t387 t390 t393 t394 w0 _ ?_ ?_ A2.out).mono ?_); exact sI1380 HI0.out; exact sB1 HB.out (IsS138.ge HI0.out); rintro e w49 ⟨v388, v391, rfl, ho0, ho1, hi, hb, hk⟩; refine ⟨_, rfl, ?_⟩; have HO389 := Aside0.mk (Kd.R_lower (Kd.R_newM (M := fun k_ => (w.heap.size ≤ k_)) ho0 (keep_size (w := w) (g := g) (row := none) (by exact sK0 HK.out)) (fun k_ h_ => h_)) (keep_size (w := w) (g := g) (row := none) (by exact sK0 HK.out))); have HO392 := Aside0.mk (Kd.N_lower (Kd.N_mono (ok' := fun k_ => (w.heap.size ≤ k_) ∧ some k_ ≠ (v388 : Value).ownBlock ∧ k_ ≠ g) (Kd.S_N (Kd.S_bound (Kd.S_apart' ho1 (Kd.R_typed ho0) (by decide)))) (fun k_ hk_ => ⟨(Nat.le_trans (keep_size (w := w) (g := g) (row := none) (by exact sK0 HK.out)) hk_.2.1), hk_.1.2, (IsS138.fresh (by exact sI1380 HI0.out) k_ hk_.2.1)⟩)) (keep_size (w := w) (g := g) (row := none) (by exact sK0 HK.out))); replace HK := Aside0.mk (KeepBut.trans (by exact sK0 HK.out) hk (.inl rfl)); replace HB := Aside0.mk (hb); replace HI0 := Aside0.mk (hi); (try clear hb); (try clear hk); (try clear hi); (try clear ho0); (try clear ho1); obtain ⟨Ao50, co50, eo50⟩ := Kd.N_slice HO392.out; subst eo50) | ((with_reducible refine gate_callee (f := 84) rfl ?_); refine gL (some 20) Try.func84 #[.pointer (some ⟨g, 0, none⟩), .int .i64 (t390.length : Int)] ?_; (with_reducible refine (spec_l1Below.calls g s0_0 t393 t394 (t390.length : Int) t395 t396 t397 w0 _ ?_ ?_ A6.out).mono ?_); exact sI1380 HI0.out; exact sB1 HB.out (IsS138.ge HI0.out); rintro e w51 ⟨rfl, hi, hb, hk⟩; refine ⟨_, rfl, ?_⟩; have n0_ := Aside0.mk (Kd.R_mono (Kd.R_keep (IsS138.apart (show IsS138 w0 _ g s0_0 t393 t394 from by exact sI1380 HI0.out) (rK HO389) (by decide)) hk (fun _ h => h.2)) (fun _ h => h.1)); have n1_ := Aside0.mk (Kd.N_mono (Kd.N_keep (Kd.N_mono (ok := fun k_ => (((w.heap.size ≤ k_)) ∧ (some k_ ≠ (v388 : Value).ownBlock ∧ k_ ≠ g))) (by (with_reducible repeat (first | apply Kd.N_alloc | apply Kd.N_drewN | apply Kd.N_drew)); exact HO392.out) (fun k_ hk_ => (⟨hk_, hk_.2.2⟩ : _ ∧ k_ ≠ g))) hk (fun _ h => h.2)) (fun _ h => h.1)); have n2_ := Aside0.mk (KeepBut.trans (by exact sK0 HK.out) hk (.inl rfl)); have n3_ := Aside0.mk (hb); have n4_ := Aside0.mk (hi); clear HO389; clear HO392; clear HK; clear HB; clear HI0; have HO389 := n0_; have HO392 := n1_; have HK := n2_; have HB := n3_; have HI0 := n4_; clear n0_ n1_ n2_ n3_ n4_; (try clear hb); (try clear hk); (try clear hi)) | ((with_reducible refine gate_callee (f := 84) rfl ?_); refine gL (some 22) Try.func84 #[.pointer (some ⟨g, 0, none⟩), .int .i64 10] ?_; (with_reducible refine (spec_l1Below.calls g s0_0 t396 t397 10 t398 t399 t400 w0 _ ?_ ?_ A7.out).mono ?_); exact sI1380 HI0.out; exact sB1 HB.out (IsS138.ge HI0.out); rintro e w52 ⟨rfl, hi, hb, hk⟩; refine ⟨_, rfl, ?_⟩; have n0_ := Aside0.mk (Kd.R_mono (Kd.R_keep (IsS138.apart (show IsS138 w0 _ g s0_0 t396 t397 from by exact sI1380 HI0.out) (rK HO389) (by decide)) hk (fun _ h => h.2)) (fun _ h => h.1)); have n1_ := Aside0.mk (Kd.N_mono (Kd.N_keep (Kd.N_mono (ok := fun k_ => (((w.heap.size ≤ k_)) ∧ (some k_ ≠ (v388 : Value).ownBlock ∧ k_ ≠ g))) (by (with_reducible repeat (first | apply Kd.N_alloc | apply Kd.N_drewN | apply Kd.N_drew)); exact HO392.out) (fun k_ hk_ => (⟨hk_, hk_.2.2⟩ : _ ∧ k_ ≠ g))) hk (fun _ h => h.2)) (fun _ h => h.1)); have n2_ := Aside0.mk (KeepBut.trans (by exact sK0 HK.out) hk (.inl rfl)); have n3_ := Aside0.mk (hb); have n4_ := Aside0.mk (hi); clear HO389; clear HO392; clear HK; clear HB; clear HI0; have HO389 := n0_; have HO392 := n1_; have HK := n2_; have HB := n3_; have HI0 := n4_; clear n0_ n1_ n2_ n3_ n4_; (try clear hb); (try clear hk); (try clear hi)))
 go_ret2
 exact ⟨_, _, rA, rm HO389 (fun _ hk => hk.1), Kd.N_V (nm HO392 (fun _ hk => ⟨hk.1, hk.2.1⟩)), by exact sI1380 HI0.out, by exact sB1 HB.out (IsS138.ge HI0.out), by exact sK0 HK.out⟩

/-! ### spec_DrawOpenIn: function 39 -/
def spec_DrawOpenIn.f (k : Nat) (l0 : List Int) : Option ((List (S50)) × (List (S85)) × Int × Int × Int) := (spec_l1New.f k l0).bind fun bt425 => ((spec_l8Any.f k bt425.1 bt425.2.1 bt425.2.2).bind fun bt429 => ((spec_l1Below.f bt425.1 bt429.2.2.1 bt429.2.2.2 9).bind fun bt437 => ((spec_l1Int.f bt425.1 bt437.2.1 bt437.2.2 (([0, 7, 50, 100000, 100001, (-1)] : List Int))).bind fun bt443 => ((spec_l1Int.f bt425.1 bt443.2.1 bt443.2.2 (([0, 10, 60, 1000, 1001, (-1)] : List Int))).bind fun bt449 => (some (bt429.1, bt429.2.1, bt437.1, bt443.1, bt449.1))))))
theorem spec_DrawOpenIn.mono : ∀ a0 k, LeO (spec_DrawOpenIn.f k a0) (spec_DrawOpenIn.f (k + 1) a0) := by
 intro a0 k
 unfold spec_DrawOpenIn.f
 exact mz2 spec_l1New.mono spec_l8Any.mono
set_option maxHeartbeats 8000000 in
set_option maxRecDepth 100000 in
theorem spec_DrawOpenIn.calls (k : Nat) (A0 : Option Addr) (c0 : Nat) (l0 : List Int) (r1 : List (S50)) (r2 : List (S85)) (r3 : Int) (r4 : Int) (r5 : Int) (w : World) (hr0 : Kd.C (Kd.int .u8) w A0 l0.length l0) (hc0 : l0.length ≤ c0) (h : spec_DrawOpenIn.f k l0 = some (r1, r2, r3, r4, r5)) :
  Calls Try.prog 39 #[.slice A0 l0.length c0] w fun e w' => ∃ v0_ v1_ : Value, e = .returned (.tuple #[v0_, v1_, .int .i64 r3, .int .i64 r4, .int .i64 r5]) ∧ Kd.R k50 50 w' w.heap.size (fun k_ => (w.heap.size ≤ k_)) v0_ r1 ∧ Kd.V k85 85 w' w.heap.size (fun k_ => (w.heap.size ≤ k_) ∧ some k_ ≠ (v0_ : Value).ownBlock) v1_ r2 ∧ Below w.heap.size w w' := by
 have HR0 := Aside0.mk hr0
 have HC0 := Aside0.mk hc0
 clear hr0 hc0
 have HB := Aside0.mk (Below.refl w.heap.size w)
 have H : ((spec_l1New.f k l0).bind fun bt425 => ((spec_l8Any.f k bt425.1 bt425.2.1 bt425.2.2).bind fun bt429 => ((spec_l1Below.f bt425.1 bt429.2.2.1 bt429.2.2.2 9).bind fun bt437 => ((spec_l1Int.f bt425.1 bt437.2.1 bt437.2.2 (([0, 7, 50, 100000, 100001, (-1)] : List Int))).bind fun bt443 => ((spec_l1Int.f bt425.1 bt443.2.1 bt443.2.2 (([0, 10, 60, 1000, 1001, (-1)] : List Int))).bind fun bt449 => (some (bt429.1, bt429.2.1, bt437.1, bt443.1, bt449.1))))))) = some (r1, r2, r3, r4, r5) := h
 clear h
 obtain ⟨⟨t425, t426, t427⟩, A2, H⟩ := bindE H
 try dsimp only at H
 obtain ⟨⟨t429, t432, t435, t436⟩, A3, H⟩ := bindE H
 try dsimp only at H
 obtain ⟨⟨t437, t438, t439⟩, A4, H⟩ := bindE H
 try dsimp only at H
 obtain ⟨y440, hy440⟩ : ∃ y_ : List Int, y_ = (([0, 7, 50, 100000, 100001, (-1)] : List Int)) := ⟨_, rfl⟩
 replace H : ((spec_l1Int.f t425 t438 t439 y440).bind fun bt443 => ((spec_l1Int.f t425 bt443.2.1 bt443.2.2 (([0, 10, 60, 1000, 1001, (-1)] : List Int))).bind fun bt449 => (some (t429, t432, t437, bt443.1, bt449.1)))) = some (r1, r2, r3, r4, r5) := rH H hy440
 have Ny440 := Aside0.mk hy440
 clear hy440
 obtain ⟨⟨t443, t444, t445⟩, A5, H⟩ := bindE H
 try dsimp only at H
 obtain ⟨y446, hy446⟩ : ∃ y_ : List Int, y_ = (([0, 10, 60, 1000, 1001, (-1)] : List Int)) := ⟨_, rfl⟩
 replace H : ((spec_l1Int.f t425 t444 t445 y446).bind fun bt449 => (some (t429, t432, t437, t443, bt449.1))) = some (r1, r2, r3, r4, r5) := rH H hy446
 have Ny446 := Aside0.mk hy446
 clear hy446
 obtain ⟨⟨t449, t450, t451⟩, A6, H⟩ := bindE H
 try dsimp only at H
 simp only [Option.some.injEq, Prod.mk.injEq] at H
 obtain ⟨rfl, rfl, rfl, rfl, rfl⟩ := H
 go_enter Try.func39, Try.ntmps39
 go_wp2_with (first | ((with_reducible refine gate_callee (f := 81) rfl ?_); refine gL (some 13) Try.func81 #[.slice A0 l0.length c0] ?_; (with_reducible refine (spec_l1New.calls k _ _ l0 t425 t426 t427 w _ ?_ ?_ ?_ A2.out).mono ?_); exact sB0 HB.out; exact HR0.out; exact HC0.out; rintro e w7 ⟨g428, rfl, hi, hb, hb2, -⟩; refine ⟨_, rfl, ?_⟩; replace HB := Aside0.mk (hb); have HI428 := Aside0.mk (hi); (try clear hb); (try clear hb2); (try clear hi)) | ((with_reducible refine gate_callee (f := 82) rfl ?_); refine gL (some 16) Try.func82 #[.pointer (some ⟨g428, 0, none⟩)] ?_; (with_reducible refine (spec_l8Any.calls k g428 t425 t426 t427 t429 t432 t435 t436 w _ ?_ ?_ A3.out).mono ?_); exact sI1380 HI428.out; exact sB1 HB.out (IsS138.ge HI428.out); rintro e w8 ⟨v430, v433, rfl, ho0, ho1, hi, hb, hk⟩; refine ⟨_, rfl, ?_⟩; have n0_ := Aside0.mk (Kd.R_lower (Kd.R_newM (M := fun k_ => (w.heap.size ≤ k_)) (Kd.R_mono (ok' := fun k_ => True) ho0 (fun _ hk_ => trivial)) (below_size (by exact sB1 HB.out (IsS138.ge HI428.out))) (fun k_ h_ => h_)) (below_size (by exact sB1 HB.out (IsS138.ge HI428.out)))); have n1_ := Aside0.mk (Kd.V_lower (Kd.V_mono (ok' := fun k_ => (w.heap.size ≤ k_) ∧ some k_ ≠ (v430 : Value).ownBlock ∧ k_ ≠ g428) ho1 (fun k_ hk_ => ⟨(Nat.le_trans (below_size (by exact sB1 HB.out (IsS138.ge HI428.out))) hk_.1), hk_.2, (IsS138.fresh (by exact sI1380 HI428.out) k_ hk_.1)⟩)) (below_size (by exact sB1 HB.out (IsS138.ge HI428.out)))); have n2_ := Aside0.mk (hb); have n3_ := Aside0.mk (hi); clear HB; clear HI428; have HO431 := n0_; have HO434 := n1_; have HB := n2_; have HI428 := n3_; clear n0_ n1_ n2_ n3_; (try clear hb); (try clear hk); (try clear hi); (try clear ho0); (try clear ho1)) | ((with_reducible refine gate_callee (f := 84) rfl ?_); refine gL (some 20) Try.func84 #[.pointer (some ⟨g428, 0, none⟩), .int .i64 9] ?_; (with_reducible refine (spec_l1Below.calls g428 t425 t435 t436 9 t437 t438 t439 w _ ?_ ?_ A4.out).mono ?_); exact sI1380 HI428.out; exact sB1 HB.out (IsS138.ge HI428.out); rintro e w9 ⟨rfl, hi, hb, hk⟩; refine ⟨_, rfl, ?_⟩; have n0_ := Aside0.mk (Kd.R_mono (Kd.R_keep (IsS138.apart (show IsS138 w _ g428 t425 t435 t436 from by exact sI1380 HI428.out) (rK HO431) (by decide)) hk (fun _ h => h.2)) (fun _ h => h.1)); have n1_ := Aside0.mk (Kd.V_mono (Kd.V_keep (Kd.V_mono (ok := fun k_ => (((w.heap.size ≤ k_)) ∧ (some k_ ≠ (v430 : Value).ownBlock ∧ k_ ≠ g428))) (by (with_reducible repeat (first | apply Kd.V_alloc | apply Kd.V_drewN | apply Kd.V_drew)); exact HO434.out) (fun k_ hk_ => (⟨hk_, hk_.2.2⟩ : _ ∧ k_ ≠ g428))) hk (fun _ h => h.2)) (fun _ h => h.1)); have n2_ := Aside0.mk (hb); have n3_ := Aside0.mk (hi); clear HO431; clear HO434; clear HB; clear HI428; have HO431 := n0_; have HO434 := n1_; have HB := n2_; have HI428 := n3_; clear n0_ n1_ n2_ n3_; (try clear hb); (try clear hk); (try clear hi)) | ((with_reducible refine gate_dst (N := 22) rfl ?_); refine Kd.R_lit (Kd.int .i64) _ 3 ?hg (N := 22) ?hd (xs := ([0, 7, 50, 100000, 100001, (-1)] : List Int)) (inner := [.int .i64 0, .int .i64 7, .int .i64 50, .int .i64 100000, .int .i64 100001, .int .i64 (-1)]) (ok := fun _ => True) (okp := fun _ => True) ?hr ?hp (fun _ hk => hk) trivial (Below.refl _ _) (Nat.le_refl _) (by simp) ?_; (case hd => rfl); (case hg => rfl); (case hr => first | (go_simp; done) | (go_simp; rfl)); (case hp => exact (Reps.one (show Kd.M (Kd.int .i64) _ _ _ 0 [.int .i64 0] from rfl) (Reps.one (show Kd.M (Kd.int .i64) _ _ _ 7 [.int .i64 7] from rfl) (Reps.one (show Kd.M (Kd.int .i64) _ _ _ 50 [.int .i64 50] from rfl) (Reps.one (show Kd.M (Kd.int .i64) _ _ _ 100000 [.int .i64 100000] from rfl) (Reps.one (show Kd.M (Kd.int .i64) _ _ _ 100001 [.int .i64 100001] from rfl) (Reps.one (show Kd.M (Kd.int .i64) _ _ _ (-1) [.int .i64 (-1)] from rfl) (Reps.none _ _)))))))); intro v441 w10 ho11 hb hg_ hnew_; clear hg_ hnew_; (first | rw [← Ny440.out] at ho11 | (simp only [Int.reduceToNat] at ho11; rw [← Ny440.out] at ho11)); have n0_ := rb HO431 hb; have n1_ := Aside0.mk (Kd.V_elder' (by (with_reducible repeat (first | apply Kd.V_alloc | apply Kd.V_drewN | apply Kd.V_drew)); exact HO434.out) (Kd.R_base ho11) hb); have n2_ := Aside0.mk (Kd.R_lower (Kd.R_newM (M := fun k_ => (w.heap.size ≤ k_)) ho11 (below_size (by exact sB1 HB.out (IsS138.ge HI428.out))) (fun k_ h_ => h_)) (below_size (by exact sB1 HB.out (IsS138.ge HI428.out)))); have n3_ := Aside0.mk (IsS138.below (by exact sI1380 HI428.out) hb); have n4_ := Aside0.mk (below_step (by exact sB1 HB.out (IsS138.ge HI428.out)) hb); clear HO431; clear HO434; clear HI428; clear HB; have HO431 := n0_; have HO434 := n1_; have HO442 := n2_; have HI428 := n3_; have HB := n4_; clear n0_ n1_ n2_ n3_ n4_; clear hb ho11; obtain ⟨Ao12, co12, eo12⟩ := Kd.R_slice HO442.out; subst eo12) | ((with_reducible refine gate_callee (f := 94) rfl ?_); refine gL (some 23) Try.func94 #[.pointer (some ⟨g428, 0, none⟩), .slice Ao12 y440.length co12] ?_; (with_reducible refine (spec_l1Int.calls g428 t425 t438 t439 _ _ y440 t443 t444 t445 w _ ?_ ?_ ?_ ?_ ?_ A5.out).mono ?_); exact sI1380 HI428.out; exact sB1 HB.out (IsS138.ge HI428.out); exact cO ⟨(Kd.R_reads' HO442.out).2.2⟩; exact (Kd.R_reads' HO442.out).2.1; exact far_slice (IsS138.own_ne HI428.out HO442.out (by decide)); rintro e w13 ⟨rfl, hi, hb, hk⟩; refine ⟨_, rfl, ?_⟩; have n0_ := Aside0.mk (Kd.R_mono (Kd.R_keep (IsS138.apart (show IsS138 w _ g428 t425 t438 t439 from by exact sI1380 HI428.out) (rK HO431) (by decide)) hk (fun _ h => h.2)) (fun _ h => h.1)); have n1_ := Aside0.mk (Kd.V_mono (Kd.V_keep (Kd.V_mono (ok := fun k_ => ((((w.heap.size ≤ k_)) ∧ (some k_ ≠ (v430 : Value).ownBlock ∧ k_ ≠ g428)) ∧ some k_ ≠ (.slice Ao12 y440.length co12 : Value).ownBlock)) (by (with_reducible repeat (first | apply Kd.V_alloc | apply Kd.V_drewN | apply Kd.V_drew)); exact HO434.out) (fun k_ hk_ => (⟨hk_, hk_.1.2.2⟩ : _ ∧ k_ ≠ g428))) hk (fun _ h => h.2)) (fun _ h => h.1)); have n2_ := Aside0.mk (Kd.R_mono (Kd.R_keep (IsS138.apart (show IsS138 w _ g428 t425 t438 t439 from by exact sI1380 HI428.out) (rK HO442) (by decide)) hk (fun _ h => h.2)) (fun _ h => h.1)); have n3_ := Aside0.mk (hb); have n4_ := Aside0.mk (hi); clear HO431; clear HO434; clear HO442; clear HB; clear HI428; have HO431 := n0_; have HO434 := n1_; have HO442 := n2_; have HB := n3_; have HI428 := n4_; clear n0_ n1_ n2_ n3_ n4_; (try clear hb); (try clear hk); (try clear hi)) | ((with_reducible refine gate_dst (N := 29) rfl ?_); refine Kd.R_lit (Kd.int .i64) _ 3 ?hg (N := 29) ?hd (xs := ([0, 10, 60, 1000, 1001, (-1)] : List Int)) (inner := [.int .i64 0, .int .i64 10, .int .i64 60, .int .i64 1000, .int .i64 1001, .int .i64 (-1)]) (ok := fun _ => True) (okp := fun _ => True) ?hr ?hp (fun _ hk => hk) trivial (Below.refl _ _) (Nat.le_refl _) (by simp) ?_; (case hd => rfl); (case hg => rfl); (case hr => first | (go_simp; done) | (go_simp; rfl)); (case hp => exact (Reps.one (show Kd.M (Kd.int .i64) _ _ _ 0 [.int .i64 0] from rfl) (Reps.one (show Kd.M (Kd.int .i64) _ _ _ 10 [.int .i64 10] from rfl) (Reps.one (show Kd.M (Kd.int .i64) _ _ _ 60 [.int .i64 60] from rfl) (Reps.one (show Kd.M (Kd.int .i64) _ _ _ 1000 [.int .i64 1000] from rfl) (Reps.one (show Kd.M (Kd.int .i64) _ _ _ 1001 [.int .i64 1001] from rfl) (Reps.one (show Kd.M (Kd.int .i64) _ _ _ (-1) [.int .i64 (-1)] from rfl) (Reps.none _ _)))))))); intro v447 w14 ho15 hb hg_ hnew_; clear hg_ hnew_; (first | rw [← Ny446.out] at ho15 | (simp only [Int.reduceToNat] at ho15; rw [← Ny446.out] at ho15)); have n0_ := rb HO431 hb; have n1_ := Aside0.mk (Kd.V_elder' (by (with_reducible repeat (first | apply Kd.V_alloc | apply Kd.V_drewN | apply Kd.V_drew)); exact HO434.out) (Kd.R_base ho15) hb); have n2_ := re HO442 ho15 hb; have n3_ := Aside0.mk (Kd.R_lower (Kd.R_new' (Kd.R_newM (M := fun k_ => (w.heap.size ≤ k_)) ho15 (below_size (by exact sB1 HB.out (IsS138.ge HI428.out))) (fun k_ h_ => h_)) (Kd.R_lt (rK HO442))) (below_size (by exact sB1 HB.out (IsS138.ge HI428.out)))); have n4_ := Aside0.mk (IsS138.below (by exact sI1380 HI428.out) hb); have n5_ := Aside0.mk (below_step (by exact sB1 HB.out (IsS138.ge HI428.out)) hb); clear HO431; clear HO434; clear HO442; clear HI428; clear HB; have HO431 := n0_; have HO434 := n1_; have HO442 := n2_; have HO448 := n3_; have HI428 := n4_; have HB := n5_; clear n0_ n1_ n2_ n3_ n4_ n5_; clear hb ho15; obtain ⟨Ao16, co16, eo16⟩ := Kd.R_slice HO448.out; subst eo16) | ((with_reducible refine gate_callee (f := 94) rfl ?_); refine gL (some 30) Try.func94 #[.pointer (some ⟨g428, 0, none⟩), .slice Ao16 y446.length co16] ?_; (with_reducible refine (spec_l1Int.calls g428 t425 t444 t445 _ _ y446 t449 t450 t451 w _ ?_ ?_ ?_ ?_ ?_ A6.out).mono ?_); exact sI1380 HI428.out; exact sB1 HB.out (IsS138.ge HI428.out); exact cO ⟨(Kd.R_reads' HO448.out).2.2⟩; exact (Kd.R_reads' HO448.out).2.1; exact far_slice (IsS138.own_ne HI428.out HO448.out (by decide)); rintro e w17 ⟨rfl, hi, hb, hk⟩; refine ⟨_, rfl, ?_⟩; have n0_ := Aside0.mk (Kd.R_mono (Kd.R_keep (IsS138.apart (show IsS138 w _ g428 t425 t444 t445 from by exact sI1380 HI428.out) (rK HO431) (by decide)) hk (fun _ h => h.2)) (fun _ h => h.1)); have n1_ := Aside0.mk (Kd.V_mono (Kd.V_keep (Kd.V_mono (ok := fun k_ => (((((w.heap.size ≤ k_)) ∧ (some k_ ≠ (v430 : Value).ownBlock ∧ k_ ≠ g428)) ∧ some k_ ≠ (.slice Ao12 y440.length co12 : Value).ownBlock) ∧ some k_ ≠ (.slice Ao16 y446.length co16 : Value).ownBlock)) (by (with_reducible repeat (first | apply Kd.V_alloc | apply Kd.V_drewN | apply Kd.V_drew)); exact HO434.out) (fun k_ hk_ => (⟨hk_, hk_.1.1.2.2⟩ : _ ∧ k_ ≠ g428))) hk (fun _ h => h.2)) (fun _ h => h.1)); have n2_ := Aside0.mk (Kd.R_mono (Kd.R_keep (IsS138.apart (show IsS138 w _ g428 t425 t444 t445 from by exact sI1380 HI428.out) (rK HO442) (by decide)) hk (fun _ h => h.2)) (fun _ h => h.1)); have n3_ := Aside0.mk (Kd.R_mono (Kd.R_keep (IsS138.apart (show IsS138 w _ g428 t425 t444 t445 from by exact sI1380 HI428.out) (rK HO448) (by decide)) hk (fun _ h => h.2)) (fun _ h => h.1)); have n4_ := Aside0.mk (hb); have n5_ := Aside0.mk (hi); clear HO431; clear HO434; clear HO442; clear HO448; clear HB; clear HI428; have HO431 := n0_; have HO434 := n1_; have HO442 := n2_; have HO448 := n3_; have HB := n4_; have HI428 := n5_; clear n0_ n1_ n2_ n3_ n4_ n5_; (try clear hb); (try clear hk); (try clear hi)))
 refine bodyPost_ret (results_list (rs := [.tmp 2, .tmp 3, .tmp 4, .tmp 5, .tmp 6]) rfl (by simp) (.tmp (.tmp (.tmp (.tmp (.tmp .nil)))))) rfl ?_
 exact ⟨_, _, rA, rm HO431 (fun _ hk => hk.1), by (with_reducible repeat (first | apply Kd.V_alloc | apply Kd.V_drewN | apply Kd.V_drew)); exact Kd.V_mono HO434.out (fun _ hk => ⟨hk.1.1.1, hk.1.1.2.1⟩), by exact sB1 HB.out (IsS138.ge HI428.out)⟩

/-! ### spec_DrawNextGreen: function 11 -/
def spec_DrawNextGreen.f (k : Nat) (l0 : List Int) : Option ((List (S50)) × (List (S85)) × Int × Int) := (spec_DrawOpenIn.f k l0).bind fun bt452 => (some (bt452.1, bt452.2.1, bt452.2.2.1, bt452.2.2.2.1))
theorem spec_DrawNextGreen.mono : ∀ a0 k, LeO (spec_DrawNextGreen.f k a0) (spec_DrawNextGreen.f (k + 1) a0) := by
 intro a0 k
 unfold spec_DrawNextGreen.f
 exact mz1 spec_DrawOpenIn.mono
set_option maxHeartbeats 8000000 in
set_option maxRecDepth 100000 in
theorem spec_DrawNextGreen.calls (k : Nat) (A0 : Option Addr) (c0 : Nat) (l0 : List Int) (r1 : List (S50)) (r2 : List (S85)) (r3 : Int) (r4 : Int) (w : World) (hr0 : Kd.C (Kd.int .u8) w A0 l0.length l0) (hc0 : l0.length ≤ c0) (h : spec_DrawNextGreen.f k l0 = some (r1, r2, r3, r4)) :
  Calls Try.prog 11 #[.slice A0 l0.length c0] w fun e w' => ∃ v0_ v1_ : Value, e = .returned (.tuple #[v0_, v1_, .int .i64 r3, .int .i64 r4]) ∧ Kd.R k50 50 w' w.heap.size (fun k_ => (w.heap.size ≤ k_)) v0_ r1 ∧ Kd.V k85 85 w' w.heap.size (fun k_ => (w.heap.size ≤ k_) ∧ some k_ ≠ (v0_ : Value).ownBlock) v1_ r2 ∧ Below w.heap.size w w' := by
 have HR0 := Aside0.mk hr0
 have HC0 := Aside0.mk hc0
 clear hr0 hc0
 have HB := Aside0.mk (Below.refl w.heap.size w)
 have H : ((spec_DrawOpenIn.f k l0).bind fun bt452 => (some (bt452.1, bt452.2.1, bt452.2.2.1, bt452.2.2.2.1))) = some (r1, r2, r3, r4) := h
 clear h
 obtain ⟨⟨t452, t455, t458, t459, t460⟩, A2, H⟩ := bindE H
 try dsimp only at H
 simp only [Option.some.injEq, Prod.mk.injEq] at H
 obtain ⟨rfl, rfl, rfl, rfl⟩ := H
 go_enter Try.func11, Try.ntmps11
 go_wp2_with (first | ((with_reducible refine gate_callee (f := 39) rfl ?_); refine gL (some 13) Try.func39 #[.slice A0 l0.length c0] ?_; (with_reducible refine (spec_DrawOpenIn.calls k _ _ l0 t452 t455 t458 t459 t460 _ ?_ ?_ A2.out).mono ?_); exact cO HR0; exact HC0.out; rintro e w3 ⟨v453, v456, rfl, ho0, ho1, hb⟩; refine ⟨_, rfl, ?_⟩; have HO454 := rl w (Kd.R_newM (M := fun k_ => (w.heap.size ≤ k_)) (Kd.R_mono (ok' := fun k_ => True) ho0 (fun _ hk_ => trivial)) (below_size bA) (fun k_ h_ => h_)); have HO457 := Aside0.mk (Kd.V_lower (Kd.V_mono (ok' := fun k_ => (w.heap.size ≤ k_) ∧ some k_ ≠ (v453 : Value).ownBlock) ho1 (fun k_ hk_ => ⟨(Nat.le_trans (below_size bA) hk_.1), hk_.2⟩)) (below_size bA)); replace HB := bs HB hb; (try clear hb); (try clear ho0); (try clear ho1)))
 refine bodyPost_ret (results_list (rs := [.tmp 2, .tmp 3, .tmp 4, .tmp 5]) rfl (by simp) (.tmp (.tmp (.tmp (.tmp .nil))))) rfl ?_
 exact ⟨_, _, rA, rm HO454 (fun _ hk => hk.1), by (with_reducible repeat (first | apply Kd.V_alloc | apply Kd.V_drewN | apply Kd.V_drew)); exact HO457.out, bA⟩

/-! ### impl_FindPath: function 16 -/
def impl_FindPath.q (id : Int) (x : S50) : Bool := decide (x.f0 = id)
set_option maxHeartbeats 400000 in
set_option maxRecDepth 100000 in
theorem impl_FindPath.clo (id : Int) (g : Nat) (x : S50) (w : World) (hc : w.cell? ⟨g, 0, none⟩ = some (.int .i64 id)) :
  Calls Try.prog 80 #[.agg #[.int .i64 x.f0, .int .i64 x.f1, .int .i64 x.f2, .int .i64 x.f3], .pointer (some ⟨g, 0, none⟩)] w fun e w' => e = .returned (.bool (impl_FindPath.q id x)) ∧ Below w.heap.size w w' := by
 have hu := Try.underlying50
 have hg : g < w.heap.size := World.block_lt_of_cell? w _ hc
 go_enter Try.func80, Try.ntmps80
 go_wp2
 go_ret
 exact ⟨by unfold impl_FindPath.q; first | rfl | simp, (Below.refl _ _).alloc (Nat.le_refl _) _⟩
def impl_FindPath.ix (id : Int) : List S50 → Int → Int
 | [], _ => -1
 | x :: l, i => if impl_FindPath.q id x = true then i else impl_FindPath.ix id l (i + 1)
theorem impl_FindPath.ix_hit (id : Int) : ∀ (l : List S50) (i : Int) (m : Nat) (hm : m < l.length), (∀ j (hj : j < m), impl_FindPath.q id (l[j]'(by omega)) = false) → impl_FindPath.q id l[m] = true → impl_FindPath.ix id l i = i + m
 | [], i, m, hm, _, _ => absurd hm (by simp)
 | p :: l, i, 0, hm, _, h => by
  unfold impl_FindPath.ix
  rw [if_pos (show impl_FindPath.q id p = true from h)]
  simp
 | p :: l, i, m + 1, hm, hne, h => by
  unfold impl_FindPath.ix
  have h2 : impl_FindPath.q id p = false := hne 0 (by omega)
  rw [if_neg (by rw [h2]; decide), impl_FindPath.ix_hit id l (i + 1) m (by simpa using hm) (fun j hj => hne (j + 1) (by omega)) h]
  omega
theorem impl_FindPath.ix_miss (id : Int) : ∀ (l : List S50) (i : Int), (∀ j (hj : j < l.length), impl_FindPath.q id l[j] = false) → impl_FindPath.ix id l i = -1
 | [], i, _ => rfl
 | p :: l, i, h => by
  unfold impl_FindPath.ix
  have h2 : impl_FindPath.q id p = false := h 0 (by simp)
  rw [if_neg (by rw [h2]; decide), impl_FindPath.ix_miss id l (i + 1) (fun j hj => h (j + 1) (by simpa using hj))]
theorem impl_FindPath.rd_ (l : List S50) (j : Nat) (hj : j < l.length) : rd_T50 l (j : Int) = l[j] := by
 unfold rd_T50; simp [List.getD_eq_getElem?_getD, List.getElem?_eq_getElem hj]
set_option maxHeartbeats 4000000 in
set_option maxRecDepth 100000 in
theorem impl_FindPath.idx (id : Int) (g : Nat) (A0 : Option Addr) (c0 : Nat) (l0 : List S50) (w : World) (hr0 : Kd.C k50 w A0 l0.length l0) (hc0 : l0.length ≤ c0) (hc : w.cell? ⟨g, 0, none⟩ = some (.int .i64 id)) :
  Calls Try.prog 79 #[.slice A0 l0.length c0, .func (.func 80) #[] #[.pointer (some ⟨g, 0, none⟩)]] w fun e w' => e = .returned (.int .i64 (impl_FindPath.ix id l0 0)) ∧ Below w.heap.size w w' := by
 have hu := Try.underlying50
 have HC := Aside0.mk hc
 clear hc
 have HR0 := Aside0.mk hr0
 have HC0 := Aside0.mk hc0
 have hlen : l0.length ≤ 9223372036854775807 := hr0.2.1
 clear hr0 hc0
 have HB := Aside0.mk (Below.refl w.heap.size w)
 go_enter Try.func79, Try.ntmps79
 go_wp2
 go_loopg [5, 8] l0.length (fun gg v5 v8 w' => ∃ kk : Nat, v8 = .int .i64 kk ∧ Aside0 (kk ≤ l0.length) ∧ Aside0 (l0.length - kk ≤ gg) ∧ Aside0 (Below w.heap.size w w') ∧ Aside0 (∀ j (hj : j < kk) (hl : j < l0.length), impl_FindPath.q id l0[j] = false))
 case atStart => exact ⟨0, rfl, ⟨Nat.zero_le _⟩, ⟨by omega⟩, HB, ⟨fun j hj => absurd hj (Nat.not_lt_zero _)⟩⟩
 case round =>
  clear HB
  obtain ⟨kk, rfl, hk, hg, HB, HA⟩ := hrel
  by_cases hlt : kk < l0.length
  ·
   have hltz : decide ((kk : Int) < (l0.length : Int)) = true := decide_eq_true (by omega)
   have hltn : decide (kk < l0.length) = true := decide_eq_true hlt
   have p0 : (0 : Int) ≤ (kk : Int) := by omega
   have q0 : (kk : Int) < (l0.length : Int) := by omega
   have HE := Aside0.mk (impl_FindPath.rd_ l0 kk hlt)
   obtain ⟨ad, e1, hx0, hx1, hx2, hx3⟩ := at_T50 HR0.out (kk : Int) p0 q0
   cases e1
   rw [Int.toNat_natCast] at hx0 hx1 hx2 hx3
   replace hx0 := hC HB hx0
   replace hx1 := hC HB hx1
   replace hx2 := hC HB hx2
   replace hx3 := hC HB hx3
   replace p0 := eq_true p0
   replace q0 := eq_true q0
   have hcl := fun (w' : World) (hb : Below w.heap.size w w') => impl_FindPath.clo id g (rd_T50 l0 (kk : Int)) w' ((hb.cell (World.block_lt_of_cell? w _ HC.out)).trans HC.out)
   cases hq : impl_FindPath.q id (rd_T50 l0 (kk : Int)) with
   | true =>
    rw [hq] at hcl
    have HCL := Aside0.mk hcl
    have HQ := Aside0.mk hq
    clear hcl hq
    go_wp2_with (go_at_call 80; refine (HCL.out _ HB.out).mono ?_; rintro e w1 ⟨rfl, hb1⟩)
    go_ret
    refine ⟨?_, below_step HB.out hb1⟩
    have hq := HQ.out
    rw [HE.out] at hq
    rw [impl_FindPath.ix_hit id l0 0 kk hlt (fun j hj => HA.out j hj (by omega)) hq, Int.zero_add]
    rfl
   | false =>
    rw [hq] at hcl
    have HCL := Aside0.mk hcl
    have HQ := Aside0.mk hq
    clear hcl hq
    go_wp2_with (go_at_call 80; refine (HCL.out _ HB.out).mono ?_; rintro e w1 ⟨rfl, hb1⟩)
    go_roundg (l0.length - (kk + 1))
    case measure => have := hg.out; omega
    case rel =>
     refine ⟨kk + 1, by go_num, ⟨by omega⟩, ⟨by omega⟩, ⟨below_step HB.out hb1⟩, ⟨fun j hj hl => ?_⟩⟩
     rcases Nat.lt_or_ge j kk with h3 | h3
     ·
      exact HA.out j h3 hl
     ·
      have h4 : j = kk := by omega
      subst h4
      rw [← HE.out]
      exact HQ.out
  ·
   have hge : decide ((kk : Int) < (l0.length : Int)) = false := decide_eq_false (by omega)
   have hgen : decide (kk < l0.length) = false := decide_eq_false hlt
   go_wp2
   go_ret
   refine ⟨?_, HB.out⟩
   rw [impl_FindPath.ix_miss id l0 0 (fun j hj => HA.out j (by omega) hj)]
   rfl

def impl_FindPath.f (l0 : List S50) (a1 : Int) : Option Int := some (impl_FindPath.ix a1 l0 0)
set_option maxHeartbeats 400000 in
set_option maxRecDepth 100000 in
theorem impl_FindPath.calls (A0 : Option Addr) (c0 : Nat) (l0 : List S50) (a1 : Int) (r : Int) (w : World) (hr0 : Kd.C k50 w A0 l0.length l0) (hc0 : l0.length ≤ c0) (h : impl_FindPath.f l0 a1 = some r) :
  Calls Try.prog 16 #[.slice A0 l0.length c0, .int .i64 a1] w fun e w' => e = .returned (.int .i64 r) ∧ Below w.heap.size w w' := by
 obtain rfl := Option.some.inj h
 have HR0 := Aside0.mk hr0
 have HC0 := Aside0.mk hc0
 clear hr0 hc0 h
 go_enter Try.func16, Try.ntmps16
 go_wp2_with (go_at_call 79; refine (impl_FindPath.idx a1 w.heap.size A0 c0 l0 _ ?s1 HC0.out ?s2).mono ?_; (case s1 => exact Kd.C_alloc HR0.out _); (case s2 => simp); rintro e w1 ⟨rfl, hb1⟩)
 go_ret
 exact ⟨rfl, below_step (below_alloc (Below.refl _ _) _) hb1⟩

/-! ### impl_InRange: function 75 -/
def impl_InRange.f (a0 : Int) (a1 : Int) (a2 : Int) : Option (Bool) := if a1 ≤ a0 then (some (decide (a0 ≤ a2))) else (some false)
set_option maxHeartbeats 8000000 in
set_option maxRecDepth 100000 in
theorem impl_InRange.calls (a0 : Int) (a1 : Int) (a2 : Int) (r : Bool) (w : World) (h : impl_InRange.f a0 a1 a2 = some r) :
  Calls Try.prog 75 #[.int .i64 a0, .int .i64 a1, .int .i64 a2] w fun e w' => e = .returned (.bool r) ∧ Drawn0 w w' := by
 have H : (if a1 ≤ a0 then (some (decide (a0 ≤ a2))) else (some false)) = some r := h
 clear h
 by_cases c4 : a1 ≤ a0
 ·
  rw [if_pos c4] at H
  have c4b0 := decide_eq_true c4
  clear c4
  obtain rfl := Option.some.inj H
  go_enter Try.func75, Try.ntmps75
  go_wp2
  go_ret
  exact ⟨rS, dD⟩
 rw [if_neg c4] at H
 have c4b0 := decide_eq_false c4
 clear c4
 obtain rfl := Option.some.inj H
 go_enter Try.func75, Try.ntmps75
 go_wp2
 go_ret
 exact ⟨rS, dD⟩

/-! ### impl_IsPath: function 90 -/
def impl_IsPath.f (a0_0 : Int) (a0_1 : Int) (a0_2 : Int) (a0_3 : Int) : Option (Bool) := (impl_InRange.f a0_0 1 20).bind fun t462 => (if t462 = true then ((impl_InRange.f a0_1 1 3).bind fun t463 => (if t463 = true then ((impl_InRange.f a0_2 0 3).bind fun t464 => (if t464 = true then ((impl_InRange.f a0_3 0 3).bind fun t465 => (if t465 = true then (some ((a0_2 == a0_3) == (a0_1 == 2))) else (some false))) else (some false))) else (some false))) else (some false))
set_option maxHeartbeats 8000000 in
set_option maxRecDepth 100000 in
theorem impl_IsPath.calls (a0_0 : Int) (a0_1 : Int) (a0_2 : Int) (a0_3 : Int) (r : Bool) (w : World) (h : impl_IsPath.f a0_0 a0_1 a0_2 a0_3 = some r) :
  Calls Try.prog 90 #[.agg #[.int .i64 a0_0, .int .i64 a0_1, .int .i64 a0_2, .int .i64 a0_3]] w fun e w' => e = .returned (.bool r) ∧ Below w.heap.size w w' := by
 have hu50 := Try.underlying50
 have HB := Aside0.mk (Below.refl w.heap.size w)
 have H : ((impl_InRange.f a0_0 1 20).bind fun t462 => (if t462 = true then ((impl_InRange.f a0_1 1 3).bind fun t463 => (if t463 = true then ((impl_InRange.f a0_2 0 3).bind fun t464 => (if t464 = true then ((impl_InRange.f a0_3 0 3).bind fun t465 => (if t465 = true then (some ((a0_2 == a0_3) == (a0_1 == 2))) else (some false))) else (some false))) else (some false))) else (some false))) = some r := h
 clear h
 obtain ⟨t462, A2, H⟩ := bindE H
 try dsimp only at H
 by_cases c3 : t462 = true
 ·
  subst c3
  have H1 : ((impl_InRange.f a0_1 1 3).bind fun t463 => (if t463 = true then ((impl_InRange.f a0_2 0 3).bind fun t464 => (if t464 = true then ((impl_InRange.f a0_3 0 3).bind fun t465 => (if t465 = true then (some ((a0_2 == a0_3) == (a0_1 == 2))) else (some false))) else (some false))) else (some false))) = some r := by rw [if_pos rfl] at H; exact H
  clear H
  have H := H1
  clear H1
  obtain ⟨t463, A4, H⟩ := bindE H
  try dsimp only at H
  by_cases c5 : t463 = true
  ·
   subst c5
   have H1 : ((impl_InRange.f a0_2 0 3).bind fun t464 => (if t464 = true then ((impl_InRange.f a0_3 0 3).bind fun t465 => (if t465 = true then (some ((a0_2 == a0_3) == (a0_1 == 2))) else (some false))) else (some false))) = some r := by rw [if_pos rfl] at H; exact H
   clear H
   have H := H1
   clear H1
   obtain ⟨t464, A6, H⟩ := bindE H
   try dsimp only at H
   by_cases c7 : t464 = true
   ·
    subst c7
    have H1 : ((impl_InRange.f a0_3 0 3).bind fun t465 => (if t465 = true then (some ((a0_2 == a0_3) == (a0_1 == 2))) else (some false))) = some r := by rw [if_pos rfl] at H; exact H
    clear H
    have H := H1
    clear H1
    obtain ⟨t465, A8, H⟩ := bindE H
    try dsimp only at H
    by_cases c9 : t465 = true
    ·
     subst c9
     have H1 : (some ((a0_2 == a0_3) == (a0_1 == 2))) = some r := by rw [if_pos rfl] at H; exact H
     clear H
     have H := H1
     clear H1
     obtain rfl := Option.some.inj H
     go_enter Try.func90, Try.ntmps90
     go_wp2_with (first | ((with_reducible refine gate_dst (N := 1) rfl ?_); refine bE (N := 1) (cs := #[.int .i64 a0_0, .int .i64 a0_1, .int .i64 a0_2, .int .i64 a0_3]) (t := 50) ?_; intro gb461 hg w10 hbox hb; have BK461 := Aside0.mk (hbox); have GW461 := gw w hg; have GE461 := gw w hg; replace HB := bs HB hb; clear hb hbox hg; obtain ⟨_, _, _, _, _, _, _, _⟩ := blkc4 BK461) | ((with_reducible refine gate_callee (f := 75) rfl ?_); refine gL (some 5) Try.func75 #[.int .i64 a0_0, .int .i64 1, .int .i64 20] ?_; (with_reducible refine (impl_InRange.calls a0_0 1 20 true _ A2.out).mono ?_); rintro e w' ⟨rfl, ⟨nd, rfl⟩⟩; refine ⟨_, rfl, ?_⟩) | (go_at_call 75; (with_reducible refine (impl_InRange.calls a0_1 1 3 true _ A4.out).mono ?_); rintro e w' ⟨rfl, ⟨nd, rfl⟩⟩) | (go_at_call 75; (with_reducible refine (impl_InRange.calls a0_2 0 3 true _ A6.out).mono ?_); rintro e w' ⟨rfl, ⟨nd, rfl⟩⟩) | (go_at_call 75; (with_reducible refine (impl_InRange.calls a0_3 0 3 true _ A8.out).mono ?_); rintro e w' ⟨rfl, ⟨nd, rfl⟩⟩))
     go_ret
     exact ⟨rA, bG⟩
    replace c9 := Bool.eq_false_iff.mpr c9
    subst c9
    have H1 : (some false) = some r := by rw [if_neg (show ¬ (false = true) by decide)] at H; exact H
    clear H
    have H := H1
    clear H1
    obtain rfl := Option.some.inj H
    go_enter Try.func90, Try.ntmps90
    go_wp2_with (first | ((with_reducible refine gate_dst (N := 1) rfl ?_); refine bE (N := 1) (cs := #[.int .i64 a0_0, .int .i64 a0_1, .int .i64 a0_2, .int .i64 a0_3]) (t := 50) ?_; intro gb461 hg w12 hbox hb; have BK461 := Aside0.mk (hbox); have GW461 := gw w hg; have GE461 := gw w hg; replace HB := bs HB hb; clear hb hbox hg; obtain ⟨_, _, _, _, _, _, _, _⟩ := blkc4 BK461) | ((with_reducible refine gate_callee (f := 75) rfl ?_); refine gL (some 5) Try.func75 #[.int .i64 a0_0, .int .i64 1, .int .i64 20] ?_; (with_reducible refine (impl_InRange.calls a0_0 1 20 true _ A2.out).mono ?_); rintro e w' ⟨rfl, ⟨nd, rfl⟩⟩; refine ⟨_, rfl, ?_⟩) | (go_at_call 75; (with_reducible refine (impl_InRange.calls a0_1 1 3 true _ A4.out).mono ?_); rintro e w' ⟨rfl, ⟨nd, rfl⟩⟩) | (go_at_call 75; (with_reducible refine (impl_InRange.calls a0_2 0 3 true _ A6.out).mono ?_); rintro e w' ⟨rfl, ⟨nd, rfl⟩⟩) | (go_at_call 75; (with_reducible refine (impl_InRange.calls a0_3 0 3 false _ A8.out).mono ?_); rintro e w' ⟨rfl, ⟨nd, rfl⟩⟩))
    go_ret
    exact ⟨rA, bG⟩
   replace c7 := Bool.eq_false_iff.mpr c7
   subst c7
   have H1 : (some false) = some r := by rw [if_neg (show ¬ (false = true) by decide)] at H; exact H
   clear H
   have H := H1
   clear H1
   obtain rfl := Option.some.inj H
   go_enter Try.func90, Try.ntmps90
   go_wp2_with (first | ((with_reducible refine gate_dst (N := 1) rfl ?_); refine bE (N := 1) (cs := #[.int .i64 a0_0, .int .i64 a0_1, .int .i64 a0_2, .int .i64 a0_3]) (t := 50) ?_; intro gb461 hg w14 hbox hb; have BK461 := Aside0.mk (hbox); have GW461 := gw w hg; have GE461 := gw w hg; replace HB := bs HB hb; clear hb hbox hg; obtain ⟨_, _, _, _, _, _, _, _⟩ := blkc4 BK461) | ((with_reducible refine gate_callee (f := 75) rfl ?_); refine gL (some 5) Try.func75 #[.int .i64 a0_0, .int .i64 1, .int .i64 20] ?_; (with_reducible refine (impl_InRange.calls a0_0 1 20 true _ A2.out).mono ?_); rintro e w' ⟨rfl, ⟨nd, rfl⟩⟩; refine ⟨_, rfl, ?_⟩) | (go_at_call 75; (with_reducible refine (impl_InRange.calls a0_1 1 3 true _ A4.out).mono ?_); rintro e w' ⟨rfl, ⟨nd, rfl⟩⟩) | (go_at_call 75; (with_reducible refine (impl_InRange.calls a0_2 0 3 false _ A6.out).mono ?_); rintro e w' ⟨rfl, ⟨nd, rfl⟩⟩))
   go_ret
   exact ⟨rA, bG⟩
  replace c5 := Bool.eq_false_iff.mpr c5
  subst c5
  have H1 : (some false) = some r := by rw [if_neg (show ¬ (false = true) by decide)] at H; exact H
  clear H
  have H := H1
  clear H1
  obtain rfl := Option.some.inj H
  go_enter Try.func90, Try.ntmps90
  go_wp2_with (first | ((with_reducible refine gate_dst (N := 1) rfl ?_); refine bE (N := 1) (cs := #[.int .i64 a0_0, .int .i64 a0_1, .int .i64 a0_2, .int .i64 a0_3]) (t := 50) ?_; intro gb461 hg w16 hbox hb; have BK461 := Aside0.mk (hbox); have GW461 := gw w hg; have GE461 := gw w hg; replace HB := bs HB hb; clear hb hbox hg; obtain ⟨_, _, _, _, _, _, _, _⟩ := blkc4 BK461) | ((with_reducible refine gate_callee (f := 75) rfl ?_); refine gL (some 5) Try.func75 #[.int .i64 a0_0, .int .i64 1, .int .i64 20] ?_; (with_reducible refine (impl_InRange.calls a0_0 1 20 true _ A2.out).mono ?_); rintro e w' ⟨rfl, ⟨nd, rfl⟩⟩; refine ⟨_, rfl, ?_⟩) | (go_at_call 75; (with_reducible refine (impl_InRange.calls a0_1 1 3 false _ A4.out).mono ?_); rintro e w' ⟨rfl, ⟨nd, rfl⟩⟩))
  go_ret
  exact ⟨rA, bG⟩
 replace c3 := Bool.eq_false_iff.mpr c3
 subst c3
 have H1 : (some false) = some r := by rw [if_neg (show ¬ (false = true) by decide)] at H; exact H
 clear H
 have H := H1
 clear H1
 obtain rfl := Option.some.inj H
 go_enter Try.func90, Try.ntmps90
 go_wp2_with (first | ((with_reducible refine gate_dst (N := 1) rfl ?_); refine bE (N := 1) (cs := #[.int .i64 a0_0, .int .i64 a0_1, .int .i64 a0_2, .int .i64 a0_3]) (t := 50) ?_; intro gb461 hg w18 hbox hb; have BK461 := Aside0.mk (hbox); have GW461 := gw w hg; have GE461 := gw w hg; replace HB := bs HB hb; clear hb hbox hg; obtain ⟨_, _, _, _, _, _, _, _⟩ := blkc4 BK461) | ((with_reducible refine gate_callee (f := 75) rfl ?_); refine gL (some 5) Try.func75 #[.int .i64 a0_0, .int .i64 1, .int .i64 20] ?_; (with_reducible refine (impl_InRange.calls a0_0 1 20 false _ A2.out).mono ?_); rintro e w' ⟨rfl, ⟨nd, rfl⟩⟩; refine ⟨_, rfl, ?_⟩))
 go_ret
 exact ⟨rA, bG⟩

end Go.Proofs.Ytjgonpcajedkjaa.P
