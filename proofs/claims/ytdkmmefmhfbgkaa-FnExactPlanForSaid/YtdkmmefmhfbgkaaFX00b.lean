/- Printed by myprint.py (wip/tools) over the kit's print: what Go's functions compute, and that they do. Lean checks it. -/
import Derived.Test.YtdkmmefmhfbgkaaF0
import Derived.Test.YtdkmmefmhfbgkaaFX00
namespace Go.Proofs.Ytdkmmefmhfbgkaa.P
open Go.RowKit Go.Proofs.YtdkmmefmhfbgkaaW.PrintWords Go.Proofs.YtdkmmefmhfbgkaaW.PrintLast Go.Proofs.YtdkmmefmhfbgkaaW.PrintMore Go.Proofs.Ytdkmmefmhfbgkaa.Sq
attribute [local go_sem] max2_int min2_int max_two min_two max_three min_three max_four min_four
set_option linter.unusedVariables false
set_option linter.unusedSimpArgs false

/-! ### spec_l6Put: function 123 -/
def spec_l6Put.l0 : Nat → List Int → Int → Int → Option (List Int)
 | 0, _, _, _ => none
 | k + 1, x0, x1, x5 => if x5 < (x0.length : Int) then (if 0 ≤ x5 then (if (rd x0 x5) < x1 then (spec_l6Put.l0 k x0 x1 (wrap64 (x5 + 1))) else (if (rd x0 x5) = x1 then ((some (([] : List Int) : List Int)).bind fun y171 => (if y171.length + x0.length < 17592186044416 then (some (y171 ++ x0)) else (none))) else ((some (([] : List Int) : List Int)).bind fun y177 => (if x5 ≤ (x0.length : Int) then (if y177.length + (x0.take (x5 : Int).toNat).length < 17592186044416 then ((some (y177 ++ (x0.take (x5 : Int).toNat) : List Int)).bind fun y181 => ((some (([x1] : List Int) : List Int)).bind fun y184 => (if y181.length + y184.length < 17592186044416 then ((some (y181 ++ y184 : List Int)).bind fun y187 => (if y187.length + (x0.drop (x5 : Int).toNat).length < 17592186044416 then (some (y187 ++ (x0.drop (x5 : Int).toNat))) else (none))) else (none)))) else (none)) else (none))))) else (none)) else ((some (([] : List Int) : List Int)).bind fun y194 => (if 0 ≤ x5 then (if x5 ≤ (x0.length : Int) then (if y194.length + (x0.take (x5 : Int).toNat).length < 17592186044416 then ((some (y194 ++ (x0.take (x5 : Int).toNat) : List Int)).bind fun y198 => ((some (([x1] : List Int) : List Int)).bind fun y201 => (if y198.length + y201.length < 17592186044416 then ((some (y198 ++ y201 : List Int)).bind fun y204 => (if y204.length + (x0.drop (x5 : Int).toNat).length < 17592186044416 then (some (y204 ++ (x0.drop (x5 : Int).toNat))) else (none))) else (none)))) else (none)) else (none)) else (none)))
def spec_l6Put.f (k : Nat) (l0 : List Int) (a1 : Int) : Option (List Int) := spec_l6Put.l0 k l0 a1 0
theorem spec_l6Put.mono_l : ∀ k, (∀ y0 y1 y2, LeO (spec_l6Put.l0 k y0 y1 y2) (spec_l6Put.l0 (k + 1) y0 y1 y2))
 | 0 => fun _ _ _ r h => by simp [spec_l6Put.l0] at h
 | k + 1 => by
  have ih0 := spec_l6Put.mono_l k
  ·
   intro y0 y1 y2
   unfold spec_l6Put.l0
   repeat' first | (with_reducible first | exact LeO.refl _ | exact LeO.none _ | refine LeO.ite ?_ ?_ | refine LeO.bind ?_ (fun _ => ?_) | exact ih0 _ _ _)
theorem spec_l6Put.mono : ∀ a0 a1 k, LeO (spec_l6Put.f k a0 a1) (spec_l6Put.f (k + 1) a0 a1) := by
 intro a0 a1 k
 have ih0 := spec_l6Put.mono_l k
 unfold spec_l6Put.f
 repeat' first | (with_reducible first | exact LeO.refl _ | exact LeO.none _ | refine LeO.ite ?_ ?_ | refine LeO.bind ?_ (fun _ => ?_) | exact ih0 _ _ _)
def spec_l6Put.T6 : Bool × List (List Nat × List Nat) := (true, [([], []), ([], []), ([], []), ([1, 2], [1, 2]), ([0, 3], [0, 3]), ([], []), ([5], [5]), ([4, 6, 4], [4, 6]), ([], []), ([], []), ([8, 9], [8, 9]), ([7, 10, 7], [7, 10]), ([11, 11, 0, 1, 2, 3, 4, 5, 6, 7, 8, 9, 10, 11], [11])])
def spec_l6Put.B6 : List Nat := [0, 0, 0, 6, 15, 0, 32, 127, 0, 0, 768, 2047, 4095]
theorem spec_l6Put.tab6 : rtab .any (opsOf Try.f123 6) = spec_l6Put.T6 := by kernel_rfl
theorem spec_l6Put.bits6 : waitsOk spec_l6Put.T6.2 spec_l6Put.B6 = true := by kernel_rfl
set_option maxHeartbeats 8000000 in
set_option maxRecDepth 100000 in
theorem spec_l6Put.calls (k : Nat) (A0 : Option Addr) (c0 : Nat) (l0 : List Int) (a1 : Int) (r : List Int) (w : World) (hr0 : Kd.C (Kd.int .i64) w A0 l0.length l0) (hc0 : l0.length ≤ c0) (h : spec_l6Put.f k l0 a1 = some r) :
  Calls Try.prog 123 #[.slice A0 l0.length c0, .int .i64 a1] w fun e w' => ∃ v0_ : Value, e = .returned (v0_) ∧ Kd.R (Kd.int .i64) 3 w' w.heap.size (fun _ => True) v0_ r ∧ Below w.heap.size w w' := by
 have HR0 := Aside0.mk hr0
 have HC0 := Aside0.mk hc0
 clear hr0 hc0
 have HB := Aside0.mk (Below.refl w.heap.size w)
 have H : (spec_l6Put.l0 k l0 a1 0) = some r := h
 clear h
 have H' := Aside0.mk H
 clear H
 go_enter Try.func123, Try.ntmps123
 go_wp2
 go_loopg [5] k (fun kq v5 w' => ∃ (x5_1 : Int), v5 = .int .i64 x5_1 ∧ Aside0 (spec_l6Put.l0 kq l0 a1 x5_1 = some r) ∧ Aside0 (kq ≤ k) ∧ Aside0 (Below w.heap.size w w'))
 case atStart => exact ⟨(0), rS, H', ⟨Nat.le_refl _⟩, ⟨bA⟩⟩
 case round =>
  clear H'
  try clear c1
  try clear p2
  obtain ⟨x5_1, rfl, HA, HK1, HB⟩ := hrel
  cases gk with
  | zero => exact absurd HA.out (by simp [spec_l6Put.l0])
  | succ k1 =>
   have H := HA.out
   clear HA
   simp only [spec_l6Put.l0] at H
   by_cases c3 : x5_1 < (l0.length : Int)
   ·
    rw [if_pos c3] at H
    have c3b0 := decide_eq_true c3
    clear c3
    have c4 : 0 ≤ x5_1 := ifN H
    replace H := ifT H
    have c4b0 := decide_eq_true c4
    clear c4
    by_cases c5 : (rd l0 x5_1) < a1
    ·
     rw [if_pos c5] at H
     have c5b0 := decide_eq_true c5
     clear c5
     have H' := Aside0.mk H
     clear H
     have p169 : 0 ≤ (x5_1 : Int) := dA
     have q169 : x5_1 < (l0.length : Int) := dA
     obtain ⟨ad169, e169, hx169_0⟩ := Kd.at_int HR0.out x5_1 p169 q169
     cases e169
     replace hx169_0 := hC HB hx169_0
     replace p169 := eq_true p169
     replace q169 := eq_true q169
     go_wp2
     go_roundg k1
     case measure => have := HK1.out; omega
     case rel => exact ⟨(wrap64 (x5_1 + 1)), rS, H', ⟨by have := HK1.out; omega⟩, ⟨bA⟩⟩
    ·
     rw [if_neg c5] at H
     have c5b0 := decide_eq_false c5
     clear c5
     by_cases c6 : (rd l0 x5_1) = a1
     ·
      rw [if_pos c6] at H
      have c6b0 : ((rd l0 x5_1) == a1) = true := beq_iff_eq.mpr c6
      have c6b1 : ((rd l0 x5_1) != a1) = false := bne_eq_false_iff_eq.mpr c6
      clear c6
      obtain ⟨y171, hy171⟩ : ∃ y_ : List Int, y_ = (([] : List Int)) := ⟨_, rfl⟩
      replace H : (if y171.length + l0.length < 17592186044416 then (some (y171 ++ l0)) else (none)) = some r := rH H hy171
      have Ny171 := Aside0.mk hy171
      clear hy171
      have c7 : y171.length + l0.length < 17592186044416 := ifN H
      replace H := ifT H
      have LMc7 := Aside0.mk c7
      clear c7
      obtain ⟨y174, hy174⟩ : ∃ y_ : List Int, y_ = (y171 ++ l0) := ⟨_, rfl⟩
      replace H : (some y174) = some r := rH H hy174
      have Ny174 := Aside0.mk hy174
      clear hy174
      obtain rfl := Option.some.inj H
      have p169 : 0 ≤ (x5_1 : Int) := dA
      have q169 : x5_1 < (l0.length : Int) := dA
      obtain ⟨ad169, e169, hx169_0⟩ := Kd.at_int HR0.out x5_1 p169 q169
      cases e169
      replace hx169_0 := hC HB hx169_0
      replace p169 := eq_true p169
      replace q169 := eq_true q169
      have p170 : 0 ≤ (x5_1 : Int) := dA
      have q170 : x5_1 < (l0.length : Int) := dA
      obtain ⟨ad170, e170, hx170_0⟩ := Kd.at_int HR0.out x5_1 p170 q170
      obtain rfl : ad169 = ad170 := (by injection e170)
      replace hx170_0 := hC HB hx170_0
      replace p170 := eq_true p170
      replace q170 := eq_true q170
      go_wp2_with (first | ((with_reducible refine gate_dst (N := 32) rfl ?_); refine Kd.R_lit (Kd.int .i64) _ 3 ?hg (N := 32) ?hd (xs := ([] : List Int)) (inner := []) (ok := fun _ => True) (okp := fun _ => True) ?hr ?hp (fun _ hk => hk) trivial (Below.refl _ _) (Nat.le_refl _) (by simp) ?_; (case hd => rfl); (case hg => rfl); (case hr => first | (go_simp; done) | (go_simp; rfl)); (case hp => exact (Reps.none _ _)); intro v172 w8 ho9 hb hg_ hnew_; clear hg_ hnew_; (first | rw [← Ny171.out] at ho9 | (simp only [Int.reduceToNat] at ho9; rw [← Ny171.out] at ho9)); have HO173 := Aside0.mk (Kd.R_lower ho9 (below_size bA)); replace HB := Aside0.mk (below_step bA hb); clear hb ho9) | ((with_reducible refine gate_builtin (b := .append) (xs := #[.tmp 32, .tmp 33]) rfl ?_); at_builtin; refine Kd.R_append_rows (Kd.int .i64) (w0 := w) w.heap.size rfl (.tmp 32) (.tmp 33) 41 3 (.int .i64 0) 8 rfl Try.underlying41 info3 rfl (by decide) (by omega) v172 y171 l0 _ _ _ (fun _ => True) (fun _ => False) rfl rfl ?aO ?aR (fun _ _ h => h) (fun _ h => h.elim) ?aF ?aB ?aS ?aL ?_; (case aR => repeat (first | exact (Kd.C_below HR0.out HB.out) | (with_reducible refine Kd.C_alloc ?_ _) | (with_reducible refine Kd.C_drewN ?_ _) | (with_reducible refine Kd.C_drew ?_))); (case aB => exact bA); (case aF => exact (fun _ _ => trivial)); (case aO => exact (rK HO173)); (case aS => exact (below_size bA)); (case aL => have := LMc7.out; omega); intro v175 w10 ho hb hg hat; rw [← Ny174.out] at ho; have n0_ := Aside0.mk (hb); have n1_ := Aside0.mk (ho); clear HB; clear HO173; have HB := n0_; have HO176 := n1_; clear n0_ n1_; clear ho hb hg hat))
      go_ret
      exact ⟨_, by first | rfl | (simp [errW_none, errW_some] <;> rfl) | (simp [*, errW_none, errW_some] <;> rfl), by (with_reducible repeat (first | apply Kd.R_alloc | apply Kd.R_drewN | apply Kd.R_drew)); exact HO176.out, bA⟩
     ·
      rw [if_neg c6] at H
      have c6b0 : ((rd l0 x5_1) == a1) = false := beq_eq_false_iff_ne.mpr c6
      have c6b1 : ((rd l0 x5_1) != a1) = true := bne_iff_ne.mpr c6
      obtain ⟨y177, hy177⟩ : ∃ y_ : List Int, y_ = (([] : List Int)) := ⟨_, rfl⟩
      replace H : (if x5_1 ≤ (l0.length : Int) then (if y177.length + (l0.take (x5_1 : Int).toNat).length < 17592186044416 then ((some (y177 ++ (l0.take (x5_1 : Int).toNat) : List Int)).bind fun y181 => ((some (([a1] : List Int) : List Int)).bind fun y184 => (if y181.length + y184.length < 17592186044416 then ((some (y181 ++ y184 : List Int)).bind fun y187 => (if y187.length + (l0.drop (x5_1 : Int).toNat).length < 17592186044416 then (some (y187 ++ (l0.drop (x5_1 : Int).toNat))) else (none))) else (none)))) else (none)) else (none)) = some r := rH H hy177
      have Ny177 := Aside0.mk hy177
      clear hy177
      have c11b0 := eq_true (dA : 0 ≤ x5_1)
      have c12 : x5_1 ≤ (l0.length : Int) := ifN H
      replace H := ifT H
      have c12b0 := eq_true c12
      have c12b1 := decide_eq_true c12
      clear c12
      have c13 : y177.length + (l0.take (x5_1 : Int).toNat).length < 17592186044416 := ifN H
      replace H := ifT H
      have LMc13 := Aside0.mk c13
      clear c13
      obtain ⟨y181, hy181⟩ : ∃ y_ : List Int, y_ = (y177 ++ (l0.take (x5_1 : Int).toNat)) := ⟨_, rfl⟩
      replace H : ((some (([a1] : List Int) : List Int)).bind fun y184 => (if y181.length + y184.length < 17592186044416 then ((some (y181 ++ y184 : List Int)).bind fun y187 => (if y187.length + (l0.drop (x5_1 : Int).toNat).length < 17592186044416 then (some (y187 ++ (l0.drop (x5_1 : Int).toNat))) else (none))) else (none))) = some r := rH H hy181
      have Ny181 := Aside0.mk hy181
      clear hy181
      obtain ⟨y184, hy184⟩ : ∃ y_ : List Int, y_ = (([a1] : List Int)) := ⟨_, rfl⟩
      replace H : (if y181.length + y184.length < 17592186044416 then ((some (y181 ++ y184 : List Int)).bind fun y187 => (if y187.length + (l0.drop (x5_1 : Int).toNat).length < 17592186044416 then (some (y187 ++ (l0.drop (x5_1 : Int).toNat))) else (none))) else (none)) = some r := rH H hy184
      have Ny184 := Aside0.mk hy184
      clear hy184
      have c14 : y181.length + y184.length < 17592186044416 := ifN H
      replace H := ifT H
      have LMc14 := Aside0.mk c14
      clear c14
      obtain ⟨y187, hy187⟩ : ∃ y_ : List Int, y_ = (y181 ++ y184) := ⟨_, rfl⟩
      replace H : (if y187.length + (l0.drop (x5_1 : Int).toNat).length < 17592186044416 then (some (y187 ++ (l0.drop (x5_1 : Int).toNat))) else (none)) = some r := rH H hy187
      have Ny187 := Aside0.mk hy187
      clear hy187
      have c15b0 := eq_true (dA : 0 ≤ x5_1)
      have c16b0 := eq_true (dA : x5_1 ≤ (l0.length : Int))
      have c17 : y187.length + (l0.drop (x5_1 : Int).toNat).length < 17592186044416 := ifN H
      replace H := ifT H
      have LMc17 := Aside0.mk c17
      clear c17
      obtain ⟨y191, hy191⟩ : ∃ y_ : List Int, y_ = (y187 ++ (l0.drop (x5_1 : Int).toNat)) := ⟨_, rfl⟩
      replace H : (some y191) = some r := rH H hy191
      have Ny191 := Aside0.mk hy191
      clear hy191
      obtain rfl := Option.some.inj H
      have p169 : 0 ≤ (x5_1 : Int) := dA
      have q169 : x5_1 < (l0.length : Int) := dA
      obtain ⟨ad169, e169, hx169_0⟩ := Kd.at_int HR0.out x5_1 p169 q169
      cases e169
      replace hx169_0 := hC HB hx169_0
      replace p169 := eq_true p169
      replace q169 := eq_true q169
      have p170 : 0 ≤ (x5_1 : Int) := dA
      have q170 : x5_1 < (l0.length : Int) := dA
      obtain ⟨ad170, e170, hx170_0⟩ := Kd.at_int HR0.out x5_1 p170 q170
      obtain rfl : ad169 = ad170 := (by injection e170)
      replace hx170_0 := hC HB hx170_0
      replace p170 := eq_true p170
      replace q170 := eq_true q170
      try go_wp2
      have HBo := HB
      replace HB := Aside0.mk (below_drew1 HB.out)
      obtain ⟨i019, hi019, _, hsz19, _⟩ := info_parts info3
      obtain ⟨hcut19, hA19, hC19⟩ := print_take_of (P := Try.prog) (Value.int .i64) 0 41 3 .i64 Try.underlying41 hi019 hsz19 (some ad169) c0 l0 x5_1 (dA) (dA) HC0.out
      have HR180 := Aside0.mk (Kd.C_of_reads (h1 := fun _ => rfl) (hA19 _ (Kd.reads_of_C HR0.out)))
      have HC180 := Aside0.mk hC19
      clear hA19 hC19 hi019 hsz19
      have HL180 := Aside0.mk (show (x5_1 : Int) ≤ (l0.length : Int) from (dA))
      obtain ⟨i020, hi020, _, hsz20, _⟩ := info_parts info3
      obtain ⟨A20, hcut20, hA20, hC20⟩ := print_drop_of (P := Try.prog) (Value.int .i64) 0 41 3 .i64 Try.underlying41 hi020 hsz20 (some ad169) c0 l0 x5_1 (dA) (dA) HC0.out
      have HR190 := Aside0.mk (Kd.C_of_reads (h1 := fun _ => rfl) (hA20 _ (Kd.reads_of_C HR0.out)))
      have HC190 := Aside0.mk hC20
      clear hA20 hC20 hi020 hsz20
      refine start_ (n := 13) (S := fun w' => True) (ds := []) (mb 13 0) (by kernel_rfl) rfl rfl trivial (fun hHeld => ?_); refine with_tabW spec_l6Put.tab6 spec_l6Put.bits6 (fun HT_ HW_ => ?_)
      generalize wr.drew = w18 at HB HR180 HR190 hHeld ⊢
      refine pa 1 36 (mb 13 2) HT_ ?_
      refine pa 2 37 (mb 13 6) HT_ ?_
      refine pa 3 38 (mb 13 14) HT_ ?_
      refine pa 5 40 (mb 13 46) HT_ ?_
      refine pa 8 43 (mb 13 302) HT_ ?_
      refine pa 9 44 (mb 13 814) HT_ ?_
      refine pa 10 45 (mb 13 1838) HT_ ?_
      refine join_ (σ := Value × Value × Value) 3 (mb 13 1919) (fun s_ => [(35, s_.1), (39, s_.2.1), (41, s_.2.2)]) (fun s_ w' => (Kd.R (Kd.int .i64) 3 w' w.heap.size (fun k_ => some k_ ≠ (s_.2.2 : Value).ownBlock) s_.2.1 y181) ∧ (Kd.R (Kd.int .i64) 3 w' w.heap.size (fun k_ => some k_ ≠ (s_.2.1 : Value).ownBlock) s_.2.2 y184) ∧ (Below w.heap.size w w')) ?_ ?_
      rotate_left
      ·
       intro hCont
       refine two_ (i := 0) (j := 6) (Ni := some 35) (Nj := some 41) (mb 13 1839) (mb 13 1902) rfl rfl rfl rfl (two_of HT_.out (by kernel_rfl)) (by decide) (by decide) (fun K hK => ?_) (fun K hK => ?_)
       ·
        skip
        refine Kd.R_lit_step (Kd.int .i64) _ 3 ?hg (N := 35) ?hd (xs := ([] : List Int)) (inner := []) (ok := fun _ => True) (okp := fun _ => True) ?hr ?hp (fun _ hk => hk) trivial (Below.refl _ _) (Nat.le_refl _) (by simp) ?_; (case hd => rfl); (case hg => rfl); (case hr => first | (go_simp; done) | (go_simp; rfl)); (case hp => exact (Reps.none _ _))
        intro v178 w21 ho22 hb hg_ hnew_
        clear hg_ hnew_
        (first | rw [← Ny177.out] at ho22 | (simp only [Int.reduceToNat] at ho22; rw [← Ny177.out] at ho22))
        have HO179 := Aside0.mk (Kd.R_lower ho22 (below_size bA))
        replace HB := Aside0.mk (below_step bA hb)
        clear hb ho22
        refine hK.out _ _ trivial (fun hHeld => ?_)
        clear hK K
        refine nB ?_
        refine two_ (i := 4) (j := 6) (Ni := some 39) (Nj := some 41) (mb 13 1855) (mb 13 1903) rfl rfl rfl rfl (two_of HT_.out (by kernel_rfl)) (by decide) (by decide) (fun K hK => ?_) (fun K hK => ?_)
        ·
         skip
         refine Kd.R_append_rows_step (Kd.int .i64) (w0 := w) w.heap.size (by rfl) (.tmp 35) (.tmp 38) 41 3 (.int .i64 0) 8 rfl Try.underlying41 info3 rfl (by decide) (by omega) v178 y177 (l0.take (x5_1 : Int).toNat) _ _ _ (fun _ => True) (fun _ => False) rfl rfl ?aO ?aR (fun _ _ h => h) (fun _ h => h.elim) ?aF ?aB ?aS ?aL ?_
         (case aR => (have hr_ := HR180.out; rw [show (l0.take (x5_1 : Int).toNat).length = x5_1.toNat from (by rw [List.length_take]; have h_ : (x5_1 : Int) ≤ (l0.length : Int) := dA; omega)] at hr_; (repeat (first | exact (Kd.C_below hr_ HB.out) | (with_reducible refine Kd.C_alloc ?_ _) | (with_reducible refine Kd.C_drewN ?_ _) | (with_reducible refine Kd.C_drew ?_))); done))
         (case aB => exact bA)
         (case aF => exact (fun _ _ => trivial))
         (case aO => exact (rK HO179))
         (case aS => exact (below_size bA))
         (case aL => have := LMc13.out; have hlx_ := (show (l0.take (x5_1 : Int).toNat).length = x5_1.toNat from (by rw [List.length_take]; have h_ : (x5_1 : Int) ≤ (l0.length : Int) := dA; omega)); omega)
         intro v182 w23 ho hb hg hat
         rw [← Ny181.out] at ho
         have n0_ := Aside0.mk (hb)
         have n1_ := Aside0.mk (ho)
         clear HB
         clear HO179
         have HB := n0_
         have HO183 := n1_
         clear n0_ n1_
         clear ho hb hg hat
         refine hK.out _ _ trivial (fun hHeld => ?_)
         clear hK K
         refine nB ?_
         refine oa 6 41 (mb 13 1919) HT_ (fun K hK => ?_)
         refine Kd.R_lit_step (Kd.int .i64) _ 3 ?hg (N := 41) ?hd (xs := ([a1] : List Int)) (inner := [.int .i64 a1]) (ok := fun _ => True) (okp := fun _ => True) ?hr ?hp (fun _ hk => hk) trivial (Below.refl _ _) (Nat.le_refl _) (by simp) ?_; (case hd => rfl); (case hg => rfl); (case hr => first | (go_simp; done) | (go_simp; rfl)); (case hp => exact (Reps.one (show Kd.M (Kd.int .i64) _ _ _ a1 [.int .i64 a1] from rfl) (Reps.none _ _)))
         intro v185 w24 ho25 hb hg_ hnew_
         clear hg_ hnew_
         (first | rw [← Ny184.out] at ho25 | (simp only [Int.reduceToNat] at ho25; rw [← Ny184.out] at ho25))
         have HO186 := Aside0.mk (Kd.R_lower (Kd.R_new' ho25 (Kd.R_lt (rK HO183))) (below_size bA))
         replace HO183 := Aside0.mk (Kd.R_elder' (rK HO183) (Kd.R_base ho25) hb)
         replace HB := Aside0.mk (below_step bA hb)
         clear hb ho25
         refine hK.out _ _ trivial (fun hHeld => ?_)
         clear hK K
         refine nB ?_
         exact mB (hCont (v178, v182, v185) _ ⟨(by (with_reducible repeat (first | apply Kd.R_alloc | apply Kd.R_drewN | apply Kd.R_drew)); exact Kd.R_mono HO183.out (fun _ hk => hk.2)), (by (with_reducible repeat (first | apply Kd.R_alloc | apply Kd.R_drewN | apply Kd.R_drew)); exact Kd.R_mono HO186.out (fun _ hk => hk.2)), bA⟩)
        ·
         skip
         refine Kd.R_lit_step (Kd.int .i64) _ 3 ?hg (N := 41) ?hd (xs := ([a1] : List Int)) (inner := [.int .i64 a1]) (ok := fun _ => True) (okp := fun _ => True) ?hr ?hp (fun _ hk => hk) trivial (Below.refl _ _) (Nat.le_refl _) (by simp) ?_; (case hd => rfl); (case hg => rfl); (case hr => first | (go_simp; done) | (go_simp; rfl)); (case hp => exact (Reps.one (show Kd.M (Kd.int .i64) _ _ _ a1 [.int .i64 a1] from rfl) (Reps.none _ _)))
         intro v185 w23 ho24 hb hg_ hnew_
         clear hg_ hnew_
         (first | rw [← Ny184.out] at ho24 | (simp only [Int.reduceToNat] at ho24; rw [← Ny184.out] at ho24))
         have HO186 := Aside0.mk (Kd.R_lower (Kd.R_new' ho24 (Kd.R_lt (rK HO179))) (below_size bA))
         replace HO179 := Aside0.mk (Kd.R_elder' (rK HO179) (Kd.R_base ho24) hb)
         replace HB := Aside0.mk (below_step bA hb)
         clear hb ho24
         refine hK.out _ _ trivial (fun hHeld => ?_)
         clear hK K
         refine nB ?_
         refine oa 4 39 (mb 13 1919) HT_ (fun K hK => ?_)
         refine Kd.R_append_rows_step (Kd.int .i64) (w0 := w) w.heap.size (by rfl) (.tmp 35) (.tmp 38) 41 3 (.int .i64 0) 8 rfl Try.underlying41 info3 rfl (by decide) (by omega) v178 y177 (l0.take (x5_1 : Int).toNat) _ _ _ (fun k_ => some k_ ≠ (v185 : Value).ownBlock) (fun _ => False) rfl rfl ?aO ?aR (fun _ _ h => h) (fun _ h => h.elim) ?aF ?aB ?aS ?aL ?_
         (case aR => (have hr_ := HR180.out; rw [show (l0.take (x5_1 : Int).toNat).length = x5_1.toNat from (by rw [List.length_take]; have h_ : (x5_1 : Int) ≤ (l0.length : Int) := dA; omega)] at hr_; (repeat (first | exact (Kd.C_below hr_ HB.out) | (with_reducible refine Kd.C_alloc ?_ _) | (with_reducible refine Kd.C_drewN ?_ _) | (with_reducible refine Kd.C_drew ?_))); done))
         (case aB => exact bA)
         (case aF => exact (fun k_ hk => Kd.fresh' (Kd.R_lt (rK HO186)) k_ hk))
         (case aO => exact (by (with_reducible repeat (first | apply Kd.R_alloc | apply Kd.R_drewN | apply Kd.R_drew)); exact Kd.R_mono HO179.out (fun _ hk => hk.2)))
         (case aS => exact (below_size bA))
         (case aL => have := LMc13.out; have hlx_ := (show (l0.take (x5_1 : Int).toNat).length = x5_1.toNat from (by rw [List.length_take]; have h_ : (x5_1 : Int) ≤ (l0.length : Int) := dA; omega)); omega)
         intro v182 w25 ho hb hg hat
         rw [← Ny181.out] at ho
         have n0_ := Aside0.mk (Kd.R_after (ok := (fun _ => True)) (rK HO186) hg hat)
         have n1_ := Aside0.mk (hb)
         have n2_ := Aside0.mk (ho)
         clear HO186
         clear HB
         clear HO179
         have HO186 := n0_
         have HB := n1_
         have HO183 := n2_
         clear n0_ n1_ n2_
         clear ho hb hg hat
         refine hK.out _ _ trivial (fun hHeld => ?_)
         clear hK K
         refine nB ?_
         exact mB (hCont (v178, v182, v185) _ ⟨(rK HO183), (by (with_reducible repeat (first | apply Kd.R_alloc | apply Kd.R_drewN | apply Kd.R_drew)); exact Kd.R_mono HO186.out (fun _ hk => hk.2)), bA⟩)
       ·
        skip
        refine Kd.R_lit_step (Kd.int .i64) _ 3 ?hg (N := 41) ?hd (xs := ([a1] : List Int)) (inner := [.int .i64 a1]) (ok := fun _ => True) (okp := fun _ => True) ?hr ?hp (fun _ hk => hk) trivial (Below.refl _ _) (Nat.le_refl _) (by simp) ?_; (case hd => rfl); (case hg => rfl); (case hr => first | (go_simp; done) | (go_simp; rfl)); (case hp => exact (Reps.one (show Kd.M (Kd.int .i64) _ _ _ a1 [.int .i64 a1] from rfl) (Reps.none _ _)))
        intro v185 w21 ho22 hb hg_ hnew_
        clear hg_ hnew_
        (first | rw [← Ny184.out] at ho22 | (simp only [Int.reduceToNat] at ho22; rw [← Ny184.out] at ho22))
        have HO186 := Aside0.mk (Kd.R_lower ho22 (below_size bA))
        replace HB := Aside0.mk (below_step bA hb)
        clear hb ho22
        refine hK.out _ _ trivial (fun hHeld => ?_)
        clear hK K
        refine nB ?_
        refine oa 0 35 (mb 13 1903) HT_ (fun K hK => ?_)
        refine Kd.R_lit_step (Kd.int .i64) _ 3 ?hg (N := 35) ?hd (xs := ([] : List Int)) (inner := []) (ok := fun _ => True) (okp := fun _ => True) ?hr ?hp (fun _ hk => hk) trivial (Below.refl _ _) (Nat.le_refl _) (by simp) ?_; (case hd => rfl); (case hg => rfl); (case hr => first | (go_simp; done) | (go_simp; rfl)); (case hp => exact (Reps.none _ _))
        intro v178 w23 ho24 hb hg_ hnew_
        clear hg_ hnew_
        (first | rw [← Ny177.out] at ho24 | (simp only [Int.reduceToNat] at ho24; rw [← Ny177.out] at ho24))
        have HO179 := Aside0.mk (Kd.R_lower (Kd.R_new' ho24 (Kd.R_lt (rK HO186))) (below_size bA))
        replace HO186 := Aside0.mk (Kd.R_elder' (rK HO186) (Kd.R_base ho24) hb)
        replace HB := Aside0.mk (below_step bA hb)
        clear hb ho24
        refine hK.out _ _ trivial (fun hHeld => ?_)
        clear hK K
        refine nB ?_
        refine oa 4 39 (mb 13 1919) HT_ (fun K hK => ?_)
        refine Kd.R_append_rows_step (Kd.int .i64) (w0 := w) w.heap.size (by rfl) (.tmp 35) (.tmp 38) 41 3 (.int .i64 0) 8 rfl Try.underlying41 info3 rfl (by decide) (by omega) v178 y177 (l0.take (x5_1 : Int).toNat) _ _ _ (fun k_ => some k_ ≠ (v185 : Value).ownBlock) (fun _ => False) rfl rfl ?aO ?aR (fun _ _ h => h) (fun _ h => h.elim) ?aF ?aB ?aS ?aL ?_
        (case aR => (have hr_ := HR180.out; rw [show (l0.take (x5_1 : Int).toNat).length = x5_1.toNat from (by rw [List.length_take]; have h_ : (x5_1 : Int) ≤ (l0.length : Int) := dA; omega)] at hr_; (repeat (first | exact (Kd.C_below hr_ HB.out) | (with_reducible refine Kd.C_alloc ?_ _) | (with_reducible refine Kd.C_drewN ?_ _) | (with_reducible refine Kd.C_drew ?_))); done))
        (case aB => exact bA)
        (case aF => exact (fun k_ hk => Kd.fresh' (Kd.R_lt (rK HO186)) k_ hk))
        (case aO => exact (by (with_reducible repeat (first | apply Kd.R_alloc | apply Kd.R_drewN | apply Kd.R_drew)); exact Kd.R_mono HO179.out (fun _ hk => hk.2)))
        (case aS => exact (below_size bA))
        (case aL => have := LMc13.out; have hlx_ := (show (l0.take (x5_1 : Int).toNat).length = x5_1.toNat from (by rw [List.length_take]; have h_ : (x5_1 : Int) ≤ (l0.length : Int) := dA; omega)); omega)
        intro v182 w25 ho hb hg hat
        rw [← Ny181.out] at ho
        have n0_ := Aside0.mk (Kd.R_after (ok := (fun _ => True)) (rK HO186) hg hat)
        have n1_ := Aside0.mk (hb)
        have n2_ := Aside0.mk (ho)
        clear HO186
        clear HB
        clear HO179
        have HO186 := n0_
        have HB := n1_
        have HO183 := n2_
        clear n0_ n1_ n2_
        clear ho hb hg hat
        refine hK.out _ _ trivial (fun hHeld => ?_)
        clear hK K
        refine nB ?_
        exact mB (hCont (v178, v182, v185) _ ⟨(rK HO183), (by (with_reducible repeat (first | apply Kd.R_alloc | apply Kd.R_drewN | apply Kd.R_drew)); exact Kd.R_mono HO186.out (fun _ hk => hk.2)), bA⟩)
      rintro ⟨v178, v182, v185⟩ w26 ⟨h0_, h1_, h2_⟩
      have n0_ : Aside0 (Kd.R (Kd.int .i64) 3 w26 w.heap.size (fun k_ => some k_ ≠ (v185 : Value).ownBlock) v182 y181) := ⟨h0_⟩
      have n1_ : Aside0 (Kd.R (Kd.int .i64) 3 w26 w.heap.size (fun k_ => some k_ ≠ (v182 : Value).ownBlock) v185 y184) := ⟨h1_⟩
      have n2_ : Aside0 (Below w.heap.size w w26) := ⟨h2_⟩
      clear HB
      clear h0_ h1_ h2_
      have HO183 := n0_
      have HO186 := n1_
      have HB := n2_
      clear n0_ n1_ n2_
      have hHeld := trivial
      obtain ⟨Ao28, co28, eo28⟩ := Kd.R_slice HO186.out
      (first | subst eo28 | (injection eo28 with f1_ f2_ f3_; have f4_ := f1_.symm; have f5_ := f3_.symm; clear f1_ f2_ f3_; subst f4_; subst f5_))
      refine norm_ (a' := ?_) ?_ ?_
      rotate_left
      ·
       simp only [putAll, Act.put, List.setIfInBounds_toArray, List.set_cons_zero, List.set_cons_succ]
       rfl
      refine oa 7 42 (mb 13 2047) HT_ (fun K hK => ?_)
      refine Kd.R_append_rows_step (Kd.int .i64) (w0 := w) w.heap.size (by rfl) (.tmp 39) (.tmp 41) 41 3 (.int .i64 0) 8 rfl Try.underlying41 info3 rfl (by decide) (by omega) v182 y181 y184 _ _ _ (fun k_ => some k_ ≠ (.slice Ao28 y184.length co28 : Value).ownBlock) (fun _ => False) rfl rfl ?aO ?aR (fun _ _ h => h) (fun _ h => h.elim) ?aF ?aB ?aS ?aL ?_
      (case aR => repeat (first | exact (Kd.R_reads' HO186.out).2.2 | (with_reducible refine Kd.C_alloc ?_ _) | (with_reducible refine Kd.C_drewN ?_ _) | (with_reducible refine Kd.C_drew ?_)))
      (case aB => exact bA)
      (case aF => exact (fun k_ hk => Kd.fresh' (Kd.R_lt (rK HO186)) k_ hk))
      (case aO => exact (rK HO183))
      (case aS => exact (below_size bA))
      (case aL => have := LMc14.out; omega)
      intro v188 w27 ho hb hg hat
      rw [← Ny187.out] at ho
      have n0_ := Aside0.mk (Kd.R_after (ok := (fun _ => True)) (by (with_reducible repeat (first | apply Kd.R_alloc | apply Kd.R_drewN | apply Kd.R_drew)); exact Kd.R_mono HO186.out (fun _ hk => ⟨trivial, hk⟩)) hg hat)
      have n1_ := Aside0.mk (hb)
      have n2_ := Aside0.mk (ho)
      clear HO186
      clear HB
      clear HO183
      have HO186 := n0_
      have HB := n1_
      have HO189 := n2_
      clear n0_ n1_ n2_
      clear ho hb hg hat
      refine hK.out _ _ trivial (fun hHeld => ?_)
      clear hK K
      refine nB ?_
      refine oa 11 46 (mb 13 4095) HT_ (fun K hK => ?_)
      refine Kd.R_append_rows_step (Kd.int .i64) (w0 := w) w.heap.size (by rfl) (.tmp 42) (.tmp 45) 41 3 (.int .i64 0) 8 rfl Try.underlying41 info3 rfl (by decide) (by omega) v188 y187 (l0.drop (x5_1 : Int).toNat) _ _ _ (fun k_ => some k_ ≠ (.slice Ao28 y184.length co28 : Value).ownBlock) (fun _ => False) rfl rfl ?aO ?aR (fun _ _ h => h) (fun _ h => h.elim) ?aF ?aB ?aS ?aL ?_
      (case aR => (have hr_ := HR190.out; rw [show (l0.drop (x5_1 : Int).toNat).length = (l0.length - x5_1.toNat) from List.length_drop] at hr_; (repeat (first | exact (Kd.C_below hr_ HB.out) | (with_reducible refine Kd.C_alloc ?_ _) | (with_reducible refine Kd.C_drewN ?_ _) | (with_reducible refine Kd.C_drew ?_))); done))
      (case aB => exact bA)
      (case aF => exact (fun k_ hk => Kd.fresh' (Kd.R_lt (rK HO186)) k_ hk))
      (case aO => exact (rK HO189))
      (case aS => exact (below_size bA))
      (case aL => have := LMc17.out; have hlx_ := (show (l0.drop (x5_1 : Int).toNat).length = (l0.length - x5_1.toNat) from List.length_drop); omega)
      intro v192 w29 ho hb hg hat
      rw [← Ny191.out] at ho
      have n0_ := Aside0.mk (Kd.R_after (ok := (fun _ => True)) (rK HO186) hg hat)
      have n1_ := Aside0.mk (hb)
      have n2_ := Aside0.mk (ho)
      clear HO186
      clear HB
      clear HO189
      have HO186 := n0_
      have HB := n1_
      have HO193 := n2_
      clear n0_ n1_ n2_
      clear ho hb hg hat
      refine hK.out _ _ trivial (fun hHeld => ?_)
      clear hK K
      refine nB ?_
      refine pa 12 4 (mb 13 8191) HT_ ?_
      refine eA HT_ ?_
      try go_wp2
      go_ret
      exact ⟨_, by first | rfl | (simp [errW_none, errW_some] <;> rfl) | (simp [*, errW_none, errW_some] <;> rfl), by (with_reducible repeat (first | apply Kd.R_alloc | apply Kd.R_drewN | apply Kd.R_drew)); exact Kd.R_mono HO193.out (fun _ hk => trivial), bA⟩
   ·
    rw [if_neg c3] at H
    have c3b0 := decide_eq_false c3
    clear c3
    obtain ⟨y194, hy194⟩ : ∃ y_ : List Int, y_ = (([] : List Int)) := ⟨_, rfl⟩
    replace H : (if 0 ≤ x5_1 then (if x5_1 ≤ (l0.length : Int) then (if y194.length + (l0.take (x5_1 : Int).toNat).length < 17592186044416 then ((some (y194 ++ (l0.take (x5_1 : Int).toNat) : List Int)).bind fun y198 => ((some (([a1] : List Int) : List Int)).bind fun y201 => (if y198.length + y201.length < 17592186044416 then ((some (y198 ++ y201 : List Int)).bind fun y204 => (if y204.length + (l0.drop (x5_1 : Int).toNat).length < 17592186044416 then (some (y204 ++ (l0.drop (x5_1 : Int).toNat))) else (none))) else (none)))) else (none)) else (none)) else (none)) = some r := rH H hy194
    have Ny194 := Aside0.mk hy194
    clear hy194
    have c30 : 0 ≤ x5_1 := ifN H
    replace H := ifT H
    have c30b0 := eq_true c30
    have c30b1 := decide_eq_true c30
    clear c30
    have c31 : x5_1 ≤ (l0.length : Int) := ifN H
    replace H := ifT H
    have c31b0 := eq_true c31
    have c31b1 := decide_eq_true c31
    clear c31
    have c32 : y194.length + (l0.take (x5_1 : Int).toNat).length < 17592186044416 := ifN H
    replace H := ifT H
    have LMc32 := Aside0.mk c32
    clear c32
    obtain ⟨y198, hy198⟩ : ∃ y_ : List Int, y_ = (y194 ++ (l0.take (x5_1 : Int).toNat)) := ⟨_, rfl⟩
    replace H : ((some (([a1] : List Int) : List Int)).bind fun y201 => (if y198.length + y201.length < 17592186044416 then ((some (y198 ++ y201 : List Int)).bind fun y204 => (if y204.length + (l0.drop (x5_1 : Int).toNat).length < 17592186044416 then (some (y204 ++ (l0.drop (x5_1 : Int).toNat))) else (none))) else (none))) = some r := rH H hy198
    have Ny198 := Aside0.mk hy198
    clear hy198
    obtain ⟨y201, hy201⟩ : ∃ y_ : List Int, y_ = (([a1] : List Int)) := ⟨_, rfl⟩
    replace H : (if y198.length + y201.length < 17592186044416 then ((some (y198 ++ y201 : List Int)).bind fun y204 => (if y204.length + (l0.drop (x5_1 : Int).toNat).length < 17592186044416 then (some (y204 ++ (l0.drop (x5_1 : Int).toNat))) else (none))) else (none)) = some r := rH H hy201
    have Ny201 := Aside0.mk hy201
    clear hy201
    have c33 : y198.length + y201.length < 17592186044416 := ifN H
    replace H := ifT H
    have LMc33 := Aside0.mk c33
    clear c33
    obtain ⟨y204, hy204⟩ : ∃ y_ : List Int, y_ = (y198 ++ y201) := ⟨_, rfl⟩
    replace H : (if y204.length + (l0.drop (x5_1 : Int).toNat).length < 17592186044416 then (some (y204 ++ (l0.drop (x5_1 : Int).toNat))) else (none)) = some r := rH H hy204
    have Ny204 := Aside0.mk hy204
    clear hy204
    have c34b0 := eq_true (dA : 0 ≤ x5_1)
    have c35b0 := eq_true (dA : x5_1 ≤ (l0.length : Int))
    have c36 : y204.length + (l0.drop (x5_1 : Int).toNat).length < 17592186044416 := ifN H
    replace H := ifT H
    have LMc36 := Aside0.mk c36
    clear c36
    obtain ⟨y208, hy208⟩ : ∃ y_ : List Int, y_ = (y204 ++ (l0.drop (x5_1 : Int).toNat)) := ⟨_, rfl⟩
    replace H : (some y208) = some r := rH H hy208
    have Ny208 := Aside0.mk hy208
    clear hy208
    obtain rfl := Option.some.inj H
    try go_wp2
    have HBo := HB
    replace HB := Aside0.mk (below_drew1 HB.out)
    obtain ⟨i038, hi038, _, hsz38, _⟩ := info_parts info3
    obtain ⟨hcut38, hA38, hC38⟩ := print_take_of (P := Try.prog) (Value.int .i64) 0 41 3 .i64 Try.underlying41 hi038 hsz38 A0 c0 l0 x5_1 (dA) (dA) HC0.out
    have HR197 := Aside0.mk (Kd.C_of_reads (h1 := fun _ => rfl) (hA38 _ (Kd.reads_of_C HR0.out)))
    have HC197 := Aside0.mk hC38
    clear hA38 hC38 hi038 hsz38
    have HL197 := Aside0.mk (show (x5_1 : Int) ≤ (l0.length : Int) from (dA))
    obtain ⟨i039, hi039, _, hsz39, _⟩ := info_parts info3
    obtain ⟨A39, hcut39, hA39, hC39⟩ := print_drop_of (P := Try.prog) (Value.int .i64) 0 41 3 .i64 Try.underlying41 hi039 hsz39 A0 c0 l0 x5_1 (dA) (dA) HC0.out
    have HR207 := Aside0.mk (Kd.C_of_reads (h1 := fun _ => rfl) (hA39 _ (Kd.reads_of_C HR0.out)))
    have HC207 := Aside0.mk hC39
    clear hA39 hC39 hi039 hsz39
    refine start_ (n := 13) (S := fun w' => True) (ds := []) (mb 13 0) (by kernel_rfl) rfl rfl trivial (fun hHeld => ?_); refine with_tabW spec_l6Put.tab6 spec_l6Put.bits6 (fun HT_ HW_ => ?_)
    generalize wr.drew = w37 at HB HR197 HR207 hHeld ⊢
    refine pa 1 36 (mb 13 2) HT_ ?_
    refine pa 2 37 (mb 13 6) HT_ ?_
    refine pa 3 38 (mb 13 14) HT_ ?_
    refine pa 5 40 (mb 13 46) HT_ ?_
    refine pa 8 43 (mb 13 302) HT_ ?_
    refine pa 9 44 (mb 13 814) HT_ ?_
    refine pa 10 45 (mb 13 1838) HT_ ?_
    refine join_ (σ := Value × Value × Value) 3 (mb 13 1919) (fun s_ => [(35, s_.1), (39, s_.2.1), (41, s_.2.2)]) (fun s_ w' => (Kd.R (Kd.int .i64) 3 w' w.heap.size (fun k_ => some k_ ≠ (s_.2.2 : Value).ownBlock) s_.2.1 y198) ∧ (Kd.R (Kd.int .i64) 3 w' w.heap.size (fun k_ => some k_ ≠ (s_.2.1 : Value).ownBlock) s_.2.2 y201) ∧ (Below w.heap.size w w')) ?_ ?_
    rotate_left
    ·
     intro hCont
     refine two_ (i := 0) (j := 6) (Ni := some 35) (Nj := some 41) (mb 13 1839) (mb 13 1902) rfl rfl rfl rfl (two_of HT_.out (by kernel_rfl)) (by decide) (by decide) (fun K hK => ?_) (fun K hK => ?_)
     ·
      skip
      refine Kd.R_lit_step (Kd.int .i64) _ 3 ?hg (N := 35) ?hd (xs := ([] : List Int)) (inner := []) (ok := fun _ => True) (okp := fun _ => True) ?hr ?hp (fun _ hk => hk) trivial (Below.refl _ _) (Nat.le_refl _) (by simp) ?_; (case hd => rfl); (case hg => rfl); (case hr => first | (go_simp; done) | (go_simp; rfl)); (case hp => exact (Reps.none _ _))
      intro v195 w40 ho41 hb hg_ hnew_
      clear hg_ hnew_
      (first | rw [← Ny194.out] at ho41 | (simp only [Int.reduceToNat] at ho41; rw [← Ny194.out] at ho41))
      have HO196 := Aside0.mk (Kd.R_lower ho41 (below_size bA))
      replace HB := Aside0.mk (below_step bA hb)
      clear hb ho41
      refine hK.out _ _ trivial (fun hHeld => ?_)
      clear hK K
      refine nB ?_
      refine two_ (i := 4) (j := 6) (Ni := some 39) (Nj := some 41) (mb 13 1855) (mb 13 1903) rfl rfl rfl rfl (two_of HT_.out (by kernel_rfl)) (by decide) (by decide) (fun K hK => ?_) (fun K hK => ?_)
      ·
       skip
       refine Kd.R_append_rows_step (Kd.int .i64) (w0 := w) w.heap.size (by rfl) (.tmp 35) (.tmp 38) 41 3 (.int .i64 0) 8 rfl Try.underlying41 info3 rfl (by decide) (by omega) v195 y194 (l0.take (x5_1 : Int).toNat) _ _ _ (fun _ => True) (fun _ => False) rfl rfl ?aO ?aR (fun _ _ h => h) (fun _ h => h.elim) ?aF ?aB ?aS ?aL ?_
       (case aR => (have hr_ := HR197.out; rw [show (l0.take (x5_1 : Int).toNat).length = x5_1.toNat from (by rw [List.length_take]; have h_ : (x5_1 : Int) ≤ (l0.length : Int) := dA; omega)] at hr_; (repeat (first | exact (Kd.C_below hr_ HB.out) | (with_reducible refine Kd.C_alloc ?_ _) | (with_reducible refine Kd.C_drewN ?_ _) | (with_reducible refine Kd.C_drew ?_))); done))
       (case aB => exact bA)
       (case aF => exact (fun _ _ => trivial))
       (case aO => exact (rK HO196))
       (case aS => exact (below_size bA))
       (case aL => have := LMc32.out; have hlx_ := (show (l0.take (x5_1 : Int).toNat).length = x5_1.toNat from (by rw [List.length_take]; have h_ : (x5_1 : Int) ≤ (l0.length : Int) := dA; omega)); omega)
       intro v199 w42 ho hb hg hat
       rw [← Ny198.out] at ho
       have n0_ := Aside0.mk (hb)
       have n1_ := Aside0.mk (ho)
       clear HB
       clear HO196
       have HB := n0_
       have HO200 := n1_
       clear n0_ n1_
       clear ho hb hg hat
       refine hK.out _ _ trivial (fun hHeld => ?_)
       clear hK K
       refine nB ?_
       refine oa 6 41 (mb 13 1919) HT_ (fun K hK => ?_)
       refine Kd.R_lit_step (Kd.int .i64) _ 3 ?hg (N := 41) ?hd (xs := ([a1] : List Int)) (inner := [.int .i64 a1]) (ok := fun _ => True) (okp := fun _ => True) ?hr ?hp (fun _ hk => hk) trivial (Below.refl _ _) (Nat.le_refl _) (by simp) ?_; (case hd => rfl); (case hg => rfl); (case hr => first | (go_simp; done) | (go_simp; rfl)); (case hp => exact (Reps.one (show Kd.M (Kd.int .i64) _ _ _ a1 [.int .i64 a1] from rfl) (Reps.none _ _)))
       intro v202 w43 ho44 hb hg_ hnew_
       clear hg_ hnew_
       (first | rw [← Ny201.out] at ho44 | (simp only [Int.reduceToNat] at ho44; rw [← Ny201.out] at ho44))
       have HO203 := Aside0.mk (Kd.R_lower (Kd.R_new' ho44 (Kd.R_lt (rK HO200))) (below_size bA))
       replace HO200 := Aside0.mk (Kd.R_elder' (rK HO200) (Kd.R_base ho44) hb)
       replace HB := Aside0.mk (below_step bA hb)
       clear hb ho44
       refine hK.out _ _ trivial (fun hHeld => ?_)
       clear hK K
       refine nB ?_
       exact mB (hCont (v195, v199, v202) _ ⟨(by (with_reducible repeat (first | apply Kd.R_alloc | apply Kd.R_drewN | apply Kd.R_drew)); exact Kd.R_mono HO200.out (fun _ hk => hk.2)), (by (with_reducible repeat (first | apply Kd.R_alloc | apply Kd.R_drewN | apply Kd.R_drew)); exact Kd.R_mono HO203.out (fun _ hk => hk.2)), bA⟩)
      ·
       skip
       refine Kd.R_lit_step (Kd.int .i64) _ 3 ?hg (N := 41) ?hd (xs := ([a1] : List Int)) (inner := [.int .i64 a1]) (ok := fun _ => True) (okp := fun _ => True) ?hr ?hp (fun _ hk => hk) trivial (Below.refl _ _) (Nat.le_refl _) (by simp) ?_; (case hd => rfl); (case hg => rfl); (case hr => first | (go_simp; done) | (go_simp; rfl)); (case hp => exact (Reps.one (show Kd.M (Kd.int .i64) _ _ _ a1 [.int .i64 a1] from rfl) (Reps.none _ _)))
       intro v202 w42 ho43 hb hg_ hnew_
       clear hg_ hnew_
       (first | rw [← Ny201.out] at ho43 | (simp only [Int.reduceToNat] at ho43; rw [← Ny201.out] at ho43))
       have HO203 := Aside0.mk (Kd.R_lower (Kd.R_new' ho43 (Kd.R_lt (rK HO196))) (below_size bA))
       replace HO196 := Aside0.mk (Kd.R_elder' (rK HO196) (Kd.R_base ho43) hb)
       replace HB := Aside0.mk (below_step bA hb)
       clear hb ho43
       refine hK.out _ _ trivial (fun hHeld => ?_)
       clear hK K
       refine nB ?_
       refine oa 4 39 (mb 13 1919) HT_ (fun K hK => ?_)
       refine Kd.R_append_rows_step (Kd.int .i64) (w0 := w) w.heap.size (by rfl) (.tmp 35) (.tmp 38) 41 3 (.int .i64 0) 8 rfl Try.underlying41 info3 rfl (by decide) (by omega) v195 y194 (l0.take (x5_1 : Int).toNat) _ _ _ (fun k_ => some k_ ≠ (v202 : Value).ownBlock) (fun _ => False) rfl rfl ?aO ?aR (fun _ _ h => h) (fun _ h => h.elim) ?aF ?aB ?aS ?aL ?_
       (case aR => (have hr_ := HR197.out; rw [show (l0.take (x5_1 : Int).toNat).length = x5_1.toNat from (by rw [List.length_take]; have h_ : (x5_1 : Int) ≤ (l0.length : Int) := dA; omega)] at hr_; (repeat (first | exact (Kd.C_below hr_ HB.out) | (with_reducible refine Kd.C_alloc ?_ _) | (with_reducible refine Kd.C_drewN ?_ _) | (with_reducible refine Kd.C_drew ?_))); done))
       (case aB => exact bA)
       (case aF => exact (fun k_ hk => Kd.fresh' (Kd.R_lt (rK HO203)) k_ hk))
       (case aO => exact (by (with_reducible repeat (first | apply Kd.R_alloc | apply Kd.R_drewN | apply Kd.R_drew)); exact Kd.R_mono HO196.out (fun _ hk => hk.2)))
       (case aS => exact (below_size bA))
       (case aL => have := LMc32.out; have hlx_ := (show (l0.take (x5_1 : Int).toNat).length = x5_1.toNat from (by rw [List.length_take]; have h_ : (x5_1 : Int) ≤ (l0.length : Int) := dA; omega)); omega)
       intro v199 w44 ho hb hg hat
       rw [← Ny198.out] at ho
       have n0_ := Aside0.mk (Kd.R_after (ok := (fun _ => True)) (rK HO203) hg hat)
       have n1_ := Aside0.mk (hb)
       have n2_ := Aside0.mk (ho)
       clear HO203
       clear HB
       clear HO196
       have HO203 := n0_
       have HB := n1_
       have HO200 := n2_
       clear n0_ n1_ n2_
       clear ho hb hg hat
       refine hK.out _ _ trivial (fun hHeld => ?_)
       clear hK K
       refine nB ?_
       exact mB (hCont (v195, v199, v202) _ ⟨(rK HO200), (by (with_reducible repeat (first | apply Kd.R_alloc | apply Kd.R_drewN | apply Kd.R_drew)); exact Kd.R_mono HO203.out (fun _ hk => hk.2)), bA⟩)
     ·
      skip
      refine Kd.R_lit_step (Kd.int .i64) _ 3 ?hg (N := 41) ?hd (xs := ([a1] : List Int)) (inner := [.int .i64 a1]) (ok := fun _ => True) (okp := fun _ => True) ?hr ?hp (fun _ hk => hk) trivial (Below.refl _ _) (Nat.le_refl _) (by simp) ?_; (case hd => rfl); (case hg => rfl); (case hr => first | (go_simp; done) | (go_simp; rfl)); (case hp => exact (Reps.one (show Kd.M (Kd.int .i64) _ _ _ a1 [.int .i64 a1] from rfl) (Reps.none _ _)))
      intro v202 w40 ho41 hb hg_ hnew_
      clear hg_ hnew_
      (first | rw [← Ny201.out] at ho41 | (simp only [Int.reduceToNat] at ho41; rw [← Ny201.out] at ho41))
      have HO203 := Aside0.mk (Kd.R_lower ho41 (below_size bA))
      replace HB := Aside0.mk (below_step bA hb)
      clear hb ho41
      refine hK.out _ _ trivial (fun hHeld => ?_)
      clear hK K
      refine nB ?_
      refine oa 0 35 (mb 13 1903) HT_ (fun K hK => ?_)
      refine Kd.R_lit_step (Kd.int .i64) _ 3 ?hg (N := 35) ?hd (xs := ([] : List Int)) (inner := []) (ok := fun _ => True) (okp := fun _ => True) ?hr ?hp (fun _ hk => hk) trivial (Below.refl _ _) (Nat.le_refl _) (by simp) ?_; (case hd => rfl); (case hg => rfl); (case hr => first | (go_simp; done) | (go_simp; rfl)); (case hp => exact (Reps.none _ _))
      intro v195 w42 ho43 hb hg_ hnew_
      clear hg_ hnew_
      (first | rw [← Ny194.out] at ho43 | (simp only [Int.reduceToNat] at ho43; rw [← Ny194.out] at ho43))
      have HO196 := Aside0.mk (Kd.R_lower (Kd.R_new' ho43 (Kd.R_lt (rK HO203))) (below_size bA))
      replace HO203 := Aside0.mk (Kd.R_elder' (rK HO203) (Kd.R_base ho43) hb)
      replace HB := Aside0.mk (below_step bA hb)
      clear hb ho43
      refine hK.out _ _ trivial (fun hHeld => ?_)
      clear hK K
      refine nB ?_
      refine oa 4 39 (mb 13 1919) HT_ (fun K hK => ?_)
      refine Kd.R_append_rows_step (Kd.int .i64) (w0 := w) w.heap.size (by rfl) (.tmp 35) (.tmp 38) 41 3 (.int .i64 0) 8 rfl Try.underlying41 info3 rfl (by decide) (by omega) v195 y194 (l0.take (x5_1 : Int).toNat) _ _ _ (fun k_ => some k_ ≠ (v202 : Value).ownBlock) (fun _ => False) rfl rfl ?aO ?aR (fun _ _ h => h) (fun _ h => h.elim) ?aF ?aB ?aS ?aL ?_
      (case aR => (have hr_ := HR197.out; rw [show (l0.take (x5_1 : Int).toNat).length = x5_1.toNat from (by rw [List.length_take]; have h_ : (x5_1 : Int) ≤ (l0.length : Int) := dA; omega)] at hr_; (repeat (first | exact (Kd.C_below hr_ HB.out) | (with_reducible refine Kd.C_alloc ?_ _) | (with_reducible refine Kd.C_drewN ?_ _) | (with_reducible refine Kd.C_drew ?_))); done))
      (case aB => exact bA)
      (case aF => exact (fun k_ hk => Kd.fresh' (Kd.R_lt (rK HO203)) k_ hk))
      (case aO => exact (by (with_reducible repeat (first | apply Kd.R_alloc | apply Kd.R_drewN | apply Kd.R_drew)); exact Kd.R_mono HO196.out (fun _ hk => hk.2)))
      (case aS => exact (below_size bA))
      (case aL => have := LMc32.out; have hlx_ := (show (l0.take (x5_1 : Int).toNat).length = x5_1.toNat from (by rw [List.length_take]; have h_ : (x5_1 : Int) ≤ (l0.length : Int) := dA; omega)); omega)
      intro v199 w44 ho hb hg hat
      rw [← Ny198.out] at ho
      have n0_ := Aside0.mk (Kd.R_after (ok := (fun _ => True)) (rK HO203) hg hat)
      have n1_ := Aside0.mk (hb)
      have n2_ := Aside0.mk (ho)
      clear HO203
      clear HB
      clear HO196
      have HO203 := n0_
      have HB := n1_
      have HO200 := n2_
      clear n0_ n1_ n2_
      clear ho hb hg hat
      refine hK.out _ _ trivial (fun hHeld => ?_)
      clear hK K
      refine nB ?_
      exact mB (hCont (v195, v199, v202) _ ⟨(rK HO200), (by (with_reducible repeat (first | apply Kd.R_alloc | apply Kd.R_drewN | apply Kd.R_drew)); exact Kd.R_mono HO203.out (fun _ hk => hk.2)), bA⟩)
    rintro ⟨v195, v199, v202⟩ w45 ⟨h0_, h1_, h2_⟩
    have n0_ : Aside0 (Kd.R (Kd.int .i64) 3 w45 w.heap.size (fun k_ => some k_ ≠ (v202 : Value).ownBlock) v199 y198) := ⟨h0_⟩
    have n1_ : Aside0 (Kd.R (Kd.int .i64) 3 w45 w.heap.size (fun k_ => some k_ ≠ (v199 : Value).ownBlock) v202 y201) := ⟨h1_⟩
    have n2_ : Aside0 (Below w.heap.size w w45) := ⟨h2_⟩
    clear HB
    clear h0_ h1_ h2_
    have HO200 := n0_
    have HO203 := n1_
    have HB := n2_
    clear n0_ n1_ n2_
    have hHeld := trivial
    obtain ⟨Ao47, co47, eo47⟩ := Kd.R_slice HO203.out
    (first | subst eo47 | (injection eo47 with f1_ f2_ f3_; have f4_ := f1_.symm; have f5_ := f3_.symm; clear f1_ f2_ f3_; subst f4_; subst f5_))
    refine norm_ (a' := ?_) ?_ ?_
    rotate_left
    ·
     simp only [putAll, Act.put, List.setIfInBounds_toArray, List.set_cons_zero, List.set_cons_succ]
     rfl
    refine oa 7 42 (mb 13 2047) HT_ (fun K hK => ?_)
    refine Kd.R_append_rows_step (Kd.int .i64) (w0 := w) w.heap.size (by rfl) (.tmp 39) (.tmp 41) 41 3 (.int .i64 0) 8 rfl Try.underlying41 info3 rfl (by decide) (by omega) v199 y198 y201 _ _ _ (fun k_ => some k_ ≠ (.slice Ao47 y201.length co47 : Value).ownBlock) (fun _ => False) rfl rfl ?aO ?aR (fun _ _ h => h) (fun _ h => h.elim) ?aF ?aB ?aS ?aL ?_
    (case aR => repeat (first | exact (Kd.R_reads' HO203.out).2.2 | (with_reducible refine Kd.C_alloc ?_ _) | (with_reducible refine Kd.C_drewN ?_ _) | (with_reducible refine Kd.C_drew ?_)))
    (case aB => exact bA)
    (case aF => exact (fun k_ hk => Kd.fresh' (Kd.R_lt (rK HO203)) k_ hk))
    (case aO => exact (rK HO200))
    (case aS => exact (below_size bA))
    (case aL => have := LMc33.out; omega)
    intro v205 w46 ho hb hg hat
    rw [← Ny204.out] at ho
    have n0_ := Aside0.mk (Kd.R_after (ok := (fun _ => True)) (by (with_reducible repeat (first | apply Kd.R_alloc | apply Kd.R_drewN | apply Kd.R_drew)); exact Kd.R_mono HO203.out (fun _ hk => ⟨trivial, hk⟩)) hg hat)
    have n1_ := Aside0.mk (hb)
    have n2_ := Aside0.mk (ho)
    clear HO203
    clear HB
    clear HO200
    have HO203 := n0_
    have HB := n1_
    have HO206 := n2_
    clear n0_ n1_ n2_
    clear ho hb hg hat
    refine hK.out _ _ trivial (fun hHeld => ?_)
    clear hK K
    refine nB ?_
    refine oa 11 46 (mb 13 4095) HT_ (fun K hK => ?_)
    refine Kd.R_append_rows_step (Kd.int .i64) (w0 := w) w.heap.size (by rfl) (.tmp 42) (.tmp 45) 41 3 (.int .i64 0) 8 rfl Try.underlying41 info3 rfl (by decide) (by omega) v205 y204 (l0.drop (x5_1 : Int).toNat) _ _ _ (fun k_ => some k_ ≠ (.slice Ao47 y201.length co47 : Value).ownBlock) (fun _ => False) rfl rfl ?aO ?aR (fun _ _ h => h) (fun _ h => h.elim) ?aF ?aB ?aS ?aL ?_
    (case aR => (have hr_ := HR207.out; rw [show (l0.drop (x5_1 : Int).toNat).length = (l0.length - x5_1.toNat) from List.length_drop] at hr_; (repeat (first | exact (Kd.C_below hr_ HB.out) | (with_reducible refine Kd.C_alloc ?_ _) | (with_reducible refine Kd.C_drewN ?_ _) | (with_reducible refine Kd.C_drew ?_))); done))
    (case aB => exact bA)
    (case aF => exact (fun k_ hk => Kd.fresh' (Kd.R_lt (rK HO203)) k_ hk))
    (case aO => exact (rK HO206))
    (case aS => exact (below_size bA))
    (case aL => have := LMc36.out; have hlx_ := (show (l0.drop (x5_1 : Int).toNat).length = (l0.length - x5_1.toNat) from List.length_drop); omega)
    intro v209 w48 ho hb hg hat
    rw [← Ny208.out] at ho
    have n0_ := Aside0.mk (Kd.R_after (ok := (fun _ => True)) (rK HO203) hg hat)
    have n1_ := Aside0.mk (hb)
    have n2_ := Aside0.mk (ho)
    clear HO203
    clear HB
    clear HO206
    have HO203 := n0_
    have HB := n1_
    have HO210 := n2_
    clear n0_ n1_ n2_
    clear ho hb hg hat
    refine hK.out _ _ trivial (fun hHeld => ?_)
    clear hK K
    refine nB ?_
    refine pa 12 4 (mb 13 8191) HT_ ?_
    refine eA HT_ ?_
    try go_wp2
    go_ret
    exact ⟨_, by first | rfl | (simp [errW_none, errW_some] <;> rfl) | (simp [*, errW_none, errW_some] <;> rfl), by (with_reducible repeat (first | apply Kd.R_alloc | apply Kd.R_drewN | apply Kd.R_drew)); exact Kd.R_mono HO210.out (fun _ hk => trivial), bA⟩

/-! ### spec_AddToStage: function 94 -/
mutual
def spec_AddToStage.l0 : Nat → List (S89) → List Int → List Int → Int → Option (List Int)
 | 0, _, _, _, _ => none
 | k + 1, x0, x1, x5, x6 => if x6 < (x0.length : Int) then ((spec_IsTogether.f k x0 x1).bind fun t217 => (spec_AddToStage.j1 k x0 x1 x5 x6 t217)) else (spec_AddToStage.j1 k x0 x1 x5 x6 false)
def spec_AddToStage.j1 : Nat → List (S89) → List Int → List Int → Int → Bool → Option (List Int)
 | 0, _, _, _, _, _ => none
 | k + 1, x0, x1, x5, x6, x19 => if x19 = true then (if 0 ≤ x6 then (if x6 < (x0.length : Int) then ((spec_l6Put.f k x5 ((rd_T89 x0 x6).f0)).bind fun t219 => ((spec_IsTogether.f k x0 t219).bind fun t222 => (if t222 = true then (spec_AddToStage.l0 k x0 x1 t219 (wrap64 (x6 + 1))) else (spec_AddToStage.l0 k x0 x1 x5 (wrap64 (x6 + 1)))))) else (none)) else (none)) else (some x5)
end
def spec_AddToStage.f (k : Nat) (l0 : List (S89)) (l1 : List Int) : Option (List Int) := (some (([] : List Int) : List Int)).bind fun y211 => (if y211.length + l1.length < 17592186044416 then (spec_AddToStage.l0 k l0 l1 (y211 ++ l1) 0) else (none))
theorem spec_AddToStage.mono_l : ∀ k, (∀ y0 y1 y2 y3, LeO (spec_AddToStage.l0 k y0 y1 y2 y3) (spec_AddToStage.l0 (k + 1) y0 y1 y2 y3)) ∧ (∀ y0 y1 y2 y3 y4, LeO (spec_AddToStage.j1 k y0 y1 y2 y3 y4) (spec_AddToStage.j1 (k + 1) y0 y1 y2 y3 y4))
 | 0 => ⟨fun _ _ _ _ r h => by simp [spec_AddToStage.l0] at h, fun _ _ _ _ _ r h => by simp [spec_AddToStage.j1] at h⟩
 | k + 1 => by
  obtain ⟨ih0, ih1⟩ := spec_AddToStage.mono_l k
  refine ⟨?_, ?_⟩
  ·
   intro y0 y1 y2 y3
   unfold spec_AddToStage.l0
   repeat' first | (with_reducible first | exact LeO.refl _ | exact LeO.none _ | refine LeO.ite ?_ ?_ | refine LeO.bind ?_ (fun _ => ?_) | exact ih0 _ _ _ _ | exact ih1 _ _ _ _ _ | exact spec_IsTogether.mono _ _ _ | exact spec_l6Put.mono _ _ _)
  ·
   intro y0 y1 y2 y3 y4
   unfold spec_AddToStage.j1
   repeat' first | (with_reducible first | exact LeO.refl _ | exact LeO.none _ | refine LeO.ite ?_ ?_ | refine LeO.bind ?_ (fun _ => ?_) | exact ih0 _ _ _ _ | exact ih1 _ _ _ _ _ | exact spec_IsTogether.mono _ _ _ | exact spec_l6Put.mono _ _ _)
theorem spec_AddToStage.mono : ∀ a0 a1 k, LeO (spec_AddToStage.f k a0 a1) (spec_AddToStage.f (k + 1) a0 a1) := by
 intro a0 a1 k
 obtain ⟨ih0, ih1⟩ := spec_AddToStage.mono_l k
 unfold spec_AddToStage.f
 repeat' first | (with_reducible first | exact LeO.refl _ | exact LeO.none _ | refine LeO.ite ?_ ?_ | refine LeO.bind ?_ (fun _ => ?_) | exact ih0 _ _ _ _ | exact ih1 _ _ _ _ _ | exact spec_IsTogether.mono _ _ _ | exact spec_l6Put.mono _ _ _)
set_option maxHeartbeats 8000000 in
set_option maxRecDepth 100000 in
theorem spec_AddToStage.calls (k : Nat) (A0 : Option Addr) (c0 : Nat) (l0 : List (S89)) (A1 : Option Addr) (c1 : Nat) (l1 : List Int) (r : List Int) (w : World) (hr0 : Kd.C k89 w A0 l0.length l0) (hc0 : l0.length ≤ c0) (hr1 : Kd.C (Kd.int .i64) w A1 l1.length l1) (hc1 : l1.length ≤ c1) (h : spec_AddToStage.f k l0 l1 = some r) :
  Calls Try.prog 94 #[.slice A0 l0.length c0, .slice A1 l1.length c1] w fun e w' => ∃ v0_ : Value, e = .returned (v0_) ∧ Kd.R (Kd.int .i64) 3 w' w.heap.size (fun _ => True) v0_ r ∧ Below w.heap.size w w' := by
 have HR0 := Aside0.mk hr0
 have HC0 := Aside0.mk hc0
 clear hr0 hc0
 have HR1 := Aside0.mk hr1
 have HC1 := Aside0.mk hc1
 clear hr1 hc1
 have HB := Aside0.mk (Below.refl w.heap.size w)
 have H : ((some (([] : List Int) : List Int)).bind fun y211 => (if y211.length + l1.length < 17592186044416 then (spec_AddToStage.l0 k l0 l1 (y211 ++ l1) 0) else (none))) = some r := h
 clear h
 obtain ⟨y211, hy211⟩ : ∃ y_ : List Int, y_ = (([] : List Int)) := ⟨_, rfl⟩
 replace H : (if y211.length + l1.length < 17592186044416 then (spec_AddToStage.l0 k l0 l1 (y211 ++ l1) 0) else (none)) = some r := rH H hy211
 have Ny211 := Aside0.mk hy211
 clear hy211
 have c3 : y211.length + l1.length < 17592186044416 := ifN H
 replace H := ifT H
 have LMc3 := Aside0.mk c3
 clear c3
 obtain ⟨y214, hy214⟩ : ∃ y_ : List Int, y_ = (y211 ++ l1) := ⟨_, rfl⟩
 replace H : (spec_AddToStage.l0 k l0 l1 y214 0) = some r := rH H hy214
 have Ny214 := Aside0.mk hy214
 clear hy214
 have H' := Aside0.mk H
 clear H
 go_enter Try.func94, Try.ntmps94
 go_wp2_with (first | ((with_reducible refine gate_dst (N := 8) rfl ?_); refine Kd.R_lit (Kd.int .i64) _ 3 ?hg (N := 8) ?hd (xs := ([] : List Int)) (inner := []) (ok := fun _ => True) (okp := fun _ => True) ?hr ?hp (fun _ hk => hk) trivial (Below.refl _ _) (Nat.le_refl _) (by simp) ?_; (case hd => rfl); (case hg => rfl); (case hr => first | (go_simp; done) | (go_simp; rfl)); (case hp => exact (Reps.none _ _)); intro v212 w4 ho5 hb hg_ hnew_; clear hg_ hnew_; (first | rw [← Ny211.out] at ho5 | (simp only [Int.reduceToNat] at ho5; rw [← Ny211.out] at ho5)); have HO213 := Aside0.mk (Kd.R_lower ho5 (below_size bA)); replace HB := Aside0.mk (below_step bA hb); clear hb ho5) | ((with_reducible refine gate_builtin (b := .append) (xs := #[.tmp 8, .tmp 9]) rfl ?_); at_builtin; refine Kd.R_append_rows (Kd.int .i64) (w0 := w) w.heap.size rfl (.tmp 8) (.tmp 9) 41 3 (.int .i64 0) 8 rfl Try.underlying41 info3 rfl (by decide) (by omega) v212 y211 l1 _ _ _ (fun _ => True) (fun _ => False) rfl rfl ?aO ?aR (fun _ _ h => h) (fun _ h => h.elim) ?aF ?aB ?aS ?aL ?_; (case aR => repeat (first | exact (Kd.C_below HR1.out HB.out) | (with_reducible refine Kd.C_alloc ?_ _) | (with_reducible refine Kd.C_drewN ?_ _) | (with_reducible refine Kd.C_drew ?_))); (case aB => exact bA); (case aF => exact (fun _ _ => trivial)); (case aO => exact (rK HO213)); (case aS => exact (below_size bA)); (case aL => have := LMc3.out; omega); intro v215 w6 ho hb hg hat; rw [← Ny214.out] at ho; have n0_ := Aside0.mk (hb); have n1_ := Aside0.mk (ho); clear HB; clear HO213; have HB := n0_; have HO216 := n1_; clear n0_ n1_; clear ho hb hg hat))
 go_loopg [5, 6] k (fun kq v5 v6 w' => ∃ (x5_1 : List Int) (x6_1 : Int), v6 = .int .i64 x6_1 ∧ Aside0 (spec_AddToStage.l0 kq l0 l1 x5_1 x6_1 = some r) ∧ Aside0 (kq ≤ k) ∧ Aside0 (Kd.R (Kd.int .i64) 3 w' w.heap.size (fun _ => True) v5 x5_1) ∧ Aside0 (Below w.heap.size w w'))
 case atStart => exact ⟨(y214), (0), rS, H', ⟨Nat.le_refl _⟩, ⟨rK HO216⟩, ⟨bA⟩⟩
 case round =>
  clear H'
  try clear c1
  try clear p2
  try clear c3
  obtain ⟨x5_1, x6_1, rfl, HA, HK1, HO_5, HB⟩ := hrel
  cases gk with
  | zero => exact absurd HA.out (by simp [spec_AddToStage.l0])
  | succ k1 =>
   have H := HA.out
   clear HA
   simp only [spec_AddToStage.l0] at H
   have HC7 := Aside0.mk H
   clear H
   go_upto_region 3 with (fail)
   go_cut [19] (fun v19 wc => ∃ (kq : Nat) (x19_6 : Bool), v19 = .bool x19_6 ∧ Aside0 (spec_AddToStage.j1 kq l0 l1 x5_1 x6_1 x19_6 = some r) ∧ Aside0 (kq ≤ k1) ∧ Aside0 (Kd.R (Kd.int .i64) 3 wc w.heap.size (fun _ => True) u5 x5_1) ∧ Aside0 (Below w.heap.size w wc))
   case first =>
    have H := HC7.out
    clear HC7
    by_cases c8 : x6_1 < (l0.length : Int)
    ·
     rw [if_pos c8] at H
     have c8b0 := decide_eq_true c8
     clear c8
     (first | rw [c8b0] | (simp only [i64_w, i32_w]; rw [c8b0]) | skip)
     obtain ⟨t217, A9, H⟩ := bindE H
     try dsimp only at H
     have H' := Aside0.mk H
     clear H
     go_wp2_with (first | (go_at_call 82; (with_reducible refine (spec_IsTogether.calls k1 _ _ l0 _ _ l1 t217 _ ?side1 ?side2 ?side3 ?side4 A9.out).mono ?_); (case side1 => exact cB HR0); (case side2 => exact HC0.out); (case side3 => exact cB HR1); (case side4 => exact HC1.out); rintro e w10 ⟨rfl, hb⟩; replace HO_5 := Aside0.mk (Kd.R_below (rK HO_5) hb); replace HB := Aside0.mk (below_step bA hb); (try clear hb)))
     go_meet
     case rel => exact ⟨_, (t217), rS, H', ⟨by have := HK1.out; first | omega | exact Nat.le_refl _⟩, ⟨rK HO_5⟩, ⟨bA⟩⟩
    ·
     rw [if_neg c8] at H
     have c8b0 := decide_eq_false c8
     clear c8
     (first | rw [c8b0] | (simp only [i64_w, i32_w]; rw [c8b0]) | skip)
     have H' := Aside0.mk H
     clear H
     go_wp2
     go_meet
     case rel => exact ⟨_, (false), rS, H', ⟨by have := HK1.out; first | omega | exact Nat.le_refl _⟩, ⟨rK HO_5⟩, ⟨bA⟩⟩
   case rest =>
    clear HC7
    try clear c1
    try clear p2
    try clear c3
    try clear c8
    try clear c8b0
    try clear c9
    try clear p2
    obtain ⟨kq, x19_6, rfl, HA, HJ6, HO_5, HB⟩ := hcut
    cases kq with
    | zero => exact absurd HA.out (by simp [spec_AddToStage.j1])
    | succ kj6 =>
     have H := HA.out
     clear HA
     simp only [spec_AddToStage.j1] at H
     by_cases c11 : x19_6 = true
     ·
      subst c11
      have H1 : (if 0 ≤ x6_1 then (if x6_1 < (l0.length : Int) then ((spec_l6Put.f kj6 x5_1 ((rd_T89 l0 x6_1).f0)).bind fun t219 => ((spec_IsTogether.f kj6 l0 t219).bind fun t222 => (if t222 = true then (spec_AddToStage.l0 kj6 l0 l1 t219 (wrap64 (x6_1 + 1))) else (spec_AddToStage.l0 kj6 l0 l1 x5_1 (wrap64 (x6_1 + 1)))))) else (none)) else (none)) = some r := by rw [if_pos rfl] at H; exact H
      clear H
      have H := H1
      clear H1
      have c12 : 0 ≤ x6_1 := ifN H
      replace H := ifT H
      have c12b0 := decide_eq_true c12
      clear c12
      have c13 : x6_1 < (l0.length : Int) := ifN H
      replace H := ifT H
      have c13b0 := decide_eq_true c13
      clear c13
      obtain ⟨t219, A14, H⟩ := bindE H
      try dsimp only at H
      obtain ⟨t222, A15, H⟩ := bindE H
      try dsimp only at H
      by_cases c16 : t222 = true
      ·
       subst c16
       have H1 : (spec_AddToStage.l0 kj6 l0 l1 t219 (wrap64 (x6_1 + 1))) = some r := by rw [if_pos rfl] at H; exact H
       clear H
       have H := H1
       clear H1
       have H' := Aside0.mk H
       clear H
       have p218 : 0 ≤ (x6_1 : Int) := dA
       have q218 : x6_1 < (l0.length : Int) := dA
       obtain ⟨ad218, e218, hx218_0, hx218_1, hx218_2, hx218_3⟩ := at_T89 HR0.out x6_1 p218 q218
       cases e218
       replace hx218_0 := hC HB hx218_0
       replace hx218_1 := hC HB hx218_1
       replace hx218_2 := hC HB hx218_2
       replace hx218_3 := hC HB hx218_3
       replace p218 := eq_true p218
       replace q218 := eq_true q218
       obtain ⟨Ao17, co17, eo17⟩ := Kd.R_slice HO_5.out
       subst eo17
       go_wp2_with (first | ((with_reducible refine gate_callee (f := 123) rfl ?_); refine gL (some 28) Try.func123 #[.slice Ao17 x5_1.length co17, .int .i64 ((rd_T89 l0 x6_1).f0)] ?_; (with_reducible refine (spec_l6Put.calls kj6 _ _ x5_1 ((rd_T89 l0 x6_1).f0) t219 _ ?side1 ?side2 A14.out).mono ?_); (case side1 => exact cO ⟨(Kd.R_reads' HO_5.out).2.2⟩); (case side2 => exact (Kd.R_reads' HO_5.out).2.1); rintro e w18 ⟨v220, rfl, ho0, hb⟩; refine ⟨_, rfl, ?_⟩; have HO221 := Aside0.mk (Kd.R_lower (Kd.R_new' ho0 (Kd.R_lt (rK HO_5))) (below_size bA)); replace HO_5 := Aside0.mk (Kd.R_elder' (rK HO_5) (Kd.R_base ho0) hb); replace HB := Aside0.mk (below_step bA hb); (try clear hb); (try clear ho0); obtain ⟨Ao19, co19, eo19⟩ := Kd.R_slice HO221.out; subst eo19) | ((with_reducible refine gate_callee (f := 82) rfl ?_); refine gL (some 31) Try.func82 #[.slice (some ad218) l0.length c0, .slice Ao19 t219.length co19] ?_; (with_reducible refine (spec_IsTogether.calls kj6 _ _ l0 _ _ t219 true _ ?side1 ?side2 ?side3 ?side4 A15.out).mono ?_); (case side1 => exact cB HR0); (case side2 => exact HC0.out); (case side3 => exact cO ⟨(Kd.R_reads' HO221.out).2.2⟩); (case side4 => exact (Kd.R_reads' HO221.out).2.1); rintro e w20 ⟨rfl, hb⟩; refine ⟨_, rfl, ?_⟩; replace HO_5 := Aside0.mk (Kd.R_below (rK HO_5) hb); replace HO221 := Aside0.mk (Kd.R_below (rK HO221) hb); replace HB := Aside0.mk (below_step bA hb); (try clear hb)))
       go_roundg kj6
       case measure => have := HK1.out; have := HJ6.out; omega
       case rel => exact ⟨(t219), (wrap64 (x6_1 + 1)), rS, H', ⟨by have := HK1.out; have := HJ6.out; omega⟩, ⟨by (with_reducible repeat (first | apply Kd.R_alloc | apply Kd.R_drewN | apply Kd.R_drew)); exact Kd.R_mono HO221.out (fun _ hk => trivial)⟩, ⟨bA⟩⟩
      ·
       replace c16 := Bool.eq_false_iff.mpr c16
       subst c16
       have H1 : (spec_AddToStage.l0 kj6 l0 l1 x5_1 (wrap64 (x6_1 + 1))) = some r := by rw [if_neg (show ¬ (false = true) by decide)] at H; exact H
       clear H
       have H := H1
       clear H1
       have H' := Aside0.mk H
       clear H
       have p218 : 0 ≤ (x6_1 : Int) := dA
       have q218 : x6_1 < (l0.length : Int) := dA
       obtain ⟨ad218, e218, hx218_0, hx218_1, hx218_2, hx218_3⟩ := at_T89 HR0.out x6_1 p218 q218
       cases e218
       replace hx218_0 := hC HB hx218_0
       replace hx218_1 := hC HB hx218_1
       replace hx218_2 := hC HB hx218_2
       replace hx218_3 := hC HB hx218_3
       replace p218 := eq_true p218
       replace q218 := eq_true q218
       obtain ⟨Ao21, co21, eo21⟩ := Kd.R_slice HO_5.out
       subst eo21
       go_wp2_with (first | ((with_reducible refine gate_callee (f := 123) rfl ?_); refine gL (some 28) Try.func123 #[.slice Ao21 x5_1.length co21, .int .i64 ((rd_T89 l0 x6_1).f0)] ?_; (with_reducible refine (spec_l6Put.calls kj6 _ _ x5_1 ((rd_T89 l0 x6_1).f0) t219 _ ?side1 ?side2 A14.out).mono ?_); (case side1 => exact cO ⟨(Kd.R_reads' HO_5.out).2.2⟩); (case side2 => exact (Kd.R_reads' HO_5.out).2.1); rintro e w22 ⟨v220, rfl, ho0, hb⟩; refine ⟨_, rfl, ?_⟩; have HO221 := Aside0.mk (Kd.R_lower (Kd.R_new' ho0 (Kd.R_lt (rK HO_5))) (below_size bA)); replace HO_5 := Aside0.mk (Kd.R_elder' (rK HO_5) (Kd.R_base ho0) hb); replace HB := Aside0.mk (below_step bA hb); (try clear hb); (try clear ho0); obtain ⟨Ao23, co23, eo23⟩ := Kd.R_slice HO221.out; subst eo23) | ((with_reducible refine gate_callee (f := 82) rfl ?_); refine gL (some 31) Try.func82 #[.slice (some ad218) l0.length c0, .slice Ao23 t219.length co23] ?_; (with_reducible refine (spec_IsTogether.calls kj6 _ _ l0 _ _ t219 false _ ?side1 ?side2 ?side3 ?side4 A15.out).mono ?_); (case side1 => exact cB HR0); (case side2 => exact HC0.out); (case side3 => exact cO ⟨(Kd.R_reads' HO221.out).2.2⟩); (case side4 => exact (Kd.R_reads' HO221.out).2.1); rintro e w24 ⟨rfl, hb⟩; refine ⟨_, rfl, ?_⟩; replace HO_5 := Aside0.mk (Kd.R_below (rK HO_5) hb); replace HO221 := Aside0.mk (Kd.R_below (rK HO221) hb); replace HB := Aside0.mk (below_step bA hb); (try clear hb)))
       go_roundg kj6
       case measure => have := HK1.out; have := HJ6.out; omega
       case rel => exact ⟨(x5_1), (wrap64 (x6_1 + 1)), rS, H', ⟨by have := HK1.out; have := HJ6.out; omega⟩, ⟨by (with_reducible repeat (first | apply Kd.R_alloc | apply Kd.R_drewN | apply Kd.R_drew)); exact Kd.R_mono HO_5.out (fun _ hk => trivial)⟩, ⟨bA⟩⟩
     ·
      replace c11 := Bool.eq_false_iff.mpr c11
      subst c11
      have H1 : (some x5_1) = some r := by rw [if_neg (show ¬ (false = true) by decide)] at H; exact H
      clear H
      have H := H1
      clear H1
      obtain rfl := Option.some.inj H
      go_wp2
      go_ret
      exact ⟨_, by first | rfl | (simp [errW_none, errW_some] <;> rfl) | (simp [*, errW_none, errW_some] <;> rfl), by (with_reducible repeat (first | apply Kd.R_alloc | apply Kd.R_drewN | apply Kd.R_drew)); exact HO_5.out, bA⟩

/-! ### spec_l6Has: function 101 -/
def spec_l6Has.l0 : Nat → List Int → Int → Int → Option (Bool)
 | 0, _, _, _ => none
 | k + 1, x0, x1, x5 => if x5 < (x0.length : Int) then (if 0 ≤ x5 then (if (rd x0 x5) = x1 then (some true) else (spec_l6Has.l0 k x0 x1 (wrap64 (x5 + 1)))) else (none)) else (some false)
def spec_l6Has.f (k : Nat) (l0 : List Int) (a1 : Int) : Option (Bool) := spec_l6Has.l0 k l0 a1 0
theorem spec_l6Has.mono_l : ∀ k, (∀ y0 y1 y2, LeO (spec_l6Has.l0 k y0 y1 y2) (spec_l6Has.l0 (k + 1) y0 y1 y2))
 | 0 => fun _ _ _ r h => by simp [spec_l6Has.l0] at h
 | k + 1 => by
  have ih0 := spec_l6Has.mono_l k
  ·
   intro y0 y1 y2
   unfold spec_l6Has.l0
   repeat' first | (with_reducible first | exact LeO.refl _ | exact LeO.none _ | refine LeO.ite ?_ ?_ | refine LeO.bind ?_ (fun _ => ?_) | exact ih0 _ _ _)
theorem spec_l6Has.mono : ∀ a0 a1 k, LeO (spec_l6Has.f k a0 a1) (spec_l6Has.f (k + 1) a0 a1) := by
 intro a0 a1 k
 have ih0 := spec_l6Has.mono_l k
 unfold spec_l6Has.f
 repeat' first | (with_reducible first | exact LeO.refl _ | exact LeO.none _ | refine LeO.ite ?_ ?_ | refine LeO.bind ?_ (fun _ => ?_) | exact ih0 _ _ _)
set_option maxHeartbeats 8000000 in
set_option maxRecDepth 100000 in
theorem spec_l6Has.calls (k : Nat) (A0 : Option Addr) (c0 : Nat) (l0 : List Int) (a1 : Int) (r : Bool) (w : World) (hr0 : Kd.C (Kd.int .i64) w A0 l0.length l0) (hc0 : l0.length ≤ c0) (h : spec_l6Has.f k l0 a1 = some r) :
  Calls Try.prog 101 #[.slice A0 l0.length c0, .int .i64 a1] w fun e w' => e = .returned (.bool r) ∧ Drawn0 w w' := by
 have HR0 := Aside0.mk hr0
 have HC0 := Aside0.mk hc0
 clear hr0 hc0
 have H : (spec_l6Has.l0 k l0 a1 0) = some r := h
 clear h
 have H' := Aside0.mk H
 clear H
 go_enter Try.func101, Try.ntmps101
 go_wp2
 go_loopg [5] k (fun kq v5 w' => ∃ (x5_1 : Int), v5 = .int .i64 x5_1 ∧ Aside0 (spec_l6Has.l0 kq l0 a1 x5_1 = some r) ∧ Aside0 (kq ≤ k) ∧ Drawn0 w w')
 case atStart => exact ⟨(0), rS, H', ⟨Nat.le_refl _⟩, by repeat (first | exact Drawn0.refl _ | apply Drawn0.step)⟩
 case round =>
  clear H'
  try clear c1
  try clear p2
  obtain ⟨x5_1, rfl, HA, HK1, ⟨m1, rfl⟩⟩ := hrel
  cases gk with
  | zero => exact absurd HA.out (by simp [spec_l6Has.l0])
  | succ k1 =>
   have H := HA.out
   clear HA
   simp only [spec_l6Has.l0] at H
   by_cases c3 : x5_1 < (l0.length : Int)
   ·
    rw [if_pos c3] at H
    have c3b0 := decide_eq_true c3
    clear c3
    have c4 : 0 ≤ x5_1 := ifN H
    replace H := ifT H
    have c4b0 := decide_eq_true c4
    clear c4
    by_cases c5 : (rd l0 x5_1) = a1
    ·
     rw [if_pos c5] at H
     have c5b0 : ((rd l0 x5_1) == a1) = true := beq_iff_eq.mpr c5
     have c5b1 : ((rd l0 x5_1) != a1) = false := bne_eq_false_iff_eq.mpr c5
     clear c5
     obtain rfl := Option.some.inj H
     have p223 : 0 ≤ (x5_1 : Int) := dA
     have q223 : x5_1 < (l0.length : Int) := dA
     obtain ⟨ad223, e223, hx223_0⟩ := Kd.at_int HR0.out x5_1 p223 q223
     cases e223
     replace p223 := eq_true p223
     replace q223 := eq_true q223
     go_wp2
     go_ret
     exact ⟨by first | rfl | (simp; done) | (simp [*]; done), by repeat (first | exact Drawn0.refl _ | apply Drawn0.step)⟩
    ·
     rw [if_neg c5] at H
     have c5b0 : ((rd l0 x5_1) == a1) = false := beq_eq_false_iff_ne.mpr c5
     have c5b1 : ((rd l0 x5_1) != a1) = true := bne_iff_ne.mpr c5
     have H' := Aside0.mk H
     clear H
     have p223 : 0 ≤ (x5_1 : Int) := dA
     have q223 : x5_1 < (l0.length : Int) := dA
     obtain ⟨ad223, e223, hx223_0⟩ := Kd.at_int HR0.out x5_1 p223 q223
     cases e223
     replace p223 := eq_true p223
     replace q223 := eq_true q223
     go_wp2
     go_roundg k1
     case measure => have := HK1.out; omega
     case rel => exact ⟨(wrap64 (x5_1 + 1)), rS, H', ⟨by have := HK1.out; omega⟩, by repeat (first | exact Drawn0.refl _ | apply Drawn0.step)⟩
   ·
    rw [if_neg c3] at H
    have c3b0 := decide_eq_false c3
    clear c3
    obtain rfl := Option.some.inj H
    go_wp2
    go_ret
    exact ⟨by first | rfl | (simp; done) | (simp [*]; done), by repeat (first | exact Drawn0.refl _ | apply Drawn0.step)⟩

/-! ### spec_CoverOf: function 73 -/
mutual
def spec_CoverOf.l0 : Nat → List (S89) → List (List Int) → List Int → Int → Option ((List (List Int)))
 | 0, _, _, _, _ => none
 | k + 1, x0, x3, x4, x5 => if x5 < (x0.length : Int) then ((spec_ArePaths.f k x0).bind fun t230 => (spec_CoverOf.j1 k x0 x3 x4 x5 t230)) else (spec_CoverOf.j1 k x0 x3 x4 x5 false)
def spec_CoverOf.j1 : Nat → List (S89) → List (List Int) → List Int → Int → Bool → Option ((List (List Int)))
 | 0, _, _, _, _, _ => none
 | k + 1, x0, x3, x4, x5, x17 => if x17 = true then (if 0 ≤ x5 then (if x5 < (x0.length : Int) then ((spec_l6Has.f k x4 ((rd_T89 x0 x5).f0)).bind fun t232 => (if t232 = true then (spec_CoverOf.l0 k x0 x3 x4 (wrap64 (x5 + 1))) else ((spec_AddToStage.f k x0 (([(rd_T89 x0 x5).f0] : List Int))).bind fun t237 => (if x3.length < 5864062014805 then (spec_CoverOf.l1 k x0 (x3 ++ [t237]) x4 x5 t237 0) else (none))))) else (none)) else (none)) else (some x3)
def spec_CoverOf.l1 : Nat → List (S89) → List (List Int) → List Int → Int → List Int → Int → Option ((List (List Int)))
 | 0, _, _, _, _, _, _ => none
 | k + 1, x0, x3, x4, x5, x6, x7 => if x7 < (x6.length : Int) then (if 0 ≤ x7 then ((spec_l6Put.f k x4 (rd x6 x7)).bind fun t244 => (spec_CoverOf.l1 k x0 x3 t244 x5 x6 (wrap64 (x7 + 1)))) else (none)) else (spec_CoverOf.l0 k x0 x3 x4 (wrap64 (x5 + 1)))
end
def spec_CoverOf.f (k : Nat) (l0 : List (S89)) : Option ((List (List Int))) := spec_CoverOf.l0 k l0 (([] : List (List Int))) (([] : List Int)) 0
theorem spec_CoverOf.mono_l : ∀ k, (∀ y0 y1 y2 y3, LeO (spec_CoverOf.l0 k y0 y1 y2 y3) (spec_CoverOf.l0 (k + 1) y0 y1 y2 y3)) ∧ (∀ y0 y1 y2 y3 y4, LeO (spec_CoverOf.j1 k y0 y1 y2 y3 y4) (spec_CoverOf.j1 (k + 1) y0 y1 y2 y3 y4)) ∧ (∀ y0 y1 y2 y3 y4 y5, LeO (spec_CoverOf.l1 k y0 y1 y2 y3 y4 y5) (spec_CoverOf.l1 (k + 1) y0 y1 y2 y3 y4 y5))
 | 0 => ⟨fun _ _ _ _ r h => by simp [spec_CoverOf.l0] at h, fun _ _ _ _ _ r h => by simp [spec_CoverOf.j1] at h, fun _ _ _ _ _ _ r h => by simp [spec_CoverOf.l1] at h⟩
 | k + 1 => by
  obtain ⟨ih0, ih1, ih2⟩ := spec_CoverOf.mono_l k
  refine ⟨?_, ?_, ?_⟩
  ·
   intro y0 y1 y2 y3
   unfold spec_CoverOf.l0
   repeat' first | (with_reducible first | exact LeO.refl _ | exact LeO.none _ | refine LeO.ite ?_ ?_ | refine LeO.bind ?_ (fun _ => ?_) | exact ih0 _ _ _ _ | exact ih1 _ _ _ _ _ | exact ih2 _ _ _ _ _ _ | exact spec_AddToStage.mono _ _ _ | exact spec_ArePaths.mono _ _ | exact spec_l6Has.mono _ _ _ | exact spec_l6Put.mono _ _ _)
  ·
   intro y0 y1 y2 y3 y4
   unfold spec_CoverOf.j1
   repeat' first | (with_reducible first | exact LeO.refl _ | exact LeO.none _ | refine LeO.ite ?_ ?_ | refine LeO.bind ?_ (fun _ => ?_) | exact ih0 _ _ _ _ | exact ih1 _ _ _ _ _ | exact ih2 _ _ _ _ _ _ | exact spec_AddToStage.mono _ _ _ | exact spec_ArePaths.mono _ _ | exact spec_l6Has.mono _ _ _ | exact spec_l6Put.mono _ _ _)
  ·
   intro y0 y1 y2 y3 y4 y5
   unfold spec_CoverOf.l1
   repeat' first | (with_reducible first | exact LeO.refl _ | exact LeO.none _ | refine LeO.ite ?_ ?_ | refine LeO.bind ?_ (fun _ => ?_) | exact ih0 _ _ _ _ | exact ih1 _ _ _ _ _ | exact ih2 _ _ _ _ _ _ | exact spec_AddToStage.mono _ _ _ | exact spec_ArePaths.mono _ _ | exact spec_l6Has.mono _ _ _ | exact spec_l6Put.mono _ _ _)
theorem spec_CoverOf.mono : ∀ a0 k, LeO (spec_CoverOf.f k a0) (spec_CoverOf.f (k + 1) a0) := by
 intro a0 k
 obtain ⟨ih0, ih1, ih2⟩ := spec_CoverOf.mono_l k
 unfold spec_CoverOf.f
 repeat' first | (with_reducible first | exact LeO.refl _ | exact LeO.none _ | refine LeO.ite ?_ ?_ | refine LeO.bind ?_ (fun _ => ?_) | exact ih0 _ _ _ _ | exact ih1 _ _ _ _ _ | exact ih2 _ _ _ _ _ _ | exact spec_AddToStage.mono _ _ _ | exact spec_ArePaths.mono _ _ | exact spec_l6Has.mono _ _ _ | exact spec_l6Put.mono _ _ _)
set_option maxHeartbeats 8000000 in
set_option maxRecDepth 100000 in
theorem spec_CoverOf.calls (k : Nat) (A0 : Option Addr) (c0 : Nat) (l0 : List (S89)) (r : List (List Int)) (w : World) (hr0 : Kd.C k89 w A0 l0.length l0) (hc0 : l0.length ≤ c0) (h : spec_CoverOf.f k l0 = some r) :
  Calls Try.prog 73 #[.slice A0 l0.length c0] w fun e w' => ∃ v0_ : Value, e = .returned (v0_) ∧ Kd.S (Kd.slice 3 (Kd.int .i64)) 41 w' w.heap.size (fun _ => True) v0_ r ∧ Below w.heap.size w w' := by
 have HR0 := Aside0.mk hr0
 have HC0 := Aside0.mk hc0
 clear hr0 hc0
 have HB := Aside0.mk (Below.refl w.heap.size w)
 have H : (spec_CoverOf.l0 k l0 (([] : List (List Int))) (([] : List Int)) 0) = some r := h
 clear h
 obtain ⟨y224, hy224⟩ : ∃ y_ : List (List Int), y_ = (([] : List (List Int))) := ⟨_, rfl⟩
 replace H : (spec_CoverOf.l0 k l0 y224 (([] : List Int)) 0) = some r := rH H hy224
 have Ny224 := Aside0.mk hy224
 clear hy224
 obtain ⟨y227, hy227⟩ : ∃ y_ : List Int, y_ = (([] : List Int)) := ⟨_, rfl⟩
 replace H : (spec_CoverOf.l0 k l0 y224 y227 0) = some r := rH H hy227
 have Ny227 := Aside0.mk hy227
 clear hy227
 have H' := Aside0.mk H
 clear H
 go_enter Try.func73, Try.ntmps73
 go_wp2_with (first | ((with_reducible refine gate_dst (N := 8) rfl ?_); refine Kd.S_lit (Kd.slice 3 (Kd.int .i64)) _ 41 ?hg (N := 8) ?hd (xs := ([] : List (List Int))) (inner := []) (ok := fun _ => True) (okp := fun _ => True) ?hr ?hp (fun _ hk => hk) trivial (Below.refl _ _) (Nat.le_refl _) (by simp) ?_; (case hd => rfl); (case hg => rfl); (case hr => first | (go_simp; done) | (go_simp; rfl)); (case hp => exact (Reps.none _ _)); intro v225 w2 ho3 hb hg_ hnew_; clear hg_ hnew_; (first | rw [← Ny224.out] at ho3 | (simp only [Int.reduceToNat] at ho3; rw [← Ny224.out] at ho3)); have HO226 := Aside0.mk (Kd.S_lower ho3 (below_size bA)); replace HB := Aside0.mk (below_step bA hb); clear hb ho3) | ((with_reducible refine gate_dst (N := 9) rfl ?_); refine Kd.R_lit (Kd.int .i64) _ 3 ?hg (N := 9) ?hd (xs := ([] : List Int)) (inner := []) (ok := fun _ => True) (okp := fun _ => True) ?hr ?hp (fun _ hk => hk) trivial (Below.refl _ _) (Nat.le_refl _) (by simp) ?_; (case hd => rfl); (case hg => rfl); (case hr => first | (go_simp; done) | (go_simp; rfl)); (case hp => exact (Reps.none _ _)); intro v228 w4 ho5 hb hg_ hnew_; clear hg_ hnew_; (first | rw [← Ny227.out] at ho5 | (simp only [Int.reduceToNat] at ho5; rw [← Ny227.out] at ho5)); replace HO226 := Aside0.mk (Kd.S_elder' (sK HO226) (Kd.R_base ho5) hb); have HO229 := Aside0.mk (Kd.R_lower ho5 (below_size bA)); replace HB := Aside0.mk (below_step bA hb); clear hb ho5))
 go_loopg [3, 4, 5] k (fun kq v3 v4 v5 w' => ∃ (x3_1 : List (List Int)) (x4_1 : List Int) (x5_1 : Int), v5 = .int .i64 x5_1 ∧ Aside0 (spec_CoverOf.l0 kq l0 x3_1 x4_1 x5_1 = some r) ∧ Aside0 (kq ≤ k) ∧ Aside0 (Kd.S (Kd.slice 3 (Kd.int .i64)) 41 w' w.heap.size (fun k_ => some k_ ≠ (v4 : Value).ownBlock) v3 x3_1) ∧ Aside0 (Kd.R (Kd.int .i64) 3 w' w.heap.size (fun _ => True) v4 x4_1) ∧ Aside0 (Below w.heap.size w w'))
 case atStart => exact ⟨(y224), (y227), (0), rS, H', ⟨Nat.le_refl _⟩, ⟨by (with_reducible repeat (first | apply Kd.S_alloc | apply Kd.S_drewN | apply Kd.S_drew)); exact Kd.S_mono HO226.out (fun _ hk => hk.2)⟩, ⟨rK HO229⟩, ⟨bA⟩⟩
 case round =>
  clear H'
  try clear p2
  obtain ⟨x3_1, x4_1, x5_1, rfl, HA, HK1, HO_3, HO_4, HB⟩ := hrel
  cases gk with
  | zero => exact absurd HA.out (by simp [spec_CoverOf.l0])
  | succ k1 =>
   have H := HA.out
   clear HA
   simp only [spec_CoverOf.l0] at H
   have HC6 := Aside0.mk H
   clear H
   go_upto_region 4 with (fail)
   go_cut [17] (fun v17 wc => ∃ (kq : Nat) (x17_5 : Bool), v17 = .bool x17_5 ∧ Aside0 (spec_CoverOf.j1 kq l0 x3_1 x4_1 x5_1 x17_5 = some r) ∧ Aside0 (kq ≤ k1) ∧ Aside0 (Kd.S (Kd.slice 3 (Kd.int .i64)) 41 wc w.heap.size (fun k_ => some k_ ≠ (u4 : Value).ownBlock) u3 x3_1) ∧ Aside0 (Kd.R (Kd.int .i64) 3 wc w.heap.size (fun _ => True) u4 x4_1) ∧ Aside0 (Below w.heap.size w wc))
   case first =>
    have H := HC6.out
    clear HC6
    by_cases c7 : x5_1 < (l0.length : Int)
    ·
     rw [if_pos c7] at H
     have c7b0 := decide_eq_true c7
     clear c7
     (first | rw [c7b0] | (simp only [i64_w, i32_w]; rw [c7b0]) | skip)
     obtain ⟨t230, A8, H⟩ := bindE H
     try dsimp only at H
     have H' := Aside0.mk H
     clear H
     go_wp2_with (first | (go_at_call 122; (with_reducible refine (spec_ArePaths.calls k1 _ _ l0 t230 _ ?side1 ?side2 A8.out).mono ?_); (case side1 => exact cB HR0); (case side2 => exact HC0.out); rintro e w9 ⟨rfl, hb⟩; replace HO_3 := Aside0.mk (Kd.S_below (sK HO_3) hb); replace HO_4 := Aside0.mk (Kd.R_below (rK HO_4) hb); replace HB := Aside0.mk (below_step bA hb); (try clear hb)))
     go_meet
     case rel => exact ⟨_, (t230), rS, H', ⟨by have := HK1.out; first | omega | exact Nat.le_refl _⟩, ⟨sK HO_3⟩, ⟨rK HO_4⟩, ⟨bA⟩⟩
    ·
     rw [if_neg c7] at H
     have c7b0 := decide_eq_false c7
     clear c7
     (first | rw [c7b0] | (simp only [i64_w, i32_w]; rw [c7b0]) | skip)
     have H' := Aside0.mk H
     clear H
     go_wp2
     go_meet
     case rel => exact ⟨_, (false), rS, H', ⟨by have := HK1.out; first | omega | exact Nat.le_refl _⟩, ⟨sK HO_3⟩, ⟨rK HO_4⟩, ⟨bA⟩⟩
   case rest =>
    clear HC6
    try clear p2
    try clear c7
    try clear c7b0
    try clear p2
    obtain ⟨kq, x17_5, rfl, HA, HJ5, HO_3, HO_4, HB⟩ := hcut
    cases kq with
    | zero => exact absurd HA.out (by simp [spec_CoverOf.j1])
    | succ kj5 =>
     have H := HA.out
     clear HA
     simp only [spec_CoverOf.j1] at H
     by_cases c10 : x17_5 = true
     ·
      subst c10
      have H1 : (if 0 ≤ x5_1 then (if x5_1 < (l0.length : Int) then ((spec_l6Has.f kj5 x4_1 ((rd_T89 l0 x5_1).f0)).bind fun t232 => (if t232 = true then (spec_CoverOf.l0 kj5 l0 x3_1 x4_1 (wrap64 (x5_1 + 1))) else ((spec_AddToStage.f kj5 l0 (([(rd_T89 l0 x5_1).f0] : List Int))).bind fun t237 => (if x3_1.length < 5864062014805 then (spec_CoverOf.l1 kj5 l0 (x3_1 ++ [t237]) x4_1 x5_1 t237 0) else (none))))) else (none)) else (none)) = some r := by rw [if_pos rfl] at H; exact H
      clear H
      have H := H1
      clear H1
      have c11 : 0 ≤ x5_1 := ifN H
      replace H := ifT H
      have c11b0 := decide_eq_true c11
      clear c11
      have c12 : x5_1 < (l0.length : Int) := ifN H
      replace H := ifT H
      have c12b0 := decide_eq_true c12
      clear c12
      obtain ⟨t232, A13, H⟩ := bindE H
      try dsimp only at H
      by_cases c14 : t232 = true
      ·
       subst c14
       have H1 : (spec_CoverOf.l0 kj5 l0 x3_1 x4_1 (wrap64 (x5_1 + 1))) = some r := by rw [if_pos rfl] at H; exact H
       clear H
       have H := H1
       clear H1
       have H' := Aside0.mk H
       clear H
       have p231 : 0 ≤ (x5_1 : Int) := dA
       have q231 : x5_1 < (l0.length : Int) := dA
       obtain ⟨ad231, e231, hx231_0, hx231_1, hx231_2, hx231_3⟩ := at_T89 HR0.out x5_1 p231 q231
       cases e231
       replace hx231_0 := hC HB hx231_0
       replace hx231_1 := hC HB hx231_1
       replace hx231_2 := hC HB hx231_2
       replace hx231_3 := hC HB hx231_3
       replace p231 := eq_true p231
       replace q231 := eq_true q231
       obtain ⟨Ao15, co15, eo15⟩ := Kd.R_slice HO_4.out
       subst eo15
       go_wp2_with (first | ((with_reducible refine gate_callee (f := 101) rfl ?_); refine gL (some 26) Try.func101 #[.slice Ao15 x4_1.length co15, .int .i64 ((rd_T89 l0 x5_1).f0)] ?_; (with_reducible refine (spec_l6Has.calls kj5 _ _ x4_1 ((rd_T89 l0 x5_1).f0) true _ ?side1 ?side2 A13.out).mono ?_); (case side1 => exact cO ⟨(Kd.R_reads' HO_4.out).2.2⟩); (case side2 => exact (Kd.R_reads' HO_4.out).2.1); rintro e w' ⟨rfl, ⟨nd, rfl⟩⟩; refine ⟨_, rfl, ?_⟩))
       go_roundg kj5
       case measure => have := HK1.out; have := HJ5.out; omega
       case rel => exact ⟨(x3_1), (x4_1), (wrap64 (x5_1 + 1)), rS, H', ⟨by have := HK1.out; have := HJ5.out; omega⟩, ⟨sK HO_3⟩, ⟨rK HO_4⟩, ⟨bA⟩⟩
      ·
       replace c14 := Bool.eq_false_iff.mpr c14
       subst c14
       have H1 : ((spec_AddToStage.f kj5 l0 (([(rd_T89 l0 x5_1).f0] : List Int))).bind fun t237 => (if x3_1.length < 5864062014805 then (spec_CoverOf.l1 kj5 l0 (x3_1 ++ [t237]) x4_1 x5_1 t237 0) else (none))) = some r := by rw [if_neg (show ¬ (false = true) by decide)] at H; exact H
       clear H
       have H := H1
       clear H1
       obtain ⟨y234, hy234⟩ : ∃ y_ : List Int, y_ = (([(rd_T89 l0 x5_1).f0] : List Int)) := ⟨_, rfl⟩
       replace H : ((spec_AddToStage.f kj5 l0 y234).bind fun t237 => (if x3_1.length < 5864062014805 then (spec_CoverOf.l1 kj5 l0 (x3_1 ++ [t237]) x4_1 x5_1 t237 0) else (none))) = some r := rH H hy234
       have Ny234 := Aside0.mk hy234
       clear hy234
       obtain ⟨t237, A16, H⟩ := bindE H
       try dsimp only at H
       have c17 : x3_1.length < 5864062014805 := ifN H
       replace H := ifT H
       have LMc17 := Aside0.mk c17
       clear c17
       obtain ⟨y240, hy240⟩ : ∃ y_ : List (List Int), y_ = (x3_1 ++ [t237]) := ⟨_, rfl⟩
       replace H : (spec_CoverOf.l1 kj5 l0 y240 x4_1 x5_1 t237 0) = some r := rH H hy240
       have Ny240 := Aside0.mk hy240
       clear hy240
       have H' := Aside0.mk H
       clear H
       have p231 : 0 ≤ (x5_1 : Int) := dA
       have q231 : x5_1 < (l0.length : Int) := dA
       obtain ⟨ad231, e231, hx231_0, hx231_1, hx231_2, hx231_3⟩ := at_T89 HR0.out x5_1 p231 q231
       cases e231
       replace hx231_0 := hC HB hx231_0
       replace hx231_1 := hC HB hx231_1
       replace hx231_2 := hC HB hx231_2
       replace hx231_3 := hC HB hx231_3
       replace p231 := eq_true p231
       replace q231 := eq_true q231
       obtain ⟨Ao18, co18, eo18⟩ := Kd.R_slice HO_4.out
       subst eo18
       go_wp2_with (first | ((with_reducible refine gate_callee (f := 101) rfl ?_); refine gL (some 26) Try.func101 #[.slice Ao18 x4_1.length co18, .int .i64 ((rd_T89 l0 x5_1).f0)] ?_; (with_reducible refine (spec_l6Has.calls kj5 _ _ x4_1 ((rd_T89 l0 x5_1).f0) false _ ?side1 ?side2 A13.out).mono ?_); (case side1 => exact cO ⟨(Kd.R_reads' HO_4.out).2.2⟩); (case side2 => exact (Kd.R_reads' HO_4.out).2.1); rintro e w' ⟨rfl, ⟨nd, rfl⟩⟩; refine ⟨_, rfl, ?_⟩; have p233 : 0 ≤ (x5_1 : Int) := dA; have q233 : x5_1 < (l0.length : Int) := dA; obtain ⟨ad233, e233, hx233_0, hx233_1, hx233_2, hx233_3⟩ := at_T89 HR0.out x5_1 p233 q233; obtain rfl : ad231 = ad233 := (by injection e233); replace hx233_0 := hC HB hx233_0; replace hx233_1 := hC HB hx233_1; replace hx233_2 := hC HB hx233_2; replace hx233_3 := hC HB hx233_3; replace p233 := eq_true p233; replace q233 := eq_true q233) | ((with_reducible refine gate_dst (N := 33) rfl ?_); refine Kd.R_lit (Kd.int .i64) _ 3 ?hg (N := 33) ?hd (xs := ([(rd_T89 l0 x5_1).f0] : List Int)) (inner := [.int .i64 ((rd_T89 l0 x5_1).f0)]) (ok := fun _ => True) (okp := fun _ => True) ?hr ?hp (fun _ hk => hk) trivial (Below.refl _ _) (Nat.le_refl _) (by simp) ?_; (case hd => rfl); (case hg => rfl); (case hr => first | (go_simp; done) | (go_simp; rfl)); (case hp => exact (Reps.one (show Kd.M (Kd.int .i64) _ _ _ ((rd_T89 l0 x5_1).f0) [.int .i64 ((rd_T89 l0 x5_1).f0)] from rfl) (Reps.none _ _))); intro v235 w19 ho20 hb hg_ hnew_; clear hg_ hnew_; (first | rw [← Ny234.out] at ho20 | (simp only [Int.reduceToNat] at ho20; rw [← Ny234.out] at ho20)); replace HO_3 := Aside0.mk (Kd.S_elder' (sK HO_3) (Kd.R_base ho20) hb); have HO236 := Aside0.mk (Kd.R_lower (Kd.R_new' ho20 (Kd.R_lt (rK HO_4))) (below_size bA)); replace HO_4 := Aside0.mk (Kd.R_elder' (rK HO_4) (Kd.R_base ho20) hb); replace HB := Aside0.mk (below_step bA hb); clear hb ho20; obtain ⟨Ao21, co21, eo21⟩ := Kd.R_slice HO236.out; subst eo21) | ((with_reducible refine gate_callee (f := 94) rfl ?_); refine gL (some 34) Try.func94 #[.slice (some ad231) l0.length c0, .slice Ao21 y234.length co21] ?_; (with_reducible refine (spec_AddToStage.calls kj5 _ _ l0 _ _ y234 t237 _ ?side1 ?side2 ?side3 ?side4 A16.out).mono ?_); (case side1 => exact cB HR0); (case side2 => exact HC0.out); (case side3 => exact cO ⟨(Kd.R_reads' HO236.out).2.2⟩); (case side4 => exact (Kd.R_reads' HO236.out).2.1); rintro e w22 ⟨v238, rfl, ho0, hb⟩; refine ⟨_, rfl, ?_⟩; replace HO_3 := Aside0.mk (Kd.S_elder' (sK HO_3) (Kd.R_base ho0) hb); have HO239 := Aside0.mk (Kd.R_lower (Kd.R_new' (Kd.R_new' ho0 (Kd.R_lt (rK HO_4))) (Kd.R_lt (rK HO236))) (below_size bA)); replace HO_4 := Aside0.mk (Kd.R_elder' (rK HO_4) (Kd.R_base ho0) hb); replace HO236 := Aside0.mk (Kd.R_elder' (rK HO236) (Kd.R_base ho0) hb); replace HB := Aside0.mk (below_step bA hb); (try clear hb); (try clear ho0); obtain ⟨Ao24, co24, eo24⟩ := Kd.R_slice HO239.out; subst eo24) | ((with_reducible refine gate_builtin (b := .append) (xs := #[.tmp 35, .tmp 37]) rfl ?_); at_builtin; refine Kd.S_append (Kd.slice 3 (Kd.int .i64)) (w0 := w) w.heap.size rfl (.tmp 35) (.tmp 37) 103 41 (.slice none 0 0) 24 rfl Try.underlying103 info41 rfl (by decide) (by omega) u3 x3_1 t237 [.slice Ao24 t237.length co24] (fun k_ => some k_ ≠ (.slice Ao18 x4_1.length co18 : Value).ownBlock ∧ some k_ ≠ (.slice Ao21 y234.length co21 : Value).ownBlock) (fun k_ => some k_ = (.slice Ao24 t237.length co24 : Value).ownBlock) rfl rfl ?aP (fun k_ hk_ => ((Kd.R_mono (ok' := fun k_ => ((fun k_ => some k_ ≠ (.slice Ao18 x4_1.length co18 : Value).ownBlock ∧ some k_ ≠ (.slice Ao21 y234.length co21 : Value).ownBlock)) k_ ∧ some k_ ≠ (u3 : Value).ownBlock) (Kd.R_apart' (HO239.out) (Kd.S_typed HO_3.out) (by decide)) (fun k_ hk => ⟨⟨hk.1.1.2, hk.1.2⟩, hk.2⟩))).1 k_ hk_.symm) ?aF ?aO ?aB ?aS ?aL ?_; (case aP => exact Kd.M_row (Kd.R_mono (Kd.R_tight rfl (Kd.R_mono (ok' := fun k_ => ((fun k_ => some k_ ≠ (.slice Ao18 x4_1.length co18 : Value).ownBlock ∧ some k_ ≠ (.slice Ao21 y234.length co21 : Value).ownBlock)) k_ ∧ some k_ ≠ (u3 : Value).ownBlock) (Kd.R_apart' (HO239.out) (Kd.S_typed HO_3.out) (by decide)) (fun k_ hk => ⟨⟨hk.1.1.2, hk.1.2⟩, hk.2⟩))) (fun _ h_ => h_))); (case aB => exact bA); (case aF => exact (fun k_ hk => ⟨Kd.fresh' (Kd.R_lt (rK HO_4)) k_ hk, Kd.fresh' (Kd.R_lt (rK HO236)) k_ hk⟩)); (case aO => exact (by (with_reducible repeat (first | apply Kd.S_alloc | apply Kd.S_drewN | apply Kd.S_drew)); exact Kd.S_mono HO_3.out (fun k_ hk => ⟨⟨hk.1.1, hk.1.2⟩, fun e_ => hk.2 e_⟩))); (case aS => exact (below_size bA)); (case aL => have := LMc17.out; omega); intro v241 w23 ho hb hg hat; rw [← Ny240.out] at ho; have n0_ := Aside0.mk (Kd.R_over' (rK HO_4) (Kd.S_typed (sK HO_3)) (by decide) hg); have n1_ := Aside0.mk (Kd.R_over' (rK HO236) (Kd.S_typed (sK HO_3)) (by decide) hg); have n2_ := Aside0.mk (Kd.R_over' (rK HO239) (Kd.S_typed (sK HO_3)) (by decide) hg); have n3_ := Aside0.mk (hb); have n4_ := Aside0.mk (ho); clear HO_4; clear HO236; clear HO239; clear HB; clear HO_3; have HO_4 := n0_; have HO236 := n1_; have HO239 := n2_; have HB := n3_; have HO242 := n4_; clear n0_ n1_ n2_ n3_ n4_; clear ho hb hg hat))
       go_loopg [4, 7] kj5 (fun kq v4 v7 w' => ∃ (x4_3 : List Int) (x7_3 : Int), v7 = .int .i64 x7_3 ∧ Aside0 (spec_CoverOf.l1 kq l0 y240 x4_3 x5_1 t237 x7_3 = some r) ∧ Aside0 (kq ≤ kj5) ∧ Aside0 (Kd.S (Kd.slice 3 (Kd.int .i64)) 41 w' w.heap.size (fun k_ => some k_ ≠ (v4 : Value).ownBlock) v241 y240) ∧ Aside0 (Kd.R (Kd.int .i64) 3 w' w.heap.size (fun k_ => some k_ ≠ ((.slice Ao24 t237.length co24) : Value).ownBlock) v4 x4_3) ∧ Aside0 (Kd.R (Kd.int .i64) 3 w' w.heap.size (fun k_ => some k_ ≠ (v4 : Value).ownBlock) (.slice Ao24 t237.length co24) t237) ∧ Aside0 (Below w.heap.size w w'))
       case atStart => exact ⟨(x4_1), (0), rS, H', ⟨Nat.le_refl _⟩, ⟨by (with_reducible repeat (first | apply Kd.S_alloc | apply Kd.S_drewN | apply Kd.S_drew)); exact Kd.S_mono HO242.out (fun _ hk => hk.1)⟩, ⟨by (with_reducible repeat (first | apply Kd.R_alloc | apply Kd.R_drewN | apply Kd.R_drew)); exact Kd.R_mono HO_4.out (fun _ hk => hk.2)⟩, ⟨by (with_reducible repeat (first | apply Kd.R_alloc | apply Kd.R_drewN | apply Kd.R_drew)); exact Kd.R_mono HO239.out (fun _ hk => hk.1.2)⟩, ⟨bA⟩⟩
       case round =>
        clear H'
        try clear c1
        try clear p2
        try clear q2
        try clear hx2
        try clear p6
        try clear c7
        try clear c7b0
        try clear c9
        try clear c10
        try clear c11
        try clear c11b0
        try clear c12
        try clear c12b0
        try clear c14
        try clear c17
        try clear p23
        try clear q23
        try clear hx23
        try clear hx231_0
        try clear hx231_1
        try clear hx231_2
        try clear hx231_3
        try clear hx233_0
        try clear hx233_1
        try clear hx233_2
        try clear hx233_3
        try clear p2
        try clear p231
        try clear p233
        try clear q231
        try clear q233
        obtain ⟨x4_3, x7_3, rfl, HA, HK3, HO_3, HO_4, HO_6, HB⟩ := hrel
        cases gk with
        | zero => exact absurd HA.out (by simp [spec_CoverOf.l1])
        | succ k3 =>
         have H := HA.out
         clear HA
         simp only [spec_CoverOf.l1] at H
         by_cases c25 : x7_3 < (t237.length : Int)
         ·
          rw [if_pos c25] at H
          have c25b0 := decide_eq_true c25
          clear c25
          have c26 : 0 ≤ x7_3 := ifN H
          replace H := ifT H
          have c26b0 := decide_eq_true c26
          clear c26
          obtain ⟨t244, A27, H⟩ := bindE H
          try dsimp only at H
          have H' := Aside0.mk H
          clear H
          have p243 : 0 ≤ (x7_3 : Int) := dA
          have q243 : x7_3 < (t237.length : Int) := dA
          obtain ⟨ad243, e243, hx243_0⟩ := Kd.at_int (Kd.R_reads' HO_6.out).2.2 x7_3 p243 q243
          cases e243
          replace p243 := eq_true p243
          replace q243 := eq_true q243
          obtain ⟨Ao28, co28, eo28⟩ := Kd.R_slice HO_4.out
          subst eo28
          go_wp2_with (first | ((with_reducible refine gate_callee (f := 123) rfl ?_); refine gL (some 50) Try.func123 #[.slice Ao28 x4_3.length co28, .int .i64 (rd t237 x7_3)] ?_; (with_reducible refine (spec_l6Put.calls k3 _ _ x4_3 (rd t237 x7_3) t244 _ ?side1 ?side2 A27.out).mono ?_); (case side1 => exact cO ⟨(Kd.R_reads' HO_4.out).2.2⟩); (case side2 => exact (Kd.R_reads' HO_4.out).2.1); rintro e w29 ⟨v245, rfl, ho0, hb⟩; refine ⟨_, rfl, ?_⟩; replace HO_3 := Aside0.mk (Kd.S_elder' (sK HO_3) (Kd.R_base ho0) hb); have HO246 := Aside0.mk (Kd.R_lower (Kd.R_new' (Kd.R_new' ho0 (Kd.R_lt (rK HO_4))) (Kd.R_lt (rK HO_6))) (below_size bA)); replace HO_4 := Aside0.mk (Kd.R_elder' (rK HO_4) (Kd.R_base ho0) hb); replace HO_6 := Aside0.mk (Kd.R_elder' (rK HO_6) (Kd.R_base ho0) hb); replace HB := Aside0.mk (below_step bA hb); (try clear hb); (try clear ho0)))
          go_roundg k3
          case measure => have := HK1.out; have := HJ5.out; have := HK3.out; omega
          case rel => exact ⟨(t244), (wrap64 (x7_3 + 1)), rS, H', ⟨by have := HK1.out; have := HJ5.out; have := HK3.out; omega⟩, ⟨by (with_reducible repeat (first | apply Kd.S_alloc | apply Kd.S_drewN | apply Kd.S_drew)); exact Kd.S_mono HO_3.out (fun _ hk => hk.2)⟩, ⟨by (with_reducible repeat (first | apply Kd.R_alloc | apply Kd.R_drewN | apply Kd.R_drew)); exact Kd.R_mono HO246.out (fun _ hk => hk.2)⟩, ⟨by (with_reducible repeat (first | apply Kd.R_alloc | apply Kd.R_drewN | apply Kd.R_drew)); exact Kd.R_mono HO_6.out (fun _ hk => hk.2)⟩, ⟨bA⟩⟩
         ·
          rw [if_neg c25] at H
          have c25b0 := decide_eq_false c25
          clear c25
          have H' := Aside0.mk H
          clear H
          go_wp2
          go_roundg k3
          case measure => have := HK1.out; have := HJ5.out; have := HK3.out; omega
          case rel => exact ⟨(y240), (x4_3), (wrap64 (x5_1 + 1)), rS, H', ⟨by have := HK1.out; have := HJ5.out; have := HK3.out; omega⟩, ⟨sK HO_3⟩, ⟨by (with_reducible repeat (first | apply Kd.R_alloc | apply Kd.R_drewN | apply Kd.R_drew)); exact Kd.R_mono HO_4.out (fun _ hk => trivial)⟩, ⟨bA⟩⟩
     ·
      replace c10 := Bool.eq_false_iff.mpr c10
      subst c10
      have H1 : (some x3_1) = some r := by rw [if_neg (show ¬ (false = true) by decide)] at H; exact H
      clear H
      have H := H1
      clear H1
      obtain rfl := Option.some.inj H
      go_wp2
      go_ret
      exact ⟨_, by first | rfl | (simp [errW_none, errW_some] <;> rfl) | (simp [*, errW_none, errW_some] <;> rfl), by (with_reducible repeat (first | apply Kd.S_alloc | apply Kd.S_drewN | apply Kd.S_drew)); exact Kd.S_mono HO_3.out (fun _ hk => trivial), bA⟩

/-! ### spec_LeastGreen: function 74 -/
def spec_LeastGreen.l0 : Nat → List (S89) → List Int → Int → Option (Int)
 | 0, _, _, _ => none
 | k + 1, x0, x1, x5 => if x5 < (x1.length : Int) then (if 0 ≤ x5 then ((spec_FindPath.f k x0 (rd x1 x5)).bind fun t248 => (if t248 ≥ 0 then (if 0 ≤ t248 then (if t248 < (x0.length : Int) then (if ((rd_T89 x0 t248).f1) = 2 then (some 7) else (spec_LeastGreen.l0 k x0 x1 (wrap64 (x5 + 1)))) else (none)) else (none)) else (spec_LeastGreen.l0 k x0 x1 (wrap64 (x5 + 1))))) else (none)) else (some 5)
def spec_LeastGreen.f (k : Nat) (l0 : List (S89)) (l1 : List Int) : Option (Int) := spec_LeastGreen.l0 k l0 l1 0
theorem spec_LeastGreen.mono_l : ∀ k, (∀ y0 y1 y2, LeO (spec_LeastGreen.l0 k y0 y1 y2) (spec_LeastGreen.l0 (k + 1) y0 y1 y2))
 | 0 => fun _ _ _ r h => by simp [spec_LeastGreen.l0] at h
 | k + 1 => by
  have ih0 := spec_LeastGreen.mono_l k
  ·
   intro y0 y1 y2
   unfold spec_LeastGreen.l0
   repeat' first | (with_reducible first | exact LeO.refl _ | exact LeO.none _ | refine LeO.ite ?_ ?_ | refine LeO.bind ?_ (fun _ => ?_) | exact ih0 _ _ _ | exact spec_FindPath.mono _ _ _)
theorem spec_LeastGreen.mono : ∀ a0 a1 k, LeO (spec_LeastGreen.f k a0 a1) (spec_LeastGreen.f (k + 1) a0 a1) := by
 intro a0 a1 k
 have ih0 := spec_LeastGreen.mono_l k
 unfold spec_LeastGreen.f
 repeat' first | (with_reducible first | exact LeO.refl _ | exact LeO.none _ | refine LeO.ite ?_ ?_ | refine LeO.bind ?_ (fun _ => ?_) | exact ih0 _ _ _ | exact spec_FindPath.mono _ _ _)
set_option maxHeartbeats 8000000 in
set_option maxRecDepth 100000 in
theorem spec_LeastGreen.calls (k : Nat) (A0 : Option Addr) (c0 : Nat) (l0 : List (S89)) (A1 : Option Addr) (c1 : Nat) (l1 : List Int) (r : Int) (w : World) (hr0 : Kd.C k89 w A0 l0.length l0) (hc0 : l0.length ≤ c0) (hr1 : Kd.C (Kd.int .i64) w A1 l1.length l1) (hc1 : l1.length ≤ c1) (h : spec_LeastGreen.f k l0 l1 = some r) :
  Calls Try.prog 74 #[.slice A0 l0.length c0, .slice A1 l1.length c1] w fun e w' => e = .returned (.int .i64 r) ∧ Drawn0 w w' := by
 have HR0 := Aside0.mk hr0
 have HC0 := Aside0.mk hc0
 clear hr0 hc0
 have HR1 := Aside0.mk hr1
 have HC1 := Aside0.mk hc1
 clear hr1 hc1
 have H : (spec_LeastGreen.l0 k l0 l1 0) = some r := h
 clear h
 have H' := Aside0.mk H
 clear H
 go_enter Try.func74, Try.ntmps74
 go_wp2
 go_loopg [5] k (fun kq v5 w' => ∃ (x5_1 : Int), v5 = .int .i64 x5_1 ∧ Aside0 (spec_LeastGreen.l0 kq l0 l1 x5_1 = some r) ∧ Aside0 (kq ≤ k) ∧ Drawn0 w w')
 case atStart => exact ⟨(0), rS, H', ⟨Nat.le_refl _⟩, by repeat (first | exact Drawn0.refl _ | apply Drawn0.step)⟩
 case round =>
  clear H'
  try clear c1
  try clear p2
  obtain ⟨x5_1, rfl, HA, HK1, ⟨m1, rfl⟩⟩ := hrel
  cases gk with
  | zero => exact absurd HA.out (by simp [spec_LeastGreen.l0])
  | succ k1 =>
   have H := HA.out
   clear HA
   simp only [spec_LeastGreen.l0] at H
   by_cases c3 : x5_1 < (l1.length : Int)
   ·
    rw [if_pos c3] at H
    have c3b0 := decide_eq_true c3
    clear c3
    have c4 : 0 ≤ x5_1 := ifN H
    replace H := ifT H
    have c4b0 := decide_eq_true c4
    clear c4
    obtain ⟨t248, A5, H⟩ := bindE H
    try dsimp only at H
    by_cases c6 : t248 ≥ 0
    ·
     rw [if_pos c6] at H
     have c6b0 := decide_eq_true c6
     clear c6
     have c7 : 0 ≤ t248 := ifN H
     replace H := ifT H
     have c7b0 := decide_eq_true c7
     clear c7
     have c8 : t248 < (l0.length : Int) := ifN H
     replace H := ifT H
     have c8b0 := decide_eq_true c8
     clear c8
     by_cases c9 : ((rd_T89 l0 t248).f1) = 2
     ·
      rw [if_pos c9] at H
      have c9b0 : (((rd_T89 l0 t248).f1) == 2) = true := beq_iff_eq.mpr c9
      have c9b1 : (((rd_T89 l0 t248).f1) != 2) = false := bne_eq_false_iff_eq.mpr c9
      clear c9
      obtain rfl := Option.some.inj H
      have p247 : 0 ≤ (x5_1 : Int) := dA
      have q247 : x5_1 < (l1.length : Int) := dA
      obtain ⟨ad247, e247, hx247_0⟩ := Kd.at_int HR1.out x5_1 p247 q247
      cases e247
      replace p247 := eq_true p247
      replace q247 := eq_true q247
      go_wp2_with (first | ((with_reducible refine gate_callee (f := 116) rfl ?_); refine gL (some 18) Try.func116 #[.slice A0 l0.length c0, .int .i64 (rd l1 x5_1)] ?_; (with_reducible refine (spec_FindPath.calls k1 _ _ l0 (rd l1 x5_1) t248 _ ?side1 ?side2 A5.out).mono ?_); (case side1 => exact cO HR0); (case side2 => exact HC0.out); rintro e w' ⟨rfl, ⟨nd, rfl⟩⟩; refine ⟨_, rfl, ?_⟩; have p249 : 0 ≤ (t248 : Int) := dA; have q249 : t248 < (l0.length : Int) := dA; obtain ⟨ad249, e249, hx249_0, hx249_1, hx249_2, hx249_3⟩ := at_T89 HR0.out t248 p249 q249; cases e249; replace p249 := eq_true p249; replace q249 := eq_true q249))
      go_ret
      exact ⟨by first | rfl | (simp; done) | (simp [*]; done), by repeat (first | exact Drawn0.refl _ | apply Drawn0.step)⟩
     ·
      rw [if_neg c9] at H
      have c9b0 : (((rd_T89 l0 t248).f1) == 2) = false := beq_eq_false_iff_ne.mpr c9
      have c9b1 : (((rd_T89 l0 t248).f1) != 2) = true := bne_iff_ne.mpr c9
      have H' := Aside0.mk H
      clear H
      have p247 : 0 ≤ (x5_1 : Int) := dA
      have q247 : x5_1 < (l1.length : Int) := dA
      obtain ⟨ad247, e247, hx247_0⟩ := Kd.at_int HR1.out x5_1 p247 q247
      cases e247
      replace p247 := eq_true p247
      replace q247 := eq_true q247
      go_wp2_with (first | ((with_reducible refine gate_callee (f := 116) rfl ?_); refine gL (some 18) Try.func116 #[.slice A0 l0.length c0, .int .i64 (rd l1 x5_1)] ?_; (with_reducible refine (spec_FindPath.calls k1 _ _ l0 (rd l1 x5_1) t248 _ ?side1 ?side2 A5.out).mono ?_); (case side1 => exact cO HR0); (case side2 => exact HC0.out); rintro e w' ⟨rfl, ⟨nd, rfl⟩⟩; refine ⟨_, rfl, ?_⟩; have p249 : 0 ≤ (t248 : Int) := dA; have q249 : t248 < (l0.length : Int) := dA; obtain ⟨ad249, e249, hx249_0, hx249_1, hx249_2, hx249_3⟩ := at_T89 HR0.out t248 p249 q249; cases e249; replace p249 := eq_true p249; replace q249 := eq_true q249))
      go_roundg k1
      case measure => have := HK1.out; omega
      case rel => exact ⟨(wrap64 (x5_1 + 1)), rS, H', ⟨by have := HK1.out; omega⟩, by repeat (first | exact Drawn0.refl _ | apply Drawn0.step)⟩
    ·
     rw [if_neg c6] at H
     have c6b0 := decide_eq_false c6
     clear c6
     have H' := Aside0.mk H
     clear H
     have p247 : 0 ≤ (x5_1 : Int) := dA
     have q247 : x5_1 < (l1.length : Int) := dA
     obtain ⟨ad247, e247, hx247_0⟩ := Kd.at_int HR1.out x5_1 p247 q247
     cases e247
     replace p247 := eq_true p247
     replace q247 := eq_true q247
     go_wp2_with (first | ((with_reducible refine gate_callee (f := 116) rfl ?_); refine gL (some 18) Try.func116 #[.slice A0 l0.length c0, .int .i64 (rd l1 x5_1)] ?_; (with_reducible refine (spec_FindPath.calls k1 _ _ l0 (rd l1 x5_1) t248 _ ?side1 ?side2 A5.out).mono ?_); (case side1 => exact cO HR0); (case side2 => exact HC0.out); rintro e w' ⟨rfl, ⟨nd, rfl⟩⟩; refine ⟨_, rfl, ?_⟩))
     go_roundg k1
     case measure => have := HK1.out; omega
     case rel => exact ⟨(wrap64 (x5_1 + 1)), rS, H', ⟨by have := HK1.out; omega⟩, by repeat (first | exact Drawn0.refl _ | apply Drawn0.step)⟩
   ·
    rw [if_neg c3] at H
    have c3b0 := decide_eq_false c3
    clear c3
    obtain rfl := Option.some.inj H
    go_wp2
    go_ret
    exact ⟨by first | rfl | (simp; done) | (simp [*]; done), by repeat (first | exact Drawn0.refl _ | apply Drawn0.step)⟩

/-! ### spec_Covers: function 124 -/
mutual
def spec_Covers.l0 : Nat → List (S89) → List (List Int) → Int → Option (Bool)
 | 0, _, _, _ => none
 | k + 1, x0, x1, x5 => if x5 < (x1.length : Int) then (if 0 ≤ x5 then ((spec_IsTogether.f k x0 (rd_L3 x1 x5)).bind fun t251 => (if t251 = true then (spec_Covers.l0 k x0 x1 (wrap64 (x5 + 1))) else (some false))) else (none)) else (spec_Covers.l1 k x0 x1 0)
def spec_Covers.l1 : Nat → List (S89) → List (List Int) → Int → Option (Bool)
 | 0, _, _, _ => none
 | k + 1, x0, x1, x6 => if x6 < (x0.length : Int) then (spec_Covers.l2 k x0 x1 x6 false 0) else ((spec_ArePaths.f k x0).bind fun t252 => (some t252))
def spec_Covers.l2 : Nat → List (S89) → List (List Int) → Int → Bool → Int → Option (Bool)
 | 0, _, _, _, _, _ => none
 | k + 1, x0, x1, x6, x7, x8 => if x8 < (x1.length : Int) then (if x7 = true then (spec_Covers.l2 k x0 x1 x6 true (wrap64 (x8 + 1))) else (if 0 ≤ x8 then (if 0 ≤ x6 then (if x6 < (x0.length : Int) then ((spec_l6Has.f k (rd_L3 x1 x8) ((rd_T89 x0 x6).f0)).bind fun t255 => (spec_Covers.l2 k x0 x1 x6 t255 (wrap64 (x8 + 1)))) else (none)) else (none)) else (none))) else (if x7 = true then (spec_Covers.l1 k x0 x1 (wrap64 (x6 + 1))) else (some false))
end
def spec_Covers.f (k : Nat) (l0 : List (S89)) (l1 : List (List Int)) : Option (Bool) := spec_Covers.l0 k l0 l1 0
theorem spec_Covers.mono_l : ∀ k, (∀ y0 y1 y2, LeO (spec_Covers.l0 k y0 y1 y2) (spec_Covers.l0 (k + 1) y0 y1 y2)) ∧ (∀ y0 y1 y2, LeO (spec_Covers.l1 k y0 y1 y2) (spec_Covers.l1 (k + 1) y0 y1 y2)) ∧ (∀ y0 y1 y2 y3 y4, LeO (spec_Covers.l2 k y0 y1 y2 y3 y4) (spec_Covers.l2 (k + 1) y0 y1 y2 y3 y4))
 | 0 => ⟨fun _ _ _ r h => by simp [spec_Covers.l0] at h, fun _ _ _ r h => by simp [spec_Covers.l1] at h, fun _ _ _ _ _ r h => by simp [spec_Covers.l2] at h⟩
 | k + 1 => by
  obtain ⟨ih0, ih1, ih2⟩ := spec_Covers.mono_l k
  refine ⟨?_, ?_, ?_⟩
  ·
   intro y0 y1 y2
   unfold spec_Covers.l0
   repeat' first | (with_reducible first | exact LeO.refl _ | exact LeO.none _ | refine LeO.ite ?_ ?_ | refine LeO.bind ?_ (fun _ => ?_) | exact ih0 _ _ _ | exact ih1 _ _ _ | exact ih2 _ _ _ _ _ | exact spec_ArePaths.mono _ _ | exact spec_IsTogether.mono _ _ _ | exact spec_l6Has.mono _ _ _)
  ·
   intro y0 y1 y2
   unfold spec_Covers.l1
   repeat' first | (with_reducible first | exact LeO.refl _ | exact LeO.none _ | refine LeO.ite ?_ ?_ | refine LeO.bind ?_ (fun _ => ?_) | exact ih0 _ _ _ | exact ih1 _ _ _ | exact ih2 _ _ _ _ _ | exact spec_ArePaths.mono _ _ | exact spec_IsTogether.mono _ _ _ | exact spec_l6Has.mono _ _ _)
  ·
   intro y0 y1 y2 y3 y4
   unfold spec_Covers.l2
   repeat' first | (with_reducible first | exact LeO.refl _ | exact LeO.none _ | refine LeO.ite ?_ ?_ | refine LeO.bind ?_ (fun _ => ?_) | exact ih0 _ _ _ | exact ih1 _ _ _ | exact ih2 _ _ _ _ _ | exact spec_ArePaths.mono _ _ | exact spec_IsTogether.mono _ _ _ | exact spec_l6Has.mono _ _ _)
theorem spec_Covers.mono : ∀ a0 a1 k, LeO (spec_Covers.f k a0 a1) (spec_Covers.f (k + 1) a0 a1) := by
 intro a0 a1 k
 obtain ⟨ih0, ih1, ih2⟩ := spec_Covers.mono_l k
 unfold spec_Covers.f
 repeat' first | (with_reducible first | exact LeO.refl _ | exact LeO.none _ | refine LeO.ite ?_ ?_ | refine LeO.bind ?_ (fun _ => ?_) | exact ih0 _ _ _ | exact ih1 _ _ _ | exact ih2 _ _ _ _ _ | exact spec_ArePaths.mono _ _ | exact spec_IsTogether.mono _ _ _ | exact spec_l6Has.mono _ _ _)
set_option maxHeartbeats 8000000 in
set_option maxRecDepth 100000 in
theorem spec_Covers.calls (k : Nat) (A0 : Option Addr) (c0 : Nat) (l0 : List (S89)) (A1 : Option Addr) (c1 : Nat) (l1 : List (List Int)) (r : Bool) (w : World) (hr0 : Kd.C k89 w A0 l0.length l0) (hc0 : l0.length ≤ c0) (hr1 : Kd.C (Kd.slice 3 (Kd.int .i64)) w A1 l1.length l1) (hc1 : l1.length ≤ c1) (h : spec_Covers.f k l0 l1 = some r) :
  Calls Try.prog 124 #[.slice A0 l0.length c0, .slice A1 l1.length c1] w fun e w' => e = .returned (.bool r) ∧ Below w.heap.size w w' := by
 have HR0 := Aside0.mk hr0
 have HC0 := Aside0.mk hc0
 clear hr0 hc0
 have HR1 := Aside0.mk hr1
 have HC1 := Aside0.mk hc1
 clear hr1 hc1
 have HB := Aside0.mk (Below.refl w.heap.size w)
 have H : (spec_Covers.l0 k l0 l1 0) = some r := h
 clear h
 have H' := Aside0.mk H
 clear H
 go_enter Try.func124, Try.ntmps124
 go_wp2
 repeat (go_quiet (fail); try go_wp2)
 go_loopg [5] k (fun kq v5 w' => ∃ (x5_1 : Int), v5 = .int .i64 x5_1 ∧ Aside0 (spec_Covers.l0 kq l0 l1 x5_1 = some r) ∧ Aside0 (kq ≤ k) ∧ Aside0 (Below w.heap.size w w'))
 case atStart => exact ⟨(0), rS, H', ⟨Nat.le_refl _⟩, ⟨bA⟩⟩
 case round =>
  clear H'
  try clear c1
  try clear p2
  obtain ⟨x5_1, rfl, HA, HK1, HB⟩ := hrel
  cases gk with
  | zero => exact absurd HA.out (by simp [spec_Covers.l0])
  | succ k1 =>
   have H := HA.out
   clear HA
   simp only [spec_Covers.l0] at H
   by_cases c3 : x5_1 < (l1.length : Int)
   ·
    rw [if_pos c3] at H
    have c3b0 := decide_eq_true c3
    clear c3
    have c4 : 0 ≤ x5_1 := ifN H
    replace H := ifT H
    have c4b0 := decide_eq_true c4
    clear c4
    obtain ⟨t251, A5, H⟩ := bindE H
    try dsimp only at H
    by_cases c6 : t251 = true
    ·
     subst c6
     have H1 : (spec_Covers.l0 k1 l0 l1 (wrap64 (x5_1 + 1))) = some r := by rw [if_pos rfl] at H; exact H
     clear H
     have H := H1
     clear H1
     have H' := Aside0.mk H
     clear H
     have p250 : 0 ≤ (x5_1 : Int) := dA
     have q250 : x5_1 < (l1.length : Int) := dA
     obtain ⟨ad250, A250_0, c250_0, e250, hx250_0, hl250_0, hi250_0⟩ := at_L3 HR1.out x5_1 p250 q250
     cases e250
     replace hx250_0 := hC HB hx250_0
     have HR250_0 := Aside0.mk hi250_0
     have HC250_0 := Aside0.mk hl250_0
     clear hi250_0 hl250_0
     replace p250 := eq_true p250
     replace q250 := eq_true q250
     go_wp2_with (first | (go_at_call 82; (with_reducible refine (spec_IsTogether.calls k1 _ _ l0 _ _ (rd_L3 l1 x5_1) true _ ?side1 ?side2 ?side3 ?side4 A5.out).mono ?_); (case side1 => exact cB HR0); (case side2 => exact HC0.out); (case side3 => exact cB HR250_0); (case side4 => exact HC250_0.out); rintro e w7 ⟨rfl, hb⟩; replace HB := Aside0.mk (below_step bA hb); (try clear hb)))
     repeat (go_quiet (first | (go_at_call 82; (with_reducible refine (spec_IsTogether.calls k1 _ _ l0 _ _ (rd_L3 l1 x5_1) true _ ?side1 ?side2 ?side3 ?side4 A5.out).mono ?_); (case side1 => exact cB HR0); (case side2 => exact HC0.out); (case side3 => exact cB HR250_0); (case side4 => exact HC250_0.out); rintro e w7 ⟨rfl, hb⟩; replace HB := Aside0.mk (below_step bA hb); (try clear hb))); try go_wp2_with (first | (go_at_call 82; (with_reducible refine (spec_IsTogether.calls k1 _ _ l0 _ _ (rd_L3 l1 x5_1) true _ ?side1 ?side2 ?side3 ?side4 A5.out).mono ?_); (case side1 => exact cB HR0); (case side2 => exact HC0.out); (case side3 => exact cB HR250_0); (case side4 => exact HC250_0.out); rintro e w7 ⟨rfl, hb⟩; replace HB := Aside0.mk (below_step bA hb); (try clear hb))))
     go_roundg k1
     case measure => have := HK1.out; omega
     case rel => exact ⟨(wrap64 (x5_1 + 1)), rS, H', ⟨by have := HK1.out; omega⟩, ⟨bA⟩⟩
    ·
     replace c6 := Bool.eq_false_iff.mpr c6
     subst c6
     have H1 : (some false) = some r := by rw [if_neg (show ¬ (false = true) by decide)] at H; exact H
     clear H
     have H := H1
     clear H1
     obtain rfl := Option.some.inj H
     have p250 : 0 ≤ (x5_1 : Int) := dA
     have q250 : x5_1 < (l1.length : Int) := dA
     obtain ⟨ad250, A250_0, c250_0, e250, hx250_0, hl250_0, hi250_0⟩ := at_L3 HR1.out x5_1 p250 q250
     cases e250
     replace hx250_0 := hC HB hx250_0
     have HR250_0 := Aside0.mk hi250_0
     have HC250_0 := Aside0.mk hl250_0
     clear hi250_0 hl250_0
     replace p250 := eq_true p250
     replace q250 := eq_true q250
     go_wp2_with (first | (go_at_call 82; (with_reducible refine (spec_IsTogether.calls k1 _ _ l0 _ _ (rd_L3 l1 x5_1) false _ ?side1 ?side2 ?side3 ?side4 A5.out).mono ?_); (case side1 => exact cB HR0); (case side2 => exact HC0.out); (case side3 => exact cB HR250_0); (case side4 => exact HC250_0.out); rintro e w8 ⟨rfl, hb⟩; replace HB := Aside0.mk (below_step bA hb); (try clear hb)))
     repeat (go_quiet (first | (go_at_call 82; (with_reducible refine (spec_IsTogether.calls k1 _ _ l0 _ _ (rd_L3 l1 x5_1) false _ ?side1 ?side2 ?side3 ?side4 A5.out).mono ?_); (case side1 => exact cB HR0); (case side2 => exact HC0.out); (case side3 => exact cB HR250_0); (case side4 => exact HC250_0.out); rintro e w8 ⟨rfl, hb⟩; replace HB := Aside0.mk (below_step bA hb); (try clear hb))); try go_wp2_with (first | (go_at_call 82; (with_reducible refine (spec_IsTogether.calls k1 _ _ l0 _ _ (rd_L3 l1 x5_1) false _ ?side1 ?side2 ?side3 ?side4 A5.out).mono ?_); (case side1 => exact cB HR0); (case side2 => exact HC0.out); (case side3 => exact cB HR250_0); (case side4 => exact HC250_0.out); rintro e w8 ⟨rfl, hb⟩; replace HB := Aside0.mk (below_step bA hb); (try clear hb))))
     go_ret
     exact ⟨rA, bA⟩
   ·
    rw [if_neg c3] at H
    have c3b0 := decide_eq_false c3
    clear c3
    have H' := Aside0.mk H
    clear H
    go_wp2
    repeat (go_quiet (fail); try go_wp2)
    go_loopg [6] k1 (fun kq v6 w' => ∃ (x6_2 : Int), v6 = .int .i64 x6_2 ∧ Aside0 (spec_Covers.l1 kq l0 l1 x6_2 = some r) ∧ Aside0 (kq ≤ k1) ∧ Aside0 (Below w.heap.size w w'))
    case atStart => exact ⟨(0), rS, H', ⟨Nat.le_refl _⟩, ⟨bA⟩⟩
    case round =>
     clear H'
     try clear c1
     try clear c2
     try clear p2
     try clear q2
     try clear hx2
     try clear c3
     try clear c3b0
     try clear c4
     try clear c4b0
     try clear c6
     try clear p6
     try clear hx250_0
     try clear p2
     try clear p250
     try clear q250
     obtain ⟨x6_2, rfl, HA, HK2, HB⟩ := hrel
     cases gk with
     | zero => exact absurd HA.out (by simp [spec_Covers.l1])
     | succ k2 =>
      have H := HA.out
      clear HA
      simp only [spec_Covers.l1] at H
      by_cases c9 : x6_2 < (l0.length : Int)
      ·
       rw [if_pos c9] at H
       have c9b0 := decide_eq_true c9
       clear c9
       have H' := Aside0.mk H
       clear H
       go_wp2
       repeat (go_quiet (fail); try go_wp2)
       go_loopg [7, 8] k2 (fun kq v7 v8 w' => ∃ (x7_3 : Bool) (x8_3 : Int), v7 = .bool x7_3 ∧ v8 = .int .i64 x8_3 ∧ Aside0 (spec_Covers.l2 kq l0 l1 x6_2 x7_3 x8_3 = some r) ∧ Aside0 (kq ≤ k2) ∧ Aside0 (Below w.heap.size w w'))
       case atStart => exact ⟨(false), (0), rS, rS, H', ⟨Nat.le_refl _⟩, ⟨bA⟩⟩
       case round =>
        clear H'
        try clear c1
        try clear c2
        try clear p2
        try clear q2
        try clear hx2
        try clear c3
        try clear c3b0
        try clear c4
        try clear c4b0
        try clear c6
        try clear p6
        try clear c9
        try clear c9b0
        try clear hx250_0
        try clear p2
        try clear p250
        try clear p6
        try clear q2
        try clear q250
        obtain ⟨x7_3, x8_3, rfl, rfl, HA, HK3, HB⟩ := hrel
        cases gk with
        | zero => exact absurd HA.out (by simp [spec_Covers.l2])
        | succ k3 =>
         have H := HA.out
         clear HA
         simp only [spec_Covers.l2] at H
         by_cases c10 : x8_3 < (l1.length : Int)
         ·
          rw [if_pos c10] at H
          have c10b0 := decide_eq_true c10
          clear c10
          by_cases c11 : x7_3 = true
          ·
           subst c11
           have H1 : (spec_Covers.l2 k3 l0 l1 x6_2 true (wrap64 (x8_3 + 1))) = some r := by rw [if_pos rfl] at H; exact H
           clear H
           have H := H1
           clear H1
           have H' := Aside0.mk H
           clear H
           go_wp2
           repeat (go_quiet (fail); try go_wp2)
           go_roundg k3
           case measure => have := HK1.out; have := HK2.out; have := HK3.out; omega
           case rel => exact ⟨(true), (wrap64 (x8_3 + 1)), rS, rS, H', ⟨by have := HK1.out; have := HK2.out; have := HK3.out; omega⟩, ⟨bA⟩⟩
          ·
           replace c11 := Bool.eq_false_iff.mpr c11
           subst c11
           have H1 : (if 0 ≤ x8_3 then (if 0 ≤ x6_2 then (if x6_2 < (l0.length : Int) then ((spec_l6Has.f k3 (rd_L3 l1 x8_3) ((rd_T89 l0 x6_2).f0)).bind fun t255 => (spec_Covers.l2 k3 l0 l1 x6_2 t255 (wrap64 (x8_3 + 1)))) else (none)) else (none)) else (none)) = some r := by rw [if_neg (show ¬ (false = true) by decide)] at H; exact H
           clear H
           have H := H1
           clear H1
           have c12 : 0 ≤ x8_3 := ifN H
           replace H := ifT H
           have c12b0 := decide_eq_true c12
           clear c12
           have c13 : 0 ≤ x6_2 := ifN H
           replace H := ifT H
           have c13b0 := decide_eq_true c13
           clear c13
           have c14 : x6_2 < (l0.length : Int) := ifN H
           replace H := ifT H
           have c14b0 := decide_eq_true c14
           clear c14
           obtain ⟨t255, A15, H⟩ := bindE H
           try dsimp only at H
           have H' := Aside0.mk H
           clear H
           have p253 : 0 ≤ (x8_3 : Int) := dA
           have q253 : x8_3 < (l1.length : Int) := dA
           obtain ⟨ad253, A253_0, c253_0, e253, hx253_0, hl253_0, hi253_0⟩ := at_L3 HR1.out x8_3 p253 q253
           cases e253
           replace hx253_0 := hC HB hx253_0
           have HR253_0 := Aside0.mk hi253_0
           have HC253_0 := Aside0.mk hl253_0
           clear hi253_0 hl253_0
           replace p253 := eq_true p253
           replace q253 := eq_true q253
           have p254 : 0 ≤ (x6_2 : Int) := dA
           have q254 : x6_2 < (l0.length : Int) := dA
           obtain ⟨ad254, e254, hx254_0, hx254_1, hx254_2, hx254_3⟩ := at_T89 HR0.out x6_2 p254 q254
           cases e254
           replace hx254_0 := hC HB hx254_0
           replace hx254_1 := hC HB hx254_1
           replace hx254_2 := hC HB hx254_2
           replace hx254_3 := hC HB hx254_3
           replace p254 := eq_true p254
           replace q254 := eq_true q254
           go_wp2_with (first | (go_at_call 101; (with_reducible refine (spec_l6Has.calls k3 _ _ (rd_L3 l1 x8_3) ((rd_T89 l0 x6_2).f0) t255 _ ?side1 ?side2 A15.out).mono ?_); (case side1 => exact cB HR253_0); (case side2 => exact HC253_0.out); rintro e w' ⟨rfl, ⟨nd, rfl⟩⟩; (try first | exact ⟨rfl, _, World.drewN_drewN _ _ _⟩ | exact ⟨rfl, _, Eq.trans (World.drewN_drewN _ _ _) (congrArg (World.drewN _) (Nat.add_assoc _ _ _))⟩)))
           repeat (go_quiet (first | (go_at_call 101; (with_reducible refine (spec_l6Has.calls k3 _ _ (rd_L3 l1 x8_3) ((rd_T89 l0 x6_2).f0) t255 _ ?side1 ?side2 A15.out).mono ?_); (case side1 => exact cB HR253_0); (case side2 => exact HC253_0.out); rintro e w' ⟨rfl, ⟨nd, rfl⟩⟩; (try first | exact ⟨rfl, _, World.drewN_drewN _ _ _⟩ | exact ⟨rfl, _, Eq.trans (World.drewN_drewN _ _ _) (congrArg (World.drewN _) (Nat.add_assoc _ _ _))⟩))); try go_wp2_with (first | (go_at_call 101; (with_reducible refine (spec_l6Has.calls k3 _ _ (rd_L3 l1 x8_3) ((rd_T89 l0 x6_2).f0) t255 _ ?side1 ?side2 A15.out).mono ?_); (case side1 => exact cB HR253_0); (case side2 => exact HC253_0.out); rintro e w' ⟨rfl, ⟨nd, rfl⟩⟩; (try first | exact ⟨rfl, _, World.drewN_drewN _ _ _⟩ | exact ⟨rfl, _, Eq.trans (World.drewN_drewN _ _ _) (congrArg (World.drewN _) (Nat.add_assoc _ _ _))⟩))))
           go_roundg k3
           case measure => have := HK1.out; have := HK2.out; have := HK3.out; omega
           case rel => exact ⟨(t255), (wrap64 (x8_3 + 1)), rS, rS, H', ⟨by have := HK1.out; have := HK2.out; have := HK3.out; omega⟩, ⟨bA⟩⟩
         ·
          rw [if_neg c10] at H
          have c10b0 := decide_eq_false c10
          clear c10
          by_cases c16 : x7_3 = true
          ·
           subst c16
           have H1 : (spec_Covers.l1 k3 l0 l1 (wrap64 (x6_2 + 1))) = some r := by rw [if_pos rfl] at H; exact H
           clear H
           have H := H1
           clear H1
           have H' := Aside0.mk H
           clear H
           go_wp2
           repeat (go_quiet (fail); try go_wp2)
           go_roundg k3
           case measure => have := HK1.out; have := HK2.out; have := HK3.out; omega
           case rel => exact ⟨(wrap64 (x6_2 + 1)), rS, H', ⟨by have := HK1.out; have := HK2.out; have := HK3.out; omega⟩, ⟨bA⟩⟩
          ·
           replace c16 := Bool.eq_false_iff.mpr c16
           subst c16
           have H1 : (some false) = some r := by rw [if_neg (show ¬ (false = true) by decide)] at H; exact H
           clear H
           have H := H1
           clear H1
           obtain rfl := Option.some.inj H
           go_wp2
           repeat (go_quiet (fail); try go_wp2)
           go_ret
           exact ⟨rA, bA⟩
      ·
       rw [if_neg c9] at H
       have c9b0 := decide_eq_false c9
       clear c9
       obtain ⟨t252, A17, H⟩ := bindE H
       try dsimp only at H
       obtain rfl := Option.some.inj H
       go_wp2_with (first | (go_at_call 122; (with_reducible refine (spec_ArePaths.calls k2 _ _ l0 t252 _ ?side1 ?side2 A17.out).mono ?_); (case side1 => exact cB HR0); (case side2 => exact HC0.out); rintro e w18 ⟨rfl, hb⟩; replace HB := Aside0.mk (below_step bA hb); (try clear hb)))
       repeat (go_quiet (first | (go_at_call 122; (with_reducible refine (spec_ArePaths.calls k2 _ _ l0 t252 _ ?side1 ?side2 A17.out).mono ?_); (case side1 => exact cB HR0); (case side2 => exact HC0.out); rintro e w18 ⟨rfl, hb⟩; replace HB := Aside0.mk (below_step bA hb); (try clear hb))); try go_wp2_with (first | (go_at_call 122; (with_reducible refine (spec_ArePaths.calls k2 _ _ l0 t252 _ ?side1 ?side2 A17.out).mono ?_); (case side1 => exact cB HR0); (case side2 => exact HC0.out); rintro e w18 ⟨rfl, hb⟩; replace HB := Aside0.mk (below_step bA hb); (try clear hb))))
       go_ret
       exact ⟨rA, bA⟩

/-! ### spec_l8Stages: function 125 -/
def spec_l8Stages.l0 : Nat → List (S92) → List (List Int) → Int → Option ((List (List Int)))
 | 0, _, _, _ => none
 | k + 1, x0, x3, x4 => if x4 < (x0.length : Int) then (if 0 ≤ x4 then (if x3.length < 5864062014805 then (spec_l8Stages.l0 k x0 (x3 ++ [(rd_T92 x0 x4).f0]) (wrap64 (x4 + 1))) else (none)) else (none)) else (some x3)
def spec_l8Stages.f (k : Nat) (l0 : List (S92)) : Option ((List (List Int))) := spec_l8Stages.l0 k l0 (([] : List (List Int))) 0
theorem spec_l8Stages.mono_l : ∀ k, (∀ y0 y1 y2, LeO (spec_l8Stages.l0 k y0 y1 y2) (spec_l8Stages.l0 (k + 1) y0 y1 y2))
 | 0 => fun _ _ _ r h => by simp [spec_l8Stages.l0] at h
 | k + 1 => by
  have ih0 := spec_l8Stages.mono_l k
  ·
   intro y0 y1 y2
   unfold spec_l8Stages.l0
   repeat' first | (with_reducible first | exact LeO.refl _ | exact LeO.none _ | refine LeO.ite ?_ ?_ | refine LeO.bind ?_ (fun _ => ?_) | exact ih0 _ _ _)
theorem spec_l8Stages.mono : ∀ a0 k, LeO (spec_l8Stages.f k a0) (spec_l8Stages.f (k + 1) a0) := by
 intro a0 k
 have ih0 := spec_l8Stages.mono_l k
 unfold spec_l8Stages.f
 repeat' first | (with_reducible first | exact LeO.refl _ | exact LeO.none _ | refine LeO.ite ?_ ?_ | refine LeO.bind ?_ (fun _ => ?_) | exact ih0 _ _ _)
set_option maxHeartbeats 8000000 in
set_option maxRecDepth 100000 in
theorem spec_l8Stages.calls (k : Nat) (P0_ : Nat → Prop) (A0 : Option Addr) (c0 : Nat) (l0 : List (S92)) (r : List (List Int)) (w : World) (hs0 : Kd.V k92 92 w w.heap.size (fun k_ => P0_ k_) (.slice A0 l0.length c0) l0) (h : spec_l8Stages.f k l0 = some r) :
  Calls Try.prog 125 #[.slice A0 l0.length c0] w fun e w' => ∃ v0_ : Value, e = .returned (v0_) ∧ Kd.N (Kd.slice 3 (Kd.int .i64)) 41 w' w.heap.size (fun k_ => (P0_ k_ ∨ w.heap.size ≤ k_)) v0_ r ∧ Below w.heap.size w w' := by
 have HO0 := Aside0.mk (show Kd.V k92 92 w w.heap.size (fun k_ => (P0_ k_ ∨ w.heap.size ≤ k_)) (.slice A0 l0.length c0) l0 from Kd.V_mono hs0 (fun k_ hk => .inl hk))
 have HB := Aside0.mk (Below.refl w.heap.size w)
 have H : (spec_l8Stages.l0 k l0 (([] : List (List Int))) 0) = some r := h
 clear h
 obtain ⟨y256, hy256⟩ : ∃ y_ : List (List Int), y_ = (([] : List (List Int))) := ⟨_, rfl⟩
 replace H : (spec_l8Stages.l0 k l0 y256 0) = some r := rH H hy256
 have Ny256 := Aside0.mk hy256
 clear hy256
 have H' := Aside0.mk H
 clear H
 go_enter Try.func125, Try.ntmps125
 go_wp2_with (first | ((with_reducible refine gate_dst (N := 5) rfl ?_); refine Kd.N_lit (Kd.slice 3 (Kd.int .i64)) _ 41 ?hg (N' := 5) ?hd (xs := ([] : List (List Int))) (inner := []) (ok := (fun k_ => (P0_ k_ ∨ w.heap.size ≤ k_))) (okp := (fun k_ => (P0_ k_ ∨ w.heap.size ≤ k_))) ?hr ?hp (fun _ hk => hk) ((show ∀ k_, w.heap.size ≤ k_ → (fun k_ => (P0_ k_ ∨ w.heap.size ≤ k_)) k_ from fun k_ hk => (.inr (Nat.le_trans (below_size bA) hk))) _ (Nat.le_refl _)) (Below.refl _ _) (Nat.le_refl _) (by simp) ?_; (case hd => rfl); (case hg => rfl); (case hr => first | (go_simp; done) | (go_simp; rfl)); (case hp => exact (Reps.none _ _)); intro v257 w2 ho3 hb hg_ hnew_; clear hg_ hnew_; (first | rw [← Ny256.out] at ho3 | (simp only [Int.reduceToNat] at ho3; rw [← Ny256.out] at ho3)); have n0_ := Aside0.mk (Kd.V_elder' (by (with_reducible repeat (first | apply Kd.V_alloc | apply Kd.V_drewN | apply Kd.V_drew)); exact HO0.out) (by first | exact Kd.N_base ho3 | exact Kd.N_base (Kd.S_N ho3)) hb); have n1_ := Aside0.mk (Kd.N_lower ho3 (below_size bA)); have n2_ := Aside0.mk (below_step bA hb); clear HO0; clear HB; have HO0 := n0_; have HO258 := n1_; have HB := n2_; clear n0_ n1_ n2_; clear hb ho3))
 go_loopg [3, 4] k (fun kq v3 v4 w' => ∃ (x3_1 : List (List Int)) (x4_1 : Int), v4 = .int .i64 x4_1 ∧ Aside0 (spec_l8Stages.l0 kq l0 x3_1 x4_1 = some r) ∧ Aside0 (kq ≤ k) ∧ Aside0 (Kd.V k92 92 w' w.heap.size (fun k_ => (P0_ k_ ∨ w.heap.size ≤ k_) ∧ some k_ ≠ (v3 : Value).ownBlock) (.slice A0 l0.length c0) l0) ∧ Aside0 (Kd.N (Kd.slice 3 (Kd.int .i64)) 41 w' w.heap.size (fun k_ => (P0_ k_ ∨ w.heap.size ≤ k_)) v3 x3_1) ∧ Aside0 (Below w.heap.size w w'))
 case atStart => exact ⟨(y256), (0), rS, H', ⟨Nat.le_refl _⟩, ⟨by (with_reducible repeat (first | apply Kd.V_alloc | apply Kd.V_drewN | apply Kd.V_drew)); exact HO0.out⟩, ⟨by (with_reducible repeat (first | apply Kd.N_alloc | apply Kd.N_drewN | apply Kd.N_drew)); exact HO258.out⟩, ⟨bA⟩⟩
 case round =>
  clear H'
  try clear c1
  try clear p2
  obtain ⟨x3_1, x4_1, rfl, HA, HK1, HO_0, HO_3, HB⟩ := hrel
  cases gk with
  | zero => exact absurd HA.out (by simp [spec_l8Stages.l0])
  | succ k1 =>
   have H := HA.out
   clear HA
   simp only [spec_l8Stages.l0] at H
   by_cases c4 : x4_1 < (l0.length : Int)
   ·
    rw [if_pos c4] at H
    have c4b0 := decide_eq_true c4
    clear c4
    have c5 : 0 ≤ x4_1 := ifN H
    replace H := ifT H
    have c5b0 := decide_eq_true c5
    clear c5
    have c6 : x3_1.length < 5864062014805 := ifN H
    replace H := ifT H
    have LMc6 := Aside0.mk c6
    clear c6
    obtain ⟨y260, hy260⟩ : ∃ y_ : List (List Int), y_ = (x3_1 ++ [(rd_T92 l0 x4_1).f0]) := ⟨_, rfl⟩
    replace H : (spec_l8Stages.l0 k1 l0 y260 (wrap64 (x4_1 + 1))) = some r := rH H hy260
    have Ny260 := Aside0.mk hy260
    clear hy260
    have H' := Aside0.mk H
    clear H
    have p259 : 0 ≤ (x4_1 : Int) := dA
    have q259 : x4_1 < (l0.length : Int) := dA
    obtain ⟨ad259, A259_0, c259_0, e259, hx259_0, hx259_1, hl259_0, hi259_0⟩ := at_T92 (Kd.V_reads' HO_0.out).2.2 x4_1 p259 q259
    cases e259
    obtain ⟨ce259, hce259, hMe259, hcc259⟩ := Kd.V_get HO_0.out z92 x4_1 p259 (by first | exact q259 | exact dA | (have e_ := (Kd.V_reads' HO_0.out).1; omega))
    obtain ⟨ua259_0, uc259_0, rfl, ul259_0, ge259_0⟩ := k92_openF hMe259
    have hv259_0 := hcc259 0 _ rfl
    rw [Nat.add_zero] at hv259_0
    replace hv259_0 := Option.some.inj (hv259_0.symm.trans hx259_0)
    injection hv259_0 with hva_ hvn_ hvc_
    rw [hva_] at ge259_0
    rw [hvc_] at ul259_0
    have HL259_0 := Aside0.mk (show Kd.V (Kd.int .i64) 3 _ w.heap.size _ _ ((rd_T92 l0 x4_1).f0) from Kd.V_mk ul259_0 ge259_0)
    clear hva_ hvn_ hvc_ ge259_0 ul259_0
    clear hcc259 hce259
    have HR259_0 := Aside0.mk hi259_0
    have HC259_0 := Aside0.mk hl259_0
    clear hi259_0 hl259_0
    replace p259 := eq_true p259
    replace q259 := eq_true q259
    go_wp2_with (first | ((with_reducible refine gate_builtin (b := .append) (xs := #[.tmp 12, .tmp 18]) rfl ?_); at_builtin; refine Kd.N_append (Kd.slice 3 (Kd.int .i64)) (w0 := w) w.heap.size rfl (.tmp 12) (.tmp 18) 103 41 (.slice none 0 0) 24 rfl Try.underlying103 info41 rfl (by decide) (by omega) u3 x3_1 ((rd_T92 l0 x4_1).f0) [.slice A259_0 ((rd_T92 l0 x4_1).f0).length c259_0] (fun k_ => (P0_ k_ ∨ w.heap.size ≤ k_)) (fun k_ => ((fun k_ => (P0_ k_ ∨ w.heap.size ≤ k_))) k_ ∧ some k_ ≠ (u3 : Value).ownBlock) rfl rfl ?aP (fun _ hk => hk) ?aF ?aO ?aB ?aS ?aL ?_; (case aP => exact (Kd.FK_slice_mk (Kd.V_reads' (Kd.V_mono (ok' := (fun k_ => ((fun k_ => (P0_ k_ ∨ w.heap.size ≤ k_))) k_ ∧ some k_ ≠ (u3 : Value).ownBlock)) (HL259_0.out) (fun k_ hk => ⟨hk.1, hk.2⟩))).2.1 (Kd.V_F (Kd.V_mono (ok' := (fun k_ => ((fun k_ => (P0_ k_ ∨ w.heap.size ≤ k_))) k_ ∧ some k_ ≠ (u3 : Value).ownBlock)) (HL259_0.out) (fun k_ hk => ⟨hk.1, hk.2⟩))))); (case aB => exact bA); (case aF => exact (fun k_ hk => (.inr (Nat.le_trans (below_size bA) hk)))); (case aO => exact (by (with_reducible repeat (first | apply Kd.N_alloc | apply Kd.N_drewN | apply Kd.N_drew)); exact HO_3.out)); (case aS => exact (below_size bA)); (case aL => have := LMc6.out; omega); intro v261 w7 ho hb hg hat; rw [← Ny260.out] at ho; have n0_ := Aside0.mk (Kd.V_afterv (ok := (fun k_ => (P0_ k_ ∨ w.heap.size ≤ k_))) (by (with_reducible repeat (first | apply Kd.V_alloc | apply Kd.V_drewN | apply Kd.V_drew)); exact HO_0.out) hg hat); have n1_ := Aside0.mk (Kd.V_afterv (ok := (fun k_ => (P0_ k_ ∨ w.heap.size ≤ k_))) (by (with_reducible repeat (first | apply Kd.V_alloc | apply Kd.V_drewN | apply Kd.V_drew)); exact HL259_0.out) hg hat); have n2_ := Aside0.mk (hb); have n3_ := Aside0.mk (ho); clear HO_0; clear HL259_0; clear HB; clear HO_3; have HO_0 := n0_; have HL259_0 := n1_; have HB := n2_; have HO262 := n3_; clear n0_ n1_ n2_ n3_; clear ho hb hg hat))
    go_roundg k1
    case measure => have := HK1.out; omega
    case rel => exact ⟨(y260), (wrap64 (x4_1 + 1)), rS, H', ⟨by have := HK1.out; omega⟩, ⟨by (with_reducible repeat (first | apply Kd.V_alloc | apply Kd.V_drewN | apply Kd.V_drew)); exact HO_0.out⟩, ⟨by (with_reducible repeat (first | apply Kd.N_alloc | apply Kd.N_drewN | apply Kd.N_drew)); exact HO262.out⟩, ⟨bA⟩⟩
   ·
    rw [if_neg c4] at H
    have c4b0 := decide_eq_false c4
    clear c4
    obtain rfl := Option.some.inj H
    go_wp2
    go_ret
    exact ⟨_, by first | rfl | (simp [errW_none, errW_some] <;> rfl) | (simp [*, errW_none, errW_some] <;> rfl), by (with_reducible repeat (first | apply Kd.N_alloc | apply Kd.N_drewN | apply Kd.N_drew)); exact HO_3.out, bA⟩

/-! ### spec_IsPlan: function 75 -/
def spec_IsPlan.l0 : Nat → List (S89) → List (S92) → Int → Option (Bool)
 | 0, _, _, _ => none
 | k + 1, x0, x1, x5 => if x5 < (x1.length : Int) then (if 0 ≤ x5 then (if (((rd_T92 x1 x5).f0).length : Int) = 0 then (some false) else ((spec_IsTogether.f k x0 ((rd_T92 x1 x5).f0)).bind fun t270 => (if t270 = true then ((spec_LeastGreen.f k x0 ((rd_T92 x1 x5).f0)).bind fun t273 => ((spec_l1In.f ((rd_T92 x1 x5).f1) t273 60).bind fun t274 => (if t274 = true then (spec_IsPlan.l0 k x0 x1 (wrap64 (x5 + 1))) else (some false)))) else (some false)))) else (none)) else ((spec_l8Stages.f k x1).bind fun t264 => ((spec_Covers.f k x0 t264).bind fun t267 => (some t267)))
def spec_IsPlan.f (k : Nat) (l0 : List (S89)) (l1 : List (S92)) : Option (Bool) := (spec_l1In.f (l1.length : Int) 1 6).bind fun t263 => (if t263 = true then (spec_IsPlan.l0 k l0 l1 0) else (some false))
theorem spec_IsPlan.mono_l : ∀ k, (∀ y0 y1 y2, LeO (spec_IsPlan.l0 k y0 y1 y2) (spec_IsPlan.l0 (k + 1) y0 y1 y2))
 | 0 => fun _ _ _ r h => by simp [spec_IsPlan.l0] at h
 | k + 1 => by
  have ih0 := spec_IsPlan.mono_l k
  ·
   intro y0 y1 y2
   unfold spec_IsPlan.l0
   repeat' first | (with_reducible first | exact LeO.refl _ | exact LeO.none _ | refine LeO.ite ?_ ?_ | refine LeO.bind ?_ (fun _ => ?_) | exact ih0 _ _ _ | exact spec_Covers.mono _ _ _ | exact spec_IsTogether.mono _ _ _ | exact spec_LeastGreen.mono _ _ _ | exact spec_l8Stages.mono _ _)
theorem spec_IsPlan.mono : ∀ a0 a1 k, LeO (spec_IsPlan.f k a0 a1) (spec_IsPlan.f (k + 1) a0 a1) := by
 intro a0 a1 k
 have ih0 := spec_IsPlan.mono_l k
 unfold spec_IsPlan.f
 repeat' first | (with_reducible first | exact LeO.refl _ | exact LeO.none _ | refine LeO.ite ?_ ?_ | refine LeO.bind ?_ (fun _ => ?_) | exact ih0 _ _ _ | exact spec_Covers.mono _ _ _ | exact spec_IsTogether.mono _ _ _ | exact spec_LeastGreen.mono _ _ _ | exact spec_l8Stages.mono _ _)
def spec_IsPlan.T6 : Bool × List (List Nat × List Nat) := (true, [([], []), ([], []), ([0, 1], [0, 1]), ([2], [2]), ([3], [3]), ([4], [4]), ([5], [5]), ([6], [6]), ([7], [7]), ([7], [7]), ([7], [7]), ([9, 10, 7], [7, 9, 10]), ([11, 7], [7, 11]), ([12, 7], [7, 12]), ([8, 13, 7, 7], [7, 8, 13]), ([14, 7], [7, 14]), ([7, 15], [7, 15]), ([16, 14], [16]), ([17], [17]), ([17], [17]), ([18, 19, 17], [17, 18, 19]), ([20, 17], [17, 20]), ([21, 17], [17, 21]), ([17], [17]), ([17], [17]), ([17], [17]), ([24, 25, 17], [17, 24, 25]), ([26, 17], [17, 26]), ([27, 17], [17, 27]), ([23, 28, 17, 17], [17, 23, 28]), ([22, 29, 29, 17], [17, 22, 29]), ([30, 17], [17, 30]), ([17, 31], [17, 31])])
def spec_IsPlan.B6 : List Nat := [0, 0, 3, 7, 15, 31, 63, 127, 255, 255, 255, 1791, 3839, 7935, 16383, 32767, 65535, 131071, 262143, 262143, 1048575, 2097151, 4194303, 262143, 262143, 262143, 50593791, 117702655, 251920383, 528744447, 1073741823, 2147483647, 4294967295]
theorem spec_IsPlan.tab6 : rtab .any (opsOf Try.f75 6) = spec_IsPlan.T6 := by kernel_rfl
theorem spec_IsPlan.bits6 : waitsOk spec_IsPlan.T6.2 spec_IsPlan.B6 = true := by kernel_rfl
set_option maxHeartbeats 8000000 in
set_option maxRecDepth 100000 in
theorem spec_IsPlan.calls (k : Nat) (A0 : Option Addr) (c0 : Nat) (l0 : List (S89)) (A1 : Option Addr) (c1 : Nat) (l1 : List (S92)) (r : Bool) (w : World) (hr0 : Kd.C k89 w A0 l0.length l0) (hc0 : l0.length ≤ c0) (hr1 : Kd.C k92 w A1 l1.length l1) (hc1 : l1.length ≤ c1) (h : spec_IsPlan.f k l0 l1 = some r) :
  Calls Try.prog 75 #[.slice A0 l0.length c0, .slice A1 l1.length c1] w fun e w' => e = .returned (.bool r) ∧ Below w.heap.size w w' := by
 have HR0 := Aside0.mk hr0
 have HC0 := Aside0.mk hc0
 clear hr0 hc0
 have HR1 := Aside0.mk hr1
 have HC1 := Aside0.mk hc1
 clear hr1 hc1
 have HB := Aside0.mk (Below.refl w.heap.size w)
 have H : ((spec_l1In.f (l1.length : Int) 1 6).bind fun t263 => (if t263 = true then (spec_IsPlan.l0 k l0 l1 0) else (some false))) = some r := h
 clear h
 obtain ⟨t263, A3, H⟩ := bindE H
 try dsimp only at H
 by_cases c4 : t263 = true
 ·
  subst c4
  have H1 : (spec_IsPlan.l0 k l0 l1 0) = some r := by rw [if_pos rfl] at H; exact H
  clear H
  have H := H1
  clear H1
  have H' := Aside0.mk H
  clear H
  go_enter Try.func75, Try.ntmps75
  go_wp2_with (first | ((with_reducible refine gate_callee (f := 62) rfl ?_); refine gL (some 8) Try.func62 #[.int .i64 (l1.length : Int), .int .i64 1, .int .i64 6] ?_; (with_reducible refine (spec_l1In.calls (l1.length : Int) 1 6 true _ A3.out).mono ?_); rintro e w' ⟨rfl, ⟨nd, rfl⟩⟩; refine ⟨_, rfl, ?_⟩))
  go_loopg [5] k (fun kq v5 w' => ∃ (x5_1 : Int), v5 = .int .i64 x5_1 ∧ Aside0 (spec_IsPlan.l0 kq l0 l1 x5_1 = some r) ∧ Aside0 (kq ≤ k) ∧ Aside0 (Below w.heap.size w w'))
  case atStart => exact ⟨(0), rS, H', ⟨Nat.le_refl _⟩, ⟨bA⟩⟩
  case round =>
   clear H'
   try clear c1
   try clear p2
   try clear c4
   obtain ⟨x5_1, rfl, HA, HK1, HB⟩ := hrel
   cases gk with
   | zero => exact absurd HA.out (by simp [spec_IsPlan.l0])
   | succ k1 =>
    have H := HA.out
    clear HA
    simp only [spec_IsPlan.l0] at H
    by_cases c5 : x5_1 < (l1.length : Int)
    ·
     rw [if_pos c5] at H
     have c5b0 := decide_eq_true c5
     clear c5
     have c6 : 0 ≤ x5_1 := ifN H
     replace H := ifT H
     have c6b0 := decide_eq_true c6
     clear c6
     by_cases c7 : (((rd_T92 l1 x5_1).f0).length : Int) = 0
     ·
      rw [if_pos c7] at H
      have c7b0 : ((((rd_T92 l1 x5_1).f0).length : Int) == 0) = true := beq_iff_eq.mpr c7
      have c7b1 : ((((rd_T92 l1 x5_1).f0).length : Int) != 0) = false := bne_eq_false_iff_eq.mpr c7
      clear c7
      obtain rfl := Option.some.inj H
      try go_wp2
      have HBo := HB
      replace HB := Aside0.mk (below_drew1 HB.out)
      have p268 : 0 ≤ (x5_1 : Int) := dA
      have q268 : x5_1 < (l1.length : Int) := dA
      obtain ⟨ad268, A268_0, c268_0, e268, hx268_0, hx268_1, hl268_0, hi268_0⟩ := at_T92 HR1.out x5_1 p268 q268
      have hw268_1 := hx268_1
      have hw268_0 := hx268_0
      cases e268
      replace hx268_0 := hC HB hx268_0
      replace hx268_1 := hC HB hx268_1
      have HR268_0 := Aside0.mk hi268_0
      have HC268_0 := Aside0.mk hl268_0
      clear hi268_0 hl268_0
      replace p268 := eq_true p268
      replace q268 := eq_true q268
      refine start_ (n := 33) (S := fun w' => w'.cell? (ad268.add ((x5_1).toNat * 2)) = some (.slice A268_0 ((rd_T92 l1 x5_1).f0).length c268_0) ∧ w'.cell? ⟨(ad268.add ((x5_1).toNat * 2)).block, (ad268.add ((x5_1).toNat * 2)).off + 1, none⟩ = some (.int .i64 ((rd_T92 l1 x5_1).f1))) (ds := []) (mb 33 0) (by kernel_rfl) rfl rfl ⟨(hC HB hw268_0), (hC HB hw268_1)⟩ (fun hHeld => ?_); refine with_tabW spec_IsPlan.tab6 spec_IsPlan.bits6 (fun HT_ HW_ => ?_)
      generalize wr.drew = w8 at HB HR268_0 hx268_0 hx268_1 hHeld ⊢
      refine pa 0 16 (mb 33 1) HT_ ?_
      refine pa 1 17 (mb 33 3) HT_ ?_
      refine pa 2 18 (mb 33 7) HT_ ?_
      refine pa 3 19 (mb 33 15) HT_ ?_
      refine ta2 4 20 (mb 33 31) HT_ HW_ hHeld ?_
      refine pa 5 21 (mb 33 63) HT_ ?_
      refine pa 6 22 (mb 33 127) HT_ ?_
      refine pa 7 23 (mb 33 255) HT_ ?_
      refine pu 8 24 (mb 33 511) HT_ ?_
      refine pu 9 25 (mb 33 1023) HT_ ?_
      refine pu 10 26 (mb 33 2047) HT_ ?_
      refine pu 11 27 (mb 33 4095) HT_ ?_
      refine pu 12 28 (mb 33 8191) HT_ ?_
      refine pu 13 29 (mb 33 16383) HT_ ?_
      refine pu 14 30 (mb 33 32767) HT_ ?_
      refine pu 15 31 (mb 33 65535) HT_ ?_
      refine pa 16 32 (mb 33 131071) HT_ ?_
      refine pa 17 33 (mb 33 262143) HT_ ?_
      refine pu 18 34 (mb 33 524287) HT_ ?_
      refine pu 19 35 (mb 33 1048575) HT_ ?_
      refine pu 20 36 (mb 33 2097151) HT_ ?_
      refine pu 21 37 (mb 33 4194303) HT_ ?_
      refine pu 22 38 (mb 33 8388607) HT_ ?_
      refine pu 23 39 (mb 33 16777215) HT_ ?_
      refine pu 24 40 (mb 33 33554431) HT_ ?_
      refine pu 25 41 (mb 33 67108863) HT_ ?_
      refine pu 26 42 (mb 33 134217727) HT_ ?_
      refine pu 27 43 (mb 33 268435455) HT_ ?_
      refine pu 28 44 (mb 33 536870911) HT_ ?_
      refine pu 29 45 (mb 33 1073741823) HT_ ?_
      refine pu 30 46 (mb 33 2147483647) HT_ ?_
      refine pu 31 47 (mb 33 4294967295) HT_ ?_
      refine pa 32 48 (mb 33 8589934591) HT_ ?_
      refine eA HT_ ?_
      try go_wp2
      go_ret
      exact ⟨rA, bA⟩
     ·
      rw [if_neg c7] at H
      have c7b0 : ((((rd_T92 l1 x5_1).f0).length : Int) == 0) = false := beq_eq_false_iff_ne.mpr c7
      have c7b1 : ((((rd_T92 l1 x5_1).f0).length : Int) != 0) = true := bne_iff_ne.mpr c7
      have c7b2 : ¬ (((rd_T92 l1 x5_1).f0) = []) := fun h_ => c7 (by rw [h_]; rfl)
      obtain ⟨t270, A9, H⟩ := bindE H
      try dsimp only at H
      by_cases c10 : t270 = true
      ·
       subst c10
       have H1 : ((spec_LeastGreen.f k1 l0 ((rd_T92 l1 x5_1).f0)).bind fun t273 => ((spec_l1In.f ((rd_T92 l1 x5_1).f1) t273 60).bind fun t274 => (if t274 = true then (spec_IsPlan.l0 k1 l0 l1 (wrap64 (x5_1 + 1))) else (some false)))) = some r := by rw [if_pos rfl] at H; exact H
       clear H
       have H := H1
       clear H1
       obtain ⟨t273, A11, H⟩ := bindE H
       try dsimp only at H
       obtain ⟨t274, A12, H⟩ := bindE H
       try dsimp only at H
       by_cases c13 : t274 = true
       ·
        subst c13
        have H1 : (spec_IsPlan.l0 k1 l0 l1 (wrap64 (x5_1 + 1))) = some r := by rw [if_pos rfl] at H; exact H
        clear H
        have H := H1
        clear H1
        have H' := Aside0.mk H
        clear H
        try go_wp2
        have HBo := HB
        replace HB := Aside0.mk (below_drew1 HB.out)
        have p268 : 0 ≤ (x5_1 : Int) := dA
        have q268 : x5_1 < (l1.length : Int) := dA
        obtain ⟨ad268, A268_0, c268_0, e268, hx268_0, hx268_1, hl268_0, hi268_0⟩ := at_T92 HR1.out x5_1 p268 q268
        have hw268_1 := hx268_1
        have hw268_0 := hx268_0
        cases e268
        replace hx268_0 := hC HB hx268_0
        replace hx268_1 := hC HB hx268_1
        have HR268_0 := Aside0.mk hi268_0
        have HC268_0 := Aside0.mk hl268_0
        clear hi268_0 hl268_0
        replace p268 := eq_true p268
        replace q268 := eq_true q268
        have p269 : 0 ≤ (x5_1 : Int) := dA
        have q269 : x5_1 < (l1.length : Int) := dA
        obtain ⟨ad269, A269_0, c269_0, e269, hx269_0, hx269_1, hl269_0, hi269_0⟩ := at_T92 HR1.out x5_1 p269 q269
        have hw269_1 := hx269_1
        have hw269_0 := hx269_0
        obtain rfl : ad268 = ad269 := (by injection e269)
        replace hx269_0 := hC HB hx269_0
        replace hx269_1 := hC HB hx269_1
        have HR269_0 := Aside0.mk hi269_0
        have HC269_0 := Aside0.mk hl269_0
        clear hi269_0 hl269_0
        replace p269 := eq_true p269
        replace q269 := eq_true q269
        have ea_ := Option.some.inj (hx268_0.symm.trans hx269_0)
        injection ea_ with ea_ en_ ec_
        subst ea_
        subst ec_
        clear en_
        have p271 : 0 ≤ (x5_1 : Int) := dA
        have q271 : x5_1 < (l1.length : Int) := dA
        obtain ⟨ad271, A271_0, c271_0, e271, hx271_0, hx271_1, hl271_0, hi271_0⟩ := at_T92 HR1.out x5_1 p271 q271
        have hw271_1 := hx271_1
        have hw271_0 := hx271_0
        obtain rfl : ad268 = ad271 := (by injection e271)
        replace hx271_0 := hC HB hx271_0
        replace hx271_1 := hC HB hx271_1
        have HR271_0 := Aside0.mk hi271_0
        have HC271_0 := Aside0.mk hl271_0
        clear hi271_0 hl271_0
        replace p271 := eq_true p271
        replace q271 := eq_true q271
        first | have ea_ := Option.some.inj (hw268_0.symm.trans hw271_0) | have ea_ := Option.some.inj (hx268_0.symm.trans hx271_0)
        injection ea_ with ea_ en_ ec_
        subst ea_
        subst ec_
        clear en_
        have p272 : 0 ≤ (x5_1 : Int) := dA
        have q272 : x5_1 < (l1.length : Int) := dA
        obtain ⟨ad272, A272_0, c272_0, e272, hx272_0, hx272_1, hl272_0, hi272_0⟩ := at_T92 HR1.out x5_1 p272 q272
        have hw272_1 := hx272_1
        have hw272_0 := hx272_0
        obtain rfl : ad268 = ad272 := (by injection e272)
        replace hx272_0 := hC HB hx272_0
        replace hx272_1 := hC HB hx272_1
        have HR272_0 := Aside0.mk hi272_0
        have HC272_0 := Aside0.mk hl272_0
        clear hi272_0 hl272_0
        replace p272 := eq_true p272
        replace q272 := eq_true q272
        first | have ea_ := Option.some.inj (hw268_0.symm.trans hw272_0) | have ea_ := Option.some.inj (hx268_0.symm.trans hx272_0)
        injection ea_ with ea_ en_ ec_
        subst ea_
        subst ec_
        clear en_
        refine start_ (n := 33) (S := fun w' => w'.cell? (ad268.add ((x5_1).toNat * 2)) = some (.slice A268_0 ((rd_T92 l1 x5_1).f0).length c268_0) ∧ w'.cell? ⟨(ad268.add ((x5_1).toNat * 2)).block, (ad268.add ((x5_1).toNat * 2)).off + 1, none⟩ = some (.int .i64 ((rd_T92 l1 x5_1).f1)) ∧ w'.cell? (ad268.add ((x5_1).toNat * 2)) = some (.slice A268_0 ((rd_T92 l1 x5_1).f0).length c268_0) ∧ w'.cell? ⟨(ad268.add ((x5_1).toNat * 2)).block, (ad268.add ((x5_1).toNat * 2)).off + 1, none⟩ = some (.int .i64 ((rd_T92 l1 x5_1).f1)) ∧ w'.cell? (ad268.add ((x5_1).toNat * 2)) = some (.slice A268_0 ((rd_T92 l1 x5_1).f0).length c268_0) ∧ w'.cell? ⟨(ad268.add ((x5_1).toNat * 2)).block, (ad268.add ((x5_1).toNat * 2)).off + 1, none⟩ = some (.int .i64 ((rd_T92 l1 x5_1).f1)) ∧ w'.cell? (ad268.add ((x5_1).toNat * 2)) = some (.slice A268_0 ((rd_T92 l1 x5_1).f0).length c268_0) ∧ w'.cell? ⟨(ad268.add ((x5_1).toNat * 2)).block, (ad268.add ((x5_1).toNat * 2)).off + 1, none⟩ = some (.int .i64 ((rd_T92 l1 x5_1).f1))) (ds := []) (mb 33 0) (by kernel_rfl) rfl rfl ⟨(hC HB hw268_0), (hC HB hw268_1), (hC HB hw269_0), (hC HB hw269_1), (hC HB hw271_0), (hC HB hw271_1), (hC HB hw272_0), (hC HB hw272_1)⟩ (fun hHeld => ?_); refine with_tabW spec_IsPlan.tab6 spec_IsPlan.bits6 (fun HT_ HW_ => ?_)
        generalize wr.drew = w14 at HB HR268_0 HR269_0 HR271_0 HR272_0 hx268_0 hx268_1 hx269_0 hx269_1 hx271_0 hx271_1 hx272_0 hx272_1 hHeld ⊢
        refine pa 0 16 (mb 33 1) HT_ ?_
        refine pa 1 17 (mb 33 3) HT_ ?_
        refine pa 2 18 (mb 33 7) HT_ ?_
        refine pa 3 19 (mb 33 15) HT_ ?_
        refine ta8 4 20 (mb 33 31) HT_ HW_ hHeld ?_
        refine pa 5 21 (mb 33 63) HT_ ?_
        refine pa 6 22 (mb 33 127) HT_ ?_
        refine pa 7 23 (mb 33 255) HT_ ?_
        refine pa 8 24 (mb 33 511) HT_ ?_
        refine pa 9 25 (mb 33 1023) HT_ ?_
        refine pa 10 26 (mb 33 2047) HT_ ?_
        refine pa 11 27 (mb 33 4095) HT_ ?_
        refine pa 12 28 (mb 33 8191) HT_ ?_
        refine ta8 13 29 (mb 33 16383) HT_ HW_ hHeld ?_
        refine oa 14 30 (mb 33 32767) HT_ (fun K hK => ?_)
        refine gA Try.func82 #[.slice A0 l0.length c0, .slice A268_0 ((rd_T92 l1 x5_1).f0).length c268_0] ?_
        with_reducible refine (spec_IsTogether.calls k1 _ _ l0 _ _ ((rd_T92 l1 x5_1).f0) true _ ?side1 ?side2 ?side3 ?side4 A9.out).mono ?_
        (case side1 => exact cB HR0)
        (case side2 => exact HC0.out)
        (case side3 => exact cB HR269_0)
        (case side4 => exact HC269_0.out)
        rintro e w15 ⟨rfl, hb⟩
        refine ⟨_, rfl, ?_⟩
        replace HB := Aside0.mk (below_step bA hb)
        (try clear hb)
        (try clear hb2)
        (try clear hk)
        (try clear hi)
        refine hK.out _ _ ⟨(hC HB hw268_0), (hC HB hw268_1), (hC HB hw269_0), (hC HB hw269_1), (hC HB hw271_0), (hC HB hw271_1), (hC HB hw272_0), (hC HB hw272_1)⟩ (fun hHeld => ?_)
        clear hK K
        refine nB ?_
        refine pa 15 31 (mb 33 65535) HT_ ?_
        refine pa 16 32 (mb 33 131071) HT_ ?_
        refine pa 17 33 (mb 33 262143) HT_ ?_
        refine pa 18 34 (mb 33 524287) HT_ ?_
        refine pa 19 35 (mb 33 1048575) HT_ ?_
        refine pa 20 36 (mb 33 2097151) HT_ ?_
        refine pa 21 37 (mb 33 4194303) HT_ ?_
        refine pa 23 39 (mb 33 12582911) HT_ ?_
        refine pa 24 40 (mb 33 29360127) HT_ ?_
        refine pa 25 41 (mb 33 62914559) HT_ ?_
        refine pa 26 42 (mb 33 130023423) HT_ ?_
        refine pa 27 43 (mb 33 264241151) HT_ ?_
        refine ta8 22 38 (mb 33 268435455) HT_ HW_ hHeld ?_
        refine ta8 28 44 (mb 33 536870911) HT_ HW_ hHeld ?_
        refine oa 29 45 (mb 33 1073741823) HT_ (fun K hK => ?_)
        refine gA Try.func74 #[.slice A0 l0.length c0, .slice A268_0 ((rd_T92 l1 x5_1).f0).length c268_0] ?_
        with_reducible refine (spec_LeastGreen.calls k1 _ _ l0 _ _ ((rd_T92 l1 x5_1).f0) t273 _ ?side1 ?side2 ?side3 ?side4 A11.out).mono ?_
        (case side1 => exact cB HR0)
        (case side2 => exact HC0.out)
        (case side3 => exact cB HR272_0)
        (case side4 => exact HC272_0.out)
        rintro e w' ⟨rfl, ⟨nd, rfl⟩⟩
        refine ⟨_, rfl, ?_⟩
        refine hK.out _ _ ⟨(hC HB hw268_0), (hC HB hw268_1), (hC HB hw269_0), (hC HB hw269_1), (hC HB hw271_0), (hC HB hw271_1), (hC HB hw272_0), (hC HB hw272_1)⟩ (fun hHeld => ?_)
        clear hK K
        refine nB ?_
        refine oa 30 46 (mb 33 2147483647) HT_ (fun K hK => ?_)
        refine gA Try.func62 #[.int .i64 ((rd_T92 l1 x5_1).f1), .int .i64 t273, .int .i64 60] ?_
        with_reducible refine (spec_l1In.calls ((rd_T92 l1 x5_1).f1) t273 60 true _ A12.out).mono ?_
        rintro e w' ⟨rfl, ⟨nd, rfl⟩⟩
        refine ⟨_, rfl, ?_⟩
        refine hK.out _ _ ⟨(hC HB hw268_0), (hC HB hw268_1), (hC HB hw269_0), (hC HB hw269_1), (hC HB hw271_0), (hC HB hw271_1), (hC HB hw272_0), (hC HB hw272_1)⟩ (fun hHeld => ?_)
        clear hK K
        refine nB ?_
        refine pa 31 47 (mb 33 4294967295) HT_ ?_
        refine pa 32 48 (mb 33 8589934591) HT_ ?_
        refine eA HT_ ?_
        try go_wp2
        go_roundg k1
        case measure => have := HK1.out; omega
        case rel => exact ⟨(wrap64 (x5_1 + 1)), rS, H', ⟨by have := HK1.out; omega⟩, ⟨bA⟩⟩
       ·
        replace c13 := Bool.eq_false_iff.mpr c13
        subst c13
        have H1 : (some false) = some r := by rw [if_neg (show ¬ (false = true) by decide)] at H; exact H
        clear H
        have H := H1
        clear H1
        obtain rfl := Option.some.inj H
        try go_wp2
        have HBo := HB
        replace HB := Aside0.mk (below_drew1 HB.out)
        have p268 : 0 ≤ (x5_1 : Int) := dA
        have q268 : x5_1 < (l1.length : Int) := dA
        obtain ⟨ad268, A268_0, c268_0, e268, hx268_0, hx268_1, hl268_0, hi268_0⟩ := at_T92 HR1.out x5_1 p268 q268
        have hw268_1 := hx268_1
        have hw268_0 := hx268_0
        cases e268
        replace hx268_0 := hC HB hx268_0
        replace hx268_1 := hC HB hx268_1
        have HR268_0 := Aside0.mk hi268_0
        have HC268_0 := Aside0.mk hl268_0
        clear hi268_0 hl268_0
        replace p268 := eq_true p268
        replace q268 := eq_true q268
        have p269 : 0 ≤ (x5_1 : Int) := dA
        have q269 : x5_1 < (l1.length : Int) := dA
        obtain ⟨ad269, A269_0, c269_0, e269, hx269_0, hx269_1, hl269_0, hi269_0⟩ := at_T92 HR1.out x5_1 p269 q269
        have hw269_1 := hx269_1
        have hw269_0 := hx269_0
        obtain rfl : ad268 = ad269 := (by injection e269)
        replace hx269_0 := hC HB hx269_0
        replace hx269_1 := hC HB hx269_1
        have HR269_0 := Aside0.mk hi269_0
        have HC269_0 := Aside0.mk hl269_0
        clear hi269_0 hl269_0
        replace p269 := eq_true p269
        replace q269 := eq_true q269
        have ea_ := Option.some.inj (hx268_0.symm.trans hx269_0)
        injection ea_ with ea_ en_ ec_
        subst ea_
        subst ec_
        clear en_
        have p271 : 0 ≤ (x5_1 : Int) := dA
        have q271 : x5_1 < (l1.length : Int) := dA
        obtain ⟨ad271, A271_0, c271_0, e271, hx271_0, hx271_1, hl271_0, hi271_0⟩ := at_T92 HR1.out x5_1 p271 q271
        have hw271_1 := hx271_1
        have hw271_0 := hx271_0
        obtain rfl : ad268 = ad271 := (by injection e271)
        replace hx271_0 := hC HB hx271_0
        replace hx271_1 := hC HB hx271_1
        have HR271_0 := Aside0.mk hi271_0
        have HC271_0 := Aside0.mk hl271_0
        clear hi271_0 hl271_0
        replace p271 := eq_true p271
        replace q271 := eq_true q271
        first | have ea_ := Option.some.inj (hw268_0.symm.trans hw271_0) | have ea_ := Option.some.inj (hx268_0.symm.trans hx271_0)
        injection ea_ with ea_ en_ ec_
        subst ea_
        subst ec_
        clear en_
        have p272 : 0 ≤ (x5_1 : Int) := dA
        have q272 : x5_1 < (l1.length : Int) := dA
        obtain ⟨ad272, A272_0, c272_0, e272, hx272_0, hx272_1, hl272_0, hi272_0⟩ := at_T92 HR1.out x5_1 p272 q272
        have hw272_1 := hx272_1
        have hw272_0 := hx272_0
        obtain rfl : ad268 = ad272 := (by injection e272)
        replace hx272_0 := hC HB hx272_0
        replace hx272_1 := hC HB hx272_1
        have HR272_0 := Aside0.mk hi272_0
        have HC272_0 := Aside0.mk hl272_0
        clear hi272_0 hl272_0
        replace p272 := eq_true p272
        replace q272 := eq_true q272
        first | have ea_ := Option.some.inj (hw268_0.symm.trans hw272_0) | have ea_ := Option.some.inj (hx268_0.symm.trans hx272_0)
        injection ea_ with ea_ en_ ec_
        subst ea_
        subst ec_
        clear en_
        refine start_ (n := 33) (S := fun w' => w'.cell? (ad268.add ((x5_1).toNat * 2)) = some (.slice A268_0 ((rd_T92 l1 x5_1).f0).length c268_0) ∧ w'.cell? ⟨(ad268.add ((x5_1).toNat * 2)).block, (ad268.add ((x5_1).toNat * 2)).off + 1, none⟩ = some (.int .i64 ((rd_T92 l1 x5_1).f1)) ∧ w'.cell? (ad268.add ((x5_1).toNat * 2)) = some (.slice A268_0 ((rd_T92 l1 x5_1).f0).length c268_0) ∧ w'.cell? ⟨(ad268.add ((x5_1).toNat * 2)).block, (ad268.add ((x5_1).toNat * 2)).off + 1, none⟩ = some (.int .i64 ((rd_T92 l1 x5_1).f1)) ∧ w'.cell? (ad268.add ((x5_1).toNat * 2)) = some (.slice A268_0 ((rd_T92 l1 x5_1).f0).length c268_0) ∧ w'.cell? ⟨(ad268.add ((x5_1).toNat * 2)).block, (ad268.add ((x5_1).toNat * 2)).off + 1, none⟩ = some (.int .i64 ((rd_T92 l1 x5_1).f1)) ∧ w'.cell? (ad268.add ((x5_1).toNat * 2)) = some (.slice A268_0 ((rd_T92 l1 x5_1).f0).length c268_0) ∧ w'.cell? ⟨(ad268.add ((x5_1).toNat * 2)).block, (ad268.add ((x5_1).toNat * 2)).off + 1, none⟩ = some (.int .i64 ((rd_T92 l1 x5_1).f1))) (ds := []) (mb 33 0) (by kernel_rfl) rfl rfl ⟨(hC HB hw268_0), (hC HB hw268_1), (hC HB hw269_0), (hC HB hw269_1), (hC HB hw271_0), (hC HB hw271_1), (hC HB hw272_0), (hC HB hw272_1)⟩ (fun hHeld => ?_); refine with_tabW spec_IsPlan.tab6 spec_IsPlan.bits6 (fun HT_ HW_ => ?_)
        generalize wr.drew = w16 at HB HR268_0 HR269_0 HR271_0 HR272_0 hx268_0 hx268_1 hx269_0 hx269_1 hx271_0 hx271_1 hx272_0 hx272_1 hHeld ⊢
        refine pa 0 16 (mb 33 1) HT_ ?_
        refine pa 1 17 (mb 33 3) HT_ ?_
        refine pa 2 18 (mb 33 7) HT_ ?_
        refine pa 3 19 (mb 33 15) HT_ ?_
        refine ta8 4 20 (mb 33 31) HT_ HW_ hHeld ?_
        refine pa 5 21 (mb 33 63) HT_ ?_
        refine pa 6 22 (mb 33 127) HT_ ?_
        refine pa 7 23 (mb 33 255) HT_ ?_
        refine pa 8 24 (mb 33 511) HT_ ?_
        refine pa 9 25 (mb 33 1023) HT_ ?_
        refine pa 10 26 (mb 33 2047) HT_ ?_
        refine pa 11 27 (mb 33 4095) HT_ ?_
        refine pa 12 28 (mb 33 8191) HT_ ?_
        refine ta8 13 29 (mb 33 16383) HT_ HW_ hHeld ?_
        refine oa 14 30 (mb 33 32767) HT_ (fun K hK => ?_)
        refine gA Try.func82 #[.slice A0 l0.length c0, .slice A268_0 ((rd_T92 l1 x5_1).f0).length c268_0] ?_
        with_reducible refine (spec_IsTogether.calls k1 _ _ l0 _ _ ((rd_T92 l1 x5_1).f0) true _ ?side1 ?side2 ?side3 ?side4 A9.out).mono ?_
        (case side1 => exact cB HR0)
        (case side2 => exact HC0.out)
        (case side3 => exact cB HR269_0)
        (case side4 => exact HC269_0.out)
        rintro e w17 ⟨rfl, hb⟩
        refine ⟨_, rfl, ?_⟩
        replace HB := Aside0.mk (below_step bA hb)
        (try clear hb)
        (try clear hb2)
        (try clear hk)
        (try clear hi)
        refine hK.out _ _ ⟨(hC HB hw268_0), (hC HB hw268_1), (hC HB hw269_0), (hC HB hw269_1), (hC HB hw271_0), (hC HB hw271_1), (hC HB hw272_0), (hC HB hw272_1)⟩ (fun hHeld => ?_)
        clear hK K
        refine nB ?_
        refine pa 15 31 (mb 33 65535) HT_ ?_
        refine pa 16 32 (mb 33 131071) HT_ ?_
        refine pa 17 33 (mb 33 262143) HT_ ?_
        refine pa 18 34 (mb 33 524287) HT_ ?_
        refine pa 19 35 (mb 33 1048575) HT_ ?_
        refine pa 20 36 (mb 33 2097151) HT_ ?_
        refine pa 21 37 (mb 33 4194303) HT_ ?_
        refine pa 23 39 (mb 33 12582911) HT_ ?_
        refine pa 24 40 (mb 33 29360127) HT_ ?_
        refine pa 25 41 (mb 33 62914559) HT_ ?_
        refine pa 26 42 (mb 33 130023423) HT_ ?_
        refine pa 27 43 (mb 33 264241151) HT_ ?_
        refine ta8 22 38 (mb 33 268435455) HT_ HW_ hHeld ?_
        refine ta8 28 44 (mb 33 536870911) HT_ HW_ hHeld ?_
        refine oa 29 45 (mb 33 1073741823) HT_ (fun K hK => ?_)
        refine gA Try.func74 #[.slice A0 l0.length c0, .slice A268_0 ((rd_T92 l1 x5_1).f0).length c268_0] ?_
        with_reducible refine (spec_LeastGreen.calls k1 _ _ l0 _ _ ((rd_T92 l1 x5_1).f0) t273 _ ?side1 ?side2 ?side3 ?side4 A11.out).mono ?_
        (case side1 => exact cB HR0)
        (case side2 => exact HC0.out)
        (case side3 => exact cB HR272_0)
        (case side4 => exact HC272_0.out)
        rintro e w' ⟨rfl, ⟨nd, rfl⟩⟩
        refine ⟨_, rfl, ?_⟩
        refine hK.out _ _ ⟨(hC HB hw268_0), (hC HB hw268_1), (hC HB hw269_0), (hC HB hw269_1), (hC HB hw271_0), (hC HB hw271_1), (hC HB hw272_0), (hC HB hw272_1)⟩ (fun hHeld => ?_)
        clear hK K
        refine nB ?_
        refine oa 30 46 (mb 33 2147483647) HT_ (fun K hK => ?_)
        refine gA Try.func62 #[.int .i64 ((rd_T92 l1 x5_1).f1), .int .i64 t273, .int .i64 60] ?_
        with_reducible refine (spec_l1In.calls ((rd_T92 l1 x5_1).f1) t273 60 false _ A12.out).mono ?_
        rintro e w' ⟨rfl, ⟨nd, rfl⟩⟩
        refine ⟨_, rfl, ?_⟩
        refine hK.out _ _ ⟨(hC HB hw268_0), (hC HB hw268_1), (hC HB hw269_0), (hC HB hw269_1), (hC HB hw271_0), (hC HB hw271_1), (hC HB hw272_0), (hC HB hw272_1)⟩ (fun hHeld => ?_)
        clear hK K
        refine nB ?_
        refine pa 31 47 (mb 33 4294967295) HT_ ?_
        refine pa 32 48 (mb 33 8589934591) HT_ ?_
        refine eA HT_ ?_
        try go_wp2
        go_ret
        exact ⟨rA, bA⟩
      ·
       replace c10 := Bool.eq_false_iff.mpr c10
       subst c10
       have H1 : (some false) = some r := by rw [if_neg (show ¬ (false = true) by decide)] at H; exact H
       clear H
       have H := H1
       clear H1
       obtain rfl := Option.some.inj H
       try go_wp2
       have HBo := HB
       replace HB := Aside0.mk (below_drew1 HB.out)
       have p268 : 0 ≤ (x5_1 : Int) := dA
       have q268 : x5_1 < (l1.length : Int) := dA
       obtain ⟨ad268, A268_0, c268_0, e268, hx268_0, hx268_1, hl268_0, hi268_0⟩ := at_T92 HR1.out x5_1 p268 q268
       have hw268_1 := hx268_1
       have hw268_0 := hx268_0
       cases e268
       replace hx268_0 := hC HB hx268_0
       replace hx268_1 := hC HB hx268_1
       have HR268_0 := Aside0.mk hi268_0
       have HC268_0 := Aside0.mk hl268_0
       clear hi268_0 hl268_0
       replace p268 := eq_true p268
       replace q268 := eq_true q268
       have p269 : 0 ≤ (x5_1 : Int) := dA
       have q269 : x5_1 < (l1.length : Int) := dA
       obtain ⟨ad269, A269_0, c269_0, e269, hx269_0, hx269_1, hl269_0, hi269_0⟩ := at_T92 HR1.out x5_1 p269 q269
       have hw269_1 := hx269_1
       have hw269_0 := hx269_0
       obtain rfl : ad268 = ad269 := (by injection e269)
       replace hx269_0 := hC HB hx269_0
       replace hx269_1 := hC HB hx269_1
       have HR269_0 := Aside0.mk hi269_0
       have HC269_0 := Aside0.mk hl269_0
       clear hi269_0 hl269_0
       replace p269 := eq_true p269
       replace q269 := eq_true q269
       have ea_ := Option.some.inj (hx268_0.symm.trans hx269_0)
       injection ea_ with ea_ en_ ec_
       subst ea_
       subst ec_
       clear en_
       refine start_ (n := 33) (S := fun w' => w'.cell? (ad268.add ((x5_1).toNat * 2)) = some (.slice A268_0 ((rd_T92 l1 x5_1).f0).length c268_0) ∧ w'.cell? ⟨(ad268.add ((x5_1).toNat * 2)).block, (ad268.add ((x5_1).toNat * 2)).off + 1, none⟩ = some (.int .i64 ((rd_T92 l1 x5_1).f1)) ∧ w'.cell? (ad268.add ((x5_1).toNat * 2)) = some (.slice A268_0 ((rd_T92 l1 x5_1).f0).length c268_0) ∧ w'.cell? ⟨(ad268.add ((x5_1).toNat * 2)).block, (ad268.add ((x5_1).toNat * 2)).off + 1, none⟩ = some (.int .i64 ((rd_T92 l1 x5_1).f1))) (ds := []) (mb 33 0) (by kernel_rfl) rfl rfl ⟨(hC HB hw268_0), (hC HB hw268_1), (hC HB hw269_0), (hC HB hw269_1)⟩ (fun hHeld => ?_); refine with_tabW spec_IsPlan.tab6 spec_IsPlan.bits6 (fun HT_ HW_ => ?_)
       generalize wr.drew = w18 at HB HR268_0 HR269_0 hx268_0 hx268_1 hx269_0 hx269_1 hHeld ⊢
       refine pa 0 16 (mb 33 1) HT_ ?_
       refine pa 1 17 (mb 33 3) HT_ ?_
       refine pa 2 18 (mb 33 7) HT_ ?_
       refine pa 3 19 (mb 33 15) HT_ ?_
       refine ta4 4 20 (mb 33 31) HT_ HW_ hHeld ?_
       refine pa 5 21 (mb 33 63) HT_ ?_
       refine pa 6 22 (mb 33 127) HT_ ?_
       refine pa 7 23 (mb 33 255) HT_ ?_
       refine pa 8 24 (mb 33 511) HT_ ?_
       refine pa 9 25 (mb 33 1023) HT_ ?_
       refine pa 10 26 (mb 33 2047) HT_ ?_
       refine pa 11 27 (mb 33 4095) HT_ ?_
       refine pa 12 28 (mb 33 8191) HT_ ?_
       refine ta4 13 29 (mb 33 16383) HT_ HW_ hHeld ?_
       refine oa 14 30 (mb 33 32767) HT_ (fun K hK => ?_)
       refine gA Try.func82 #[.slice A0 l0.length c0, .slice A268_0 ((rd_T92 l1 x5_1).f0).length c268_0] ?_
       with_reducible refine (spec_IsTogether.calls k1 _ _ l0 _ _ ((rd_T92 l1 x5_1).f0) false _ ?side1 ?side2 ?side3 ?side4 A9.out).mono ?_
       (case side1 => exact cB HR0)
       (case side2 => exact HC0.out)
       (case side3 => exact cB HR269_0)
       (case side4 => exact HC269_0.out)
       rintro e w19 ⟨rfl, hb⟩
       refine ⟨_, rfl, ?_⟩
       replace HB := Aside0.mk (below_step bA hb)
       (try clear hb)
       (try clear hb2)
       (try clear hk)
       (try clear hi)
       refine hK.out _ _ ⟨(hC HB hw268_0), (hC HB hw268_1), (hC HB hw269_0), (hC HB hw269_1)⟩ (fun hHeld => ?_)
       clear hK K
       refine nB ?_
       refine pa 15 31 (mb 33 65535) HT_ ?_
       refine pa 16 32 (mb 33 131071) HT_ ?_
       refine pa 17 33 (mb 33 262143) HT_ ?_
       refine pu 18 34 (mb 33 524287) HT_ ?_
       refine pu 19 35 (mb 33 1048575) HT_ ?_
       refine pu 20 36 (mb 33 2097151) HT_ ?_
       refine pu 21 37 (mb 33 4194303) HT_ ?_
       refine pu 22 38 (mb 33 8388607) HT_ ?_
       refine pu 23 39 (mb 33 16777215) HT_ ?_
       refine pu 24 40 (mb 33 33554431) HT_ ?_
       refine pu 25 41 (mb 33 67108863) HT_ ?_
       refine pu 26 42 (mb 33 134217727) HT_ ?_
       refine pu 27 43 (mb 33 268435455) HT_ ?_
       refine pu 28 44 (mb 33 536870911) HT_ ?_
       refine pu 29 45 (mb 33 1073741823) HT_ ?_
       refine pu 30 46 (mb 33 2147483647) HT_ ?_
       refine pu 31 47 (mb 33 4294967295) HT_ ?_
       refine pa 32 48 (mb 33 8589934591) HT_ ?_
       refine eA HT_ ?_
       try go_wp2
       go_ret
       exact ⟨rA, bA⟩
    ·
     rw [if_neg c5] at H
     have c5b0 := decide_eq_false c5
     clear c5
     obtain ⟨t264, A20, H⟩ := bindE H
     try dsimp only at H
     obtain ⟨t267, A21, H⟩ := bindE H
     try dsimp only at H
     obtain rfl := Option.some.inj H
     go_wp2_with (first | ((with_reducible refine gate_callee (f := 125) rfl ?_); refine gL (some 51) Try.func125 #[.slice A1 l1.length c1] ?_; (with_reducible refine (spec_l8Stages.calls k1 (fun k_ => k_ < w.heap.size) _ _ l1 t264 _ ?side1 A20.out).mono ?_); (case side1 => exact Kd.V_mk HC1.out (Kd.F_below (Kd.C_F k92_heap HR1.out) bA)); rintro e w22 ⟨v265, rfl, ho0, hb⟩; refine ⟨_, rfl, ?_⟩; have HO266 := Aside0.mk (Kd.N_lower (Kd.N_mono (ok' := fun k_ => True) ho0 (fun k_ hk_ => trivial)) (below_size bA)); replace HB := Aside0.mk (below_step bA hb); (try clear hb); (try clear ho0); obtain ⟨Ao23, co23, eo23⟩ := Kd.N_slice HO266.out; subst eo23) | ((with_reducible refine gate_callee (f := 124) rfl ?_); refine gL (some 52) Try.func124 #[.slice A0 l0.length c0, .slice Ao23 t264.length co23] ?_; (with_reducible refine (spec_Covers.calls k1 _ _ l0 _ _ t264 t267 _ ?side1 ?side2 ?side3 ?side4 A21.out).mono ?_); (case side1 => exact cB HR0); (case side2 => exact HC0.out); (case side3 => repeat (first | exact (Kd.N_reads' HO266.out).2.2 | (with_reducible refine Kd.C_alloc ?_ _) | (with_reducible refine Kd.C_drewN ?_ _) | (with_reducible refine Kd.C_drew ?_))); (case side4 => exact (Kd.N_reads' HO266.out).2.1); rintro e w24 ⟨rfl, hb⟩; refine ⟨_, rfl, ?_⟩; have n0_ := Aside0.mk (Kd.N_below (by (with_reducible repeat (first | apply Kd.N_alloc | apply Kd.N_drewN | apply Kd.N_drew)); exact HO266.out) hb); have n1_ := Aside0.mk (below_step bA hb); clear HO266; clear HB; have HO266 := n0_; have HB := n1_; clear n0_ n1_; (try clear hb)))
     go_ret
     exact ⟨rA, bA⟩
 ·
  replace c4 := Bool.eq_false_iff.mpr c4
  subst c4
  have H1 : (some false) = some r := by rw [if_neg (show ¬ (false = true) by decide)] at H; exact H
  clear H
  have H := H1
  clear H1
  obtain rfl := Option.some.inj H
  go_enter Try.func75, Try.ntmps75
  go_wp2_with (first | ((with_reducible refine gate_callee (f := 62) rfl ?_); refine gL (some 8) Try.func62 #[.int .i64 (l1.length : Int), .int .i64 1, .int .i64 6] ?_; (with_reducible refine (spec_l1In.calls (l1.length : Int) 1 6 false _ A3.out).mono ?_); rintro e w' ⟨rfl, ⟨nd, rfl⟩⟩; refine ⟨_, rfl, ?_⟩))
  go_ret
  exact ⟨rA, bA⟩

/-! ### spec_PlanFor: function 35 -/
def spec_PlanFor.l0 : Nat → List (S89) → List (S92) → List (List Int) → Int → Option ((List (S92)))
 | 0, _, _, _, _ => none
 | k + 1, x0, x3, x4, x5 => if x5 < (x4.length : Int) then (if 0 ≤ x5 then ((spec_LeastGreen.f k x0 (rd_L3 x4 x5)).bind fun t283 => (if x3.length < 4398046511104 then (spec_PlanFor.l0 k x0 (x3 ++ [(⟨rd_L3 x4 x5, t283⟩ : S92)]) x4 (wrap64 (x5 + 1))) else (none))) else (none)) else ((spec_IsPlan.f k x0 x3).bind fun t287 => (if t287 = true then (some x3) else (some (([] : List (S92))))))
def spec_PlanFor.f (k : Nat) (l0 : List (S89)) : Option ((List (S92))) := (spec_CoverOf.f k l0).bind fun t278 => (spec_PlanFor.l0 k l0 (([] : List (S92))) t278 0)
theorem spec_PlanFor.mono_l : ∀ k, (∀ y0 y1 y2 y3, LeO (spec_PlanFor.l0 k y0 y1 y2 y3) (spec_PlanFor.l0 (k + 1) y0 y1 y2 y3))
 | 0 => fun _ _ _ _ r h => by simp [spec_PlanFor.l0] at h
 | k + 1 => by
  have ih0 := spec_PlanFor.mono_l k
  ·
   intro y0 y1 y2 y3
   unfold spec_PlanFor.l0
   repeat' first | (with_reducible first | exact LeO.refl _ | exact LeO.none _ | refine LeO.ite ?_ ?_ | refine LeO.bind ?_ (fun _ => ?_) | exact ih0 _ _ _ _ | exact spec_CoverOf.mono _ _ | exact spec_IsPlan.mono _ _ _ | exact spec_LeastGreen.mono _ _ _)
theorem spec_PlanFor.mono : ∀ a0 k, LeO (spec_PlanFor.f k a0) (spec_PlanFor.f (k + 1) a0) := by
 intro a0 k
 have ih0 := spec_PlanFor.mono_l k
 unfold spec_PlanFor.f
 repeat' first | (with_reducible first | exact LeO.refl _ | exact LeO.none _ | refine LeO.ite ?_ ?_ | refine LeO.bind ?_ (fun _ => ?_) | exact ih0 _ _ _ _ | exact spec_CoverOf.mono _ _ | exact spec_IsPlan.mono _ _ _ | exact spec_LeastGreen.mono _ _ _)
def spec_PlanFor.T6 : Bool × List (List Nat × List Nat) := (true, [([], []), ([], []), ([], []), ([1, 2], [1, 2]), ([3], [3]), ([], []), ([], []), ([], []), ([6, 7], [6, 7]), ([8], [8]), ([5, 9], [5, 9]), ([4, 10], [4, 10]), ([11], [11]), ([0, 12, 10], [0, 12]), ([13, 13, 0, 1, 2, 3, 4, 5, 6, 7, 8, 9, 10, 11, 12, 13], [0, 13])])
def spec_PlanFor.B6 : List Nat := [0, 0, 0, 6, 14, 0, 0, 0, 192, 448, 992, 2046, 4094, 8191, 16383]
theorem spec_PlanFor.tab6 : rtab .any (opsOf Try.f35 6) = spec_PlanFor.T6 := by kernel_rfl
theorem spec_PlanFor.bits6 : waitsOk spec_PlanFor.T6.2 spec_PlanFor.B6 = true := by kernel_rfl
theorem spec_PlanFor.retag {α β : Type} {d : Kd α} {d' : Kd β} {e base : Nat} {w : World} {ok : Nat → Prop} {v : Value} (hs : d'.sz = d.sz) (h : d.R e w base ok v ([] : List α)) : d'.R e w base ok v ([] : List β) := by
  obtain ⟨h0, inner, ho, hr⟩ := h
  have hi : inner = [] := List.eq_nil_of_length_eq_zero (by rw [hr.1]; simp)
  subst hi
  exact ⟨h0, [], by rw [hs]; exact ho, ⟨by simp, fun j p hj => by simp at hj⟩⟩
theorem spec_PlanFor.toS {α : Type} {d : Kd α} {f : Nat → Nat} {e base : Nat} {w : World} {ok : Nat → Prop} {v : Value} {xs : List α} (h : (Kd.tag f d).R e w base ok v xs.zipIdx) : Kd.S d e w base ok v xs := ⟨f, h⟩
theorem spec_PlanFor.nilS {α : Type} {d : Kd α} {e base : Nat} {w : World} {ok : Nat → Prop} {v : Value} (h : d.R e w base ok v ([] : List α)) : Kd.S d e w base ok v ([] : List α) := ⟨fun _ => 0, (spec_PlanFor.retag (d := d) (d' := Kd.tag (fun _ => 0) d) rfl h : (Kd.tag (fun _ => 0) d).R e w base ok v ([] : List (α × Nat)))⟩
theorem spec_PlanFor.el {f : Nat → Nat} {e base n c : Nat} {w : World} {ok : Nat → Prop} {ad : Addr} {xs : List (List Int)} (h : (Kd.tag f (Kd.slice 3 (Kd.int .i64))).R e w base ok (.slice (some ad) n c) xs.zipIdx) (j : Nat) (hj : j < xs.length) :
    ∃ v, w.cell? (ad.add j) = some v ∧ (Kd.int .i64).R 3 w base (fun k => (ok k ∧ some k ≠ (Value.slice (some ad) n c).ownBlock) ∧ f k = j) v (xs.getD j ([] : List Int)) := by
  have h1 := Kd.R_reads' (Kd.S_R (spec_PlanFor.toS h))
  obtain ⟨h0, inner, ho, hr⟩ := h
  have h2 := hr.2 j (xs[j], j) (Kd.zip_at (List.getElem?_eq_getElem hj))
  obtain ⟨v, hv, hR⟩ := h2
  have e1 : xs.getD j ([] : List Int) = xs[j] := by simp [List.getD_eq_getElem?_getD, List.getElem?_eq_getElem hj]
  have hi : inner[j]? = some v := by
    have h3 : ((inner.drop (j * 1)).take 1)[0]? = some v := by
      rw [show (inner.drop (j * 1)).take 1 = [v] from hv]
      rfl
    rw [List.getElem?_take, if_pos (by decide), List.getElem?_drop] at h3
    simpa using h3
  refine ⟨v, ?_, by rw [e1]; exact hR⟩
  rcases ho.2 with ⟨hq, _⟩ | ⟨g, c', cur, hq, _, hh, _, _, _, ht⟩
  · cases hq
  · injection hq with ha _ _
    injection ha with ha
    subst ha
    rw [add_at, cell_of_row w g _ cur e (0, 0) hh, ← Array.getElem?_toList]
    have ht' : cur.toList.take (xs.zipIdx.length * 1) = inner := ht
    rw [← ht', List.getElem?_take] at hi
    split at hi
    · simpa using hi
    · cases hi
set_option maxHeartbeats 8000000 in
set_option maxRecDepth 100000 in
theorem spec_PlanFor.calls (k : Nat) (A0 : Option Addr) (c0 : Nat) (l0 : List (S89)) (r : List (S92)) (w : World) (hr0 : Kd.C k89 w A0 l0.length l0) (hc0 : l0.length ≤ c0) (h : spec_PlanFor.f k l0 = some r) :
  Calls Try.prog 35 #[.slice A0 l0.length c0] w fun e w' => ∃ v0_ : Value, e = .returned (v0_) ∧ Kd.S k92 92 w' w.heap.size (fun _ => True) v0_ r ∧ Below w.heap.size w w' := by
 have hu92 := Try.underlying92
 have HR0 := Aside0.mk hr0
 have HC0 := Aside0.mk hc0
 clear hr0 hc0
 have HB := Aside0.mk (Below.refl w.heap.size w)
 have H : ((spec_CoverOf.f k l0).bind fun t278 => (spec_PlanFor.l0 k l0 (([] : List (S92))) t278 0)) = some r := h
 clear h
 obtain ⟨y275, hy275⟩ : ∃ y_ : List (S92), y_ = (([] : List (S92))) := ⟨_, rfl⟩
 replace H : ((spec_CoverOf.f k l0).bind fun t278 => (spec_PlanFor.l0 k l0 y275 t278 0)) = some r := rH H hy275
 have Ny275 := Aside0.mk hy275
 clear hy275
 obtain ⟨t278, A2, H⟩ := bindE H
 try dsimp only at H
 have H' := Aside0.mk H
 clear H
 go_enter Try.func35, Try.ntmps35
 go_wp2_with (first | ((with_reducible refine gate_dst (N := 6) rfl ?_); refine Kd.R_lit k92 _ 92 ?hg (N := 6) ?hd (xs := ([] : List (S92))) (inner := []) (ok := fun _ => True) (okp := fun _ => True) ?hr ?hp (fun _ hk => hk) trivial (Below.refl _ _) (Nat.le_refl _) (by simp) ?_; (case hd => rfl); (case hg => rfl); (case hr => first | (go_simp; done) | (go_simp; rfl)); (case hp => exact (Reps.none _ _)); intro v276 w3 ho4 hb hg_ hnew_; clear hg_ hnew_; have HO277 := Aside0.mk (Kd.R_lower ho4 (below_size bA)); replace HB := Aside0.mk (below_step bA hb); clear hb ho4) | ((with_reducible refine gate_callee (f := 73) rfl ?_); refine gL (some 8) Try.func73 #[.slice A0 l0.length c0] ?_; (with_reducible refine (spec_CoverOf.calls k _ _ l0 t278 _ ?side1 ?side2 A2.out).mono ?_); (case side1 => exact cB HR0); (case side2 => exact HC0.out); rintro e w5 ⟨v279, rfl, ⟨f_, ho0⟩, hb⟩; refine ⟨_, rfl, ?_⟩; have n0_ := Aside0.mk (spec_PlanFor.retag (d := k92) (d' := Kd.tag f_ k92) rfl (Kd.R_below (rK HO277) hb)); have n1_ := Aside0.mk (Kd.R_lower (Kd.R_mono (ok' := fun k_ => True ∧ some k_ ≠ (v276 : Value).ownBlock) (Kd.R_bound ho0) (fun k_ hk_ => ⟨trivial, fun e_ => Nat.not_lt.2 hk_.2.1 (Kd.R_lt (rK HO277) k_ e_.symm)⟩)) (below_size bA)); have n2_ := Aside0.mk (below_step bA hb); clear HO277; clear HB; have HO277 := n0_; have HO280 := n1_; have HB := n2_; clear n0_ n1_ n2_; (try clear hb); (try clear ho0)))
 go_loopg [3, 5] k (fun kq v3 v5 w' => ∃ (x3_1 : List (S92)) (x5_1 : Int), v5 = .int .i64 x5_1 ∧ Aside0 (spec_PlanFor.l0 kq l0 x3_1 t278 x5_1 = some r) ∧ Aside0 (kq ≤ k) ∧ Aside0 ((Kd.tag f_ k92).R 92 w' w.heap.size (fun _ => True) v3 x3_1.zipIdx) ∧ Aside0 ((Kd.tag f_ (Kd.slice 3 (Kd.int .i64))).R 41 w' w.heap.size (fun k_ => True ∧ some k_ ≠ (v3 : Value).ownBlock) v279 t278.zipIdx) ∧ Aside0 ((x3_1.length : Int) = x5_1) ∧ Aside0 (Below w.heap.size w w'))
 case atStart => exact ⟨(y275), (0), rS, H', ⟨Nat.le_refl _⟩, ⟨by rw [Ny275.out]; (with_reducible repeat (first | apply Kd.R_alloc | apply Kd.R_drewN | apply Kd.R_drew)); exact HO277.out⟩, ⟨by (with_reducible repeat (first | apply Kd.R_alloc | apply Kd.R_drewN | apply Kd.R_drew)); exact HO280.out⟩, ⟨by rw [Ny275.out]; rfl⟩, ⟨bA⟩⟩
 case round =>
  clear H'
  try clear p2
  try clear c3
  obtain ⟨x3_1, x5_1, rfl, HA, HK1, HO_3, HO_4, HN, HB⟩ := hrel
  cases gk with
  | zero => exact absurd HA.out (by simp [spec_PlanFor.l0])
  | succ k1 =>
   have H := HA.out
   clear HA
   simp only [spec_PlanFor.l0] at H
   by_cases c6 : x5_1 < (t278.length : Int)
   ·
    rw [if_pos c6] at H
    have c6b0 := decide_eq_true c6
    clear c6
    have c7 : 0 ≤ x5_1 := ifN H
    replace H := ifT H
    have c7b0 := decide_eq_true c7
    clear c7
    obtain ⟨t283, A8, H⟩ := bindE H
    try dsimp only at H
    have c9 : x3_1.length < 4398046511104 := ifN H
    replace H := ifT H
    have LMc9 := Aside0.mk c9
    clear c9
    obtain ⟨y284, hy284⟩ : ∃ y_ : List (S92), y_ = (x3_1 ++ [(⟨rd_L3 t278 x5_1, t283⟩ : S92)]) := ⟨_, rfl⟩
    replace H : (spec_PlanFor.l0 k1 l0 y284 t278 (wrap64 (x5_1 + 1))) = some r := rH H hy284
    have Ny284 := Aside0.mk hy284
    clear hy284
    have H' := Aside0.mk H
    clear H
    obtain ⟨Ao10, co10, eo10⟩ := Kd.R_slice HO_4.out
    rw [List.length_zipIdx] at eo10
    subst eo10
    try go_wp2
    replace HO_3 := Aside0.mk (Kd.R_drew HO_3.out)
    replace HO_4 := Aside0.mk (Kd.R_drew HO_4.out)
    have HBo := HB
    replace HB := Aside0.mk (below_drew1 HB.out)
    have p281 : 0 ≤ (x5_1 : Int) := dA
    have q281 : x5_1 < (t278.length : Int) := dA
    obtain ⟨ad281, A281_0, c281_0, e281, hx281_0, hl281_0, hi281_0⟩ := at_L3 (Kd.R_reads' (Kd.S_R (spec_PlanFor.toS HO_4.out))).2.2 x5_1 p281 q281
    cases e281
    obtain ⟨ve281, hve281, hRe281⟩ := spec_PlanFor.el HO_4.out x5_1.toNat (by omega)
    obtain rfl := Option.some.inj (hve281.symm.trans hx281_0)
    have HL281_0 := Aside0.mk (hRe281)
    have HR281_0 := Aside0.mk hi281_0
    have HC281_0 := Aside0.mk hl281_0
    clear hi281_0 hl281_0
    replace p281 := eq_true p281
    replace q281 := eq_true q281
    have p282 : 0 ≤ (x5_1 : Int) := dA
    have q282 : x5_1 < (t278.length : Int) := dA
    obtain ⟨ad282, A282_0, c282_0, e282, hx282_0, hl282_0, hi282_0⟩ := at_L3 (Kd.R_reads' (Kd.S_R (spec_PlanFor.toS HO_4.out))).2.2 x5_1 p282 q282
    obtain rfl : ad281 = ad282 := (by injection e282)
    obtain ⟨ve282, hve282, hRe282⟩ := spec_PlanFor.el HO_4.out x5_1.toNat (by omega)
    obtain rfl := Option.some.inj (hve282.symm.trans hx282_0)
    have HL282_0 := Aside0.mk (hRe282)
    have HR282_0 := Aside0.mk hi282_0
    have HC282_0 := Aside0.mk hl282_0
    clear hi282_0 hl282_0
    replace p282 := eq_true p282
    replace q282 := eq_true q282
    have ea_ := Option.some.inj (hx281_0.symm.trans hx282_0)
    injection ea_ with ea_ en_ ec_
    subst ea_
    subst ec_
    clear en_
    refine start_ (n := 15) (S := fun w' => w'.cell? (ad281.add (x5_1).toNat) = some (.slice A281_0 (rd_L3 t278 x5_1).length c281_0) ∧ w'.cell? (ad281.add (x5_1).toNat) = some (.slice A281_0 (rd_L3 t278 x5_1).length c281_0)) (ds := [12, 13]) (mb 15 0) (by kernel_rfl) rfl rfl ⟨hx281_0, hx282_0⟩ (fun hHeld => ?_); refine with_tabW spec_PlanFor.tab6 spec_PlanFor.bits6 (fun HT_ HW_ => ?_)
    generalize wr.drew = w11 at HO_3 HO_4 HB HL281_0 HL282_0 HR281_0 HR282_0 hx281_0 hx282_0 hHeld ⊢
    refine pa 0 15 (mb 15 1) HT_ ?_
    refine pa 1 16 (mb 15 3) HT_ ?_
    refine pa 2 17 (mb 15 7) HT_ ?_
    refine pa 3 18 (mb 15 15) HT_ ?_
    refine pa 5 20 (mb 15 47) HT_ ?_
    refine pa 6 21 (mb 15 111) HT_ ?_
    refine pa 7 22 (mb 15 239) HT_ ?_
    refine pa 8 23 (mb 15 495) HT_ ?_
    refine ta2 4 19 (mb 15 511) HT_ HW_ hHeld ?_
    refine ta2 9 24 (mb 15 1023) HT_ HW_ hHeld ?_
    refine oa 10 25 (mb 15 2047) HT_ (fun K hK => ?_)
    refine gA Try.func74 #[.slice A0 l0.length c0, .slice A281_0 (rd_L3 t278 x5_1).length c281_0] ?_
    with_reducible refine (spec_LeastGreen.calls k1 _ _ l0 _ _ (rd_L3 t278 x5_1) t283 _ ?side1 ?side2 ?side3 ?side4 A8.out).mono ?_
    (case side1 => exact cB HR0)
    (case side2 => exact HC0.out)
    (case side3 => repeat (first | exact (by repeat (first | (with_reducible exact HR282_0.out) | (with_reducible refine Kd.C_alloc ?_ _) | (with_reducible refine Kd.C_drewN ?_ _) | (with_reducible refine Kd.C_drew ?_) | exact HR282_0.out)) | (with_reducible refine Kd.C_alloc ?_ _) | (with_reducible refine Kd.C_drewN ?_ _) | (with_reducible refine Kd.C_drew ?_)))
    (case side4 => exact HC282_0.out)
    rintro e w' ⟨rfl, ⟨nd, rfl⟩⟩
    refine ⟨_, rfl, ?_⟩
    refine hK.out _ _ ⟨hHeld.1, hHeld.2⟩ (fun hHeld => ?_)
    clear hK K
    refine nB ?_
    refine pa 11 26 (mb 15 4095) HT_ ?_
    refine last_ (i := 12) (N := some 27) (mb 15 8191) rfl rfl (one_of HT_.out (by kernel_rfl)) (by decide) (fun K hK => ?_)
    refine value_ (w1 := ?_) (v := ?_) (by rfl) rfl ?_ ?_
    rotate_left 2
    ·
     go_simp
     constructor
     ·
      rfl
     ·
      rfl
    refine hK.out _ _ ?_
    clear hK K
    refine nB ?_
    refine last_ (i := 13) (N := some 28) (mb 15 16383) rfl rfl (one_of HT_.out (by kernel_rfl)) (by decide) (fun K hK => ?_)
    refine Kd.R_append_step (Kd.tag f_ k92) (w0 := w) w.heap.size (by rfl) (.tmp 15) (.tmp 27) 30 92 (.agg #[(.slice none 0 0), (.int .i64 0)]) 32 rfl Try.underlying30 info92 rfl (show 0 < k92.sz by decide) (by omega) u3 x3_1.zipIdx ((⟨rd_L3 t278 x5_1, t283⟩ : S92), x3_1.length) [.slice A281_0 (rd_L3 t278 x5_1).length c281_0, .int .i64 t283] (fun _ => True) (fun k_ => some k_ ≠ (u3 : Value).ownBlock) rfl rfl ?aP (fun _ hk => ⟨trivial, hk⟩) (fun _ _ => trivial) ?aO ?aB ?aS ?aL ?_
    (case aP => have hz_ := Kd.R_mono HL281_0.out (fun k_ hk => (⟨hk.1.1.2, hk.2.trans (by have := HN.out; omega)⟩ : some k_ ≠ (u3 : Value).ownBlock ∧ f_ k_ = x3_1.length)); exact (show k92.M _ _ (fun k_ => some k_ ≠ (u3 : Value).ownBlock ∧ f_ k_ = x3_1.length) _ _ from k92_mkM _ _ _ (⟨rd_L3 t278 x5_1, t283⟩ : S92) (by (with_reducible repeat (first | apply Kd.R_alloc | apply Kd.R_drewN | apply Kd.R_drew)); exact hz_)))
    (case aB => exact bA)
    (case aO => exact (by (with_reducible repeat (first | apply Kd.R_alloc | apply Kd.R_drewN | apply Kd.R_drew)); exact HO_3.out))
    (case aS => exact (below_size bA))
    (case aL => have := LMc9.out; rw [List.length_zipIdx]; omega)
    intro v285 w12 ho hb hg hat
    rw [← Kd.zip_snoc, ← Ny284.out] at ho
    have n0_ := Aside0.mk (Kd.R_after (ok := fun _ => True) (by (with_reducible repeat (first | apply Kd.R_alloc | apply Kd.R_drewN | apply Kd.R_drew)); exact HO_4.out) hg hat)
    have n1_ := HL281_0
    have n2_ := HL282_0
    have n3_ := Aside0.mk (hb)
    have n4_ := Aside0.mk (ho)
    clear HO_4
    clear HL281_0
    clear HL282_0
    clear HB
    clear HO_3
    have HO_4 := n0_
    have HL281_0 := n1_
    have HL282_0 := n2_
    have HB := n3_
    have HO286 := n4_
    clear n0_ n1_ n2_ n3_ n4_
    clear ho hb hg hat
    refine hK.out _ _ ?_
    clear hK K
    refine nB ?_
    refine pa 14 3 (mb 15 32767) HT_ ?_
    refine eA HT_ ?_
    try go_wp2
    go_roundg k1
    case measure => have := HK1.out; omega
    case rel => exact ⟨(y284), (wrap64 (x5_1 + 1)), rS, H', ⟨by have := HK1.out; omega⟩, ⟨by (with_reducible repeat (first | apply Kd.R_alloc | apply Kd.R_drewN | apply Kd.R_drew)); exact HO286.out⟩, ⟨by (with_reducible repeat (first | apply Kd.R_alloc | apply Kd.R_drewN | apply Kd.R_drew)); exact HO_4.out⟩, ⟨by (have h1_ := HN.out; have h2_ := LMc9.out; rw [Ny284.out, List.length_append, List.length_singleton]; unfold wrap64; omega)⟩, ⟨bA⟩⟩
   ·
    rw [if_neg c6] at H
    have c6b0 := decide_eq_false c6
    clear c6
    obtain ⟨t287, A13, H⟩ := bindE H
    try dsimp only at H
    by_cases c14 : t287 = true
    ·
     subst c14
     have H1 : (some x3_1) = some r := by rw [if_pos rfl] at H; exact H
     clear H
     have H := H1
     clear H1
     obtain rfl := Option.some.inj H
     obtain ⟨Ao15, co15, eo15⟩ := Kd.R_slice HO_4.out
     rw [List.length_zipIdx] at eo15
     subst eo15
     obtain ⟨Ao16, co16, eo16⟩ := Kd.R_slice HO_3.out
     rw [List.length_zipIdx] at eo16
     subst eo16
     go_wp2_with (first | ((with_reducible refine gate_callee (f := 75) rfl ?_); refine gL (some 31) Try.func75 #[.slice A0 l0.length c0, .slice Ao16 x3_1.length co16] ?_; (with_reducible refine (spec_IsPlan.calls k1 _ _ l0 _ _ x3_1 true _ ?side1 ?side2 ?side3 ?side4 A13.out).mono ?_); (case side1 => exact cB HR0); (case side2 => exact HC0.out); (case side3 => repeat (first | exact (Kd.R_reads' (Kd.S_R (spec_PlanFor.toS HO_3.out))).2.2 | (with_reducible refine Kd.C_alloc ?_ _) | (with_reducible refine Kd.C_drewN ?_ _) | (with_reducible refine Kd.C_drew ?_))); (case side4 => exact (Kd.R_reads' (Kd.S_R (spec_PlanFor.toS HO_3.out))).2.1); rintro e w17 ⟨rfl, hb⟩; refine ⟨_, rfl, ?_⟩; have n0_ := Aside0.mk (Kd.R_below (by (with_reducible repeat (first | apply Kd.R_alloc | apply Kd.R_drewN | apply Kd.R_drew)); exact HO_3.out) hb); have n1_ := Aside0.mk (Kd.R_below (by (with_reducible repeat (first | apply Kd.R_alloc | apply Kd.R_drewN | apply Kd.R_drew)); exact HO_4.out) hb); have n2_ := Aside0.mk (below_step bA hb); clear HO_3; clear HO_4; clear HB; have HO_3 := n0_; have HO_4 := n1_; have HB := n2_; clear n0_ n1_ n2_; (try clear hb)))
     go_ret
     exact ⟨_, by first | rfl | (simp [errW_none, errW_some] <;> rfl) | (simp [*, errW_none, errW_some] <;> rfl), spec_PlanFor.toS (by (with_reducible repeat (first | apply Kd.R_alloc | apply Kd.R_drewN | apply Kd.R_drew)); exact HO_3.out), bA⟩
    ·
     replace c14 := Bool.eq_false_iff.mpr c14
     subst c14
     have H1 : (some (([] : List (S92)))) = some r := by rw [if_neg (show ¬ (false = true) by decide)] at H; exact H
     clear H
     have H := H1
     clear H1
     obtain ⟨y288, hy288⟩ : ∃ y_ : List (S92), y_ = (([] : List (S92))) := ⟨_, rfl⟩
     replace H : (some y288) = some r := rH H hy288
     have Ny288 := Aside0.mk hy288
     clear hy288
     obtain rfl := Option.some.inj H
     obtain ⟨Ao18, co18, eo18⟩ := Kd.R_slice HO_4.out
     rw [List.length_zipIdx] at eo18
     subst eo18
     obtain ⟨Ao19, co19, eo19⟩ := Kd.R_slice HO_3.out
     rw [List.length_zipIdx] at eo19
     subst eo19
     go_wp2_with (first | ((with_reducible refine gate_callee (f := 75) rfl ?_); refine gL (some 31) Try.func75 #[.slice A0 l0.length c0, .slice Ao19 x3_1.length co19] ?_; (with_reducible refine (spec_IsPlan.calls k1 _ _ l0 _ _ x3_1 false _ ?side1 ?side2 ?side3 ?side4 A13.out).mono ?_); (case side1 => exact cB HR0); (case side2 => exact HC0.out); (case side3 => repeat (first | exact (Kd.R_reads' (Kd.S_R (spec_PlanFor.toS HO_3.out))).2.2 | (with_reducible refine Kd.C_alloc ?_ _) | (with_reducible refine Kd.C_drewN ?_ _) | (with_reducible refine Kd.C_drew ?_))); (case side4 => exact (Kd.R_reads' (Kd.S_R (spec_PlanFor.toS HO_3.out))).2.1); rintro e w20 ⟨rfl, hb⟩; refine ⟨_, rfl, ?_⟩; have n0_ := Aside0.mk (Kd.R_below (by (with_reducible repeat (first | apply Kd.R_alloc | apply Kd.R_drewN | apply Kd.R_drew)); exact HO_3.out) hb); have n1_ := Aside0.mk (Kd.R_below (by (with_reducible repeat (first | apply Kd.R_alloc | apply Kd.R_drewN | apply Kd.R_drew)); exact HO_4.out) hb); have n2_ := Aside0.mk (below_step bA hb); clear HO_3; clear HO_4; clear HB; have HO_3 := n0_; have HO_4 := n1_; have HB := n2_; clear n0_ n1_ n2_; (try clear hb)) | ((with_reducible refine gate_dst (N := 33) rfl ?_); refine Kd.R_lit k92 _ 92 ?hg (N := 33) ?hd (xs := ([] : List (S92))) (inner := []) (ok := fun _ => True) (okp := fun _ => True) ?hr ?hp (fun _ hk => hk) trivial (Below.refl _ _) (Nat.le_refl _) (by simp) ?_; (case hd => rfl); (case hg => rfl); (case hr => first | (go_simp; done) | (go_simp; rfl)); (case hp => exact (Reps.none _ _)); intro v289 w21 ho22 hb hg_ hnew_; clear hg_ hnew_; have n0_ := Aside0.mk (Kd.R_below (by (with_reducible repeat (first | apply Kd.R_alloc | apply Kd.R_drewN | apply Kd.R_drew)); exact HO_3.out) hb); have n1_ := Aside0.mk (Kd.R_below (by (with_reducible repeat (first | apply Kd.R_alloc | apply Kd.R_drewN | apply Kd.R_drew)); exact HO_4.out) hb); have n2_ := Aside0.mk (Kd.R_lower ho22 (below_size bA)); have n3_ := Aside0.mk (below_step bA hb); clear HO_3; clear HO_4; clear HB; have HO_3 := n0_; have HO_4 := n1_; have HO290 := n2_; have HB := n3_; clear n0_ n1_ n2_ n3_; clear hb ho22))
     go_ret
     exact ⟨_, by first | rfl | (simp [errW_none, errW_some] <;> rfl) | (simp [*, errW_none, errW_some] <;> rfl), by rw [Ny288.out]; exact spec_PlanFor.nilS (by (with_reducible repeat (first | apply Kd.R_alloc | apply Kd.R_drewN | apply Kd.R_drew)); exact HO290.out), bA⟩

/-! ### impl_FindPath: function 119 -/
def impl_FindPath.q (id : Int) (x : S89) : Bool := decide (x.f0 = id)
set_option maxHeartbeats 400000 in
set_option maxRecDepth 100000 in
theorem impl_FindPath.clo (id : Int) (g : Nat) (x : S89) (w : World) (hc : w.cell? ⟨g, 0, none⟩ = some (.int .i64 id)) :
  Calls Try.prog 143 #[.agg #[.int .i64 x.f0, .int .i64 x.f1, .int .i64 x.f2, .int .i64 x.f3], .pointer (some ⟨g, 0, none⟩)] w fun e w' => e = .returned (.bool (impl_FindPath.q id x)) ∧ Below w.heap.size w w' := by
 have hu := Try.underlying89
 have hg : g < w.heap.size := World.block_lt_of_cell? w _ hc
 go_enter Try.func143, Try.ntmps143
 go_wp2
 go_ret
 exact ⟨by unfold impl_FindPath.q; first | rfl | simp, (Below.refl _ _).alloc (Nat.le_refl _) _⟩
def impl_FindPath.ix (id : Int) : List S89 → Int → Int
 | [], _ => -1
 | x :: l, i => if impl_FindPath.q id x = true then i else impl_FindPath.ix id l (i + 1)
theorem impl_FindPath.ix_hit (id : Int) : ∀ (l : List S89) (i : Int) (m : Nat) (hm : m < l.length), (∀ j (hj : j < m), impl_FindPath.q id (l[j]'(by omega)) = false) → impl_FindPath.q id l[m] = true → impl_FindPath.ix id l i = i + m
 | [], i, m, hm, _, _ => absurd hm (by simp)
 | p :: l, i, 0, hm, _, h => by
  unfold impl_FindPath.ix
  rw [if_pos (show impl_FindPath.q id p = true from h)]
  simp
 | p :: l, i, m + 1, hm, hne, h => by
  unfold impl_FindPath.ix
  have h2 : impl_FindPath.q id p = false := hne 0 (by omega)
  rw [if_neg (by rw [h2]; decide), impl_FindPath.ix_hit id l (i + 1) m (by simpa using hm) (fun j hj => hne (j + 1) (by omega)) h]
  omega
theorem impl_FindPath.ix_miss (id : Int) : ∀ (l : List S89) (i : Int), (∀ j (hj : j < l.length), impl_FindPath.q id l[j] = false) → impl_FindPath.ix id l i = -1
 | [], i, _ => rfl
 | p :: l, i, h => by
  unfold impl_FindPath.ix
  have h2 : impl_FindPath.q id p = false := h 0 (by simp)
  rw [if_neg (by rw [h2]; decide), impl_FindPath.ix_miss id l (i + 1) (fun j hj => h (j + 1) (by simpa using hj))]
theorem impl_FindPath.rd_ (l : List S89) (j : Nat) (hj : j < l.length) : rd_T89 l (j : Int) = l[j] := by
 unfold rd_T89; simp [List.getD_eq_getElem?_getD, List.getElem?_eq_getElem hj]
set_option maxHeartbeats 4000000 in
set_option maxRecDepth 100000 in
theorem impl_FindPath.idx (id : Int) (g : Nat) (A0 : Option Addr) (c0 : Nat) (l0 : List S89) (w : World) (hr0 : Kd.C k89 w A0 l0.length l0) (hc0 : l0.length ≤ c0) (hc : w.cell? ⟨g, 0, none⟩ = some (.int .i64 id)) :
  Calls Try.prog 142 #[.slice A0 l0.length c0, .func (.func 143) #[] #[.pointer (some ⟨g, 0, none⟩)]] w fun e w' => e = .returned (.int .i64 (impl_FindPath.ix id l0 0)) ∧ Below w.heap.size w w' := by
 have hu := Try.underlying89
 have HC := Aside0.mk hc
 clear hc
 have HR0 := Aside0.mk hr0
 have HC0 := Aside0.mk hc0
 have hlen : l0.length ≤ 9223372036854775807 := hr0.2.1
 clear hr0 hc0
 have HB := Aside0.mk (Below.refl w.heap.size w)
 go_enter Try.func142, Try.ntmps142
 go_wp2
 go_loopg [5, 8] l0.length (fun gg v5 v8 w' => ∃ kk : Nat, v8 = .int .i64 kk ∧ Aside0 (kk ≤ l0.length) ∧ Aside0 (l0.length - kk ≤ gg) ∧ Aside0 (Below w.heap.size w w') ∧ Aside0 (∀ j (hj : j < kk) (hl : j < l0.length), impl_FindPath.q id l0[j] = false))
 case atStart => exact ⟨0, rfl, ⟨Nat.zero_le _⟩, ⟨by omega⟩, HB, ⟨fun j hj => absurd hj (Nat.not_lt_zero _)⟩⟩
 case round =>
  clear HB
  obtain ⟨kk, rfl, hk, hg, HB, HA⟩ := hrel
  by_cases hlt : kk < l0.length
  ·
   have hltz : decide ((kk : Int) < (l0.length : Int)) = true := decide_eq_true (by omega)
   have hltn : decide (kk < l0.length) = true := decide_eq_true hlt
   have p0 : (0 : Int) ≤ (kk : Int) := by omega
   have q0 : (kk : Int) < (l0.length : Int) := by omega
   have HE := Aside0.mk (impl_FindPath.rd_ l0 kk hlt)
   obtain ⟨ad, e1, hx0, hx1, hx2, hx3⟩ := at_T89 HR0.out (kk : Int) p0 q0
   cases e1
   rw [Int.toNat_natCast] at hx0 hx1 hx2 hx3
   replace hx0 := hC HB hx0
   replace hx1 := hC HB hx1
   replace hx2 := hC HB hx2
   replace hx3 := hC HB hx3
   replace p0 := eq_true p0
   replace q0 := eq_true q0
   have hcl := fun (w' : World) (hb : Below w.heap.size w w') => impl_FindPath.clo id g (rd_T89 l0 (kk : Int)) w' ((hb.cell (World.block_lt_of_cell? w _ HC.out)).trans HC.out)
   cases hq : impl_FindPath.q id (rd_T89 l0 (kk : Int)) with
   | true =>
    rw [hq] at hcl
    have HCL := Aside0.mk hcl
    have HQ := Aside0.mk hq
    clear hcl hq
    go_wp2_with (go_at_call 143; refine (HCL.out _ HB.out).mono ?_; rintro e w1 ⟨rfl, hb1⟩)
    go_ret
    refine ⟨?_, below_step HB.out hb1⟩
    have hq := HQ.out
    rw [HE.out] at hq
    rw [impl_FindPath.ix_hit id l0 0 kk hlt (fun j hj => HA.out j hj (by omega)) hq, Int.zero_add]
    rfl
   | false =>
    rw [hq] at hcl
    have HCL := Aside0.mk hcl
    have HQ := Aside0.mk hq
    clear hcl hq
    go_wp2_with (go_at_call 143; refine (HCL.out _ HB.out).mono ?_; rintro e w1 ⟨rfl, hb1⟩)
    go_roundg (l0.length - (kk + 1))
    case measure => have := hg.out; omega
    case rel =>
     refine ⟨kk + 1, by go_num, ⟨by omega⟩, ⟨by omega⟩, ⟨below_step HB.out hb1⟩, ⟨fun j hj hl => ?_⟩⟩
     rcases Nat.lt_or_ge j kk with h3 | h3
     ·
      exact HA.out j h3 hl
     ·
      have h4 : j = kk := by omega
      subst h4
      rw [← HE.out]
      exact HQ.out
  ·
   have hge : decide ((kk : Int) < (l0.length : Int)) = false := decide_eq_false (by omega)
   have hgen : decide (kk < l0.length) = false := decide_eq_false hlt
   go_wp2
   go_ret
   refine ⟨?_, HB.out⟩
   rw [impl_FindPath.ix_miss id l0 0 (fun j hj => HA.out j (by omega) hj)]
   rfl

def impl_FindPath.f (l0 : List S89) (a1 : Int) : Option Int := some (impl_FindPath.ix a1 l0 0)
set_option maxHeartbeats 400000 in
set_option maxRecDepth 100000 in
theorem impl_FindPath.calls (A0 : Option Addr) (c0 : Nat) (l0 : List S89) (a1 : Int) (r : Int) (w : World) (hr0 : Kd.C k89 w A0 l0.length l0) (hc0 : l0.length ≤ c0) (h : impl_FindPath.f l0 a1 = some r) :
  Calls Try.prog 119 #[.slice A0 l0.length c0, .int .i64 a1] w fun e w' => e = .returned (.int .i64 r) ∧ Below w.heap.size w w' := by
 obtain rfl := Option.some.inj h
 have HR0 := Aside0.mk hr0
 have HC0 := Aside0.mk hc0
 clear hr0 hc0 h
 go_enter Try.func119, Try.ntmps119
 go_wp2_with (go_at_call 142; refine (impl_FindPath.idx a1 w.heap.size A0 c0 l0 _ ?s1 HC0.out ?s2).mono ?_; (case s1 => exact Kd.C_alloc HR0.out _); (case s2 => simp); rintro e w1 ⟨rfl, hb1⟩)
 go_ret
 exact ⟨rfl, below_step (below_alloc (Below.refl _ _) _) hb1⟩

/-! ### impl_InRange: function 66 -/
def impl_InRange.f (a0 : Int) (a1 : Int) (a2 : Int) : Option (Bool) := if a1 ≤ a0 then (some (decide (a0 ≤ a2))) else (some false)
set_option maxHeartbeats 8000000 in
set_option maxRecDepth 100000 in
theorem impl_InRange.calls (a0 : Int) (a1 : Int) (a2 : Int) (r : Bool) (w : World) (h : impl_InRange.f a0 a1 a2 = some r) :
  Calls Try.prog 66 #[.int .i64 a0, .int .i64 a1, .int .i64 a2] w fun e w' => e = .returned (.bool r) ∧ Drawn0 w w' := by
 have H : (if a1 ≤ a0 then (some (decide (a0 ≤ a2))) else (some false)) = some r := h
 clear h
 by_cases c4 : a1 ≤ a0
 ·
  rw [if_pos c4] at H
  have c4b0 := decide_eq_true c4
  clear c4
  obtain rfl := Option.some.inj H
  go_enter Try.func66, Try.ntmps66
  go_wp2
  go_ret
  exact ⟨by first | rfl | (simp; done) | (simp [*]; done), by repeat (first | exact Drawn0.refl _ | apply Drawn0.step)⟩
 ·
  rw [if_neg c4] at H
  have c4b0 := decide_eq_false c4
  clear c4
  obtain rfl := Option.some.inj H
  go_enter Try.func66, Try.ntmps66
  go_wp2
  go_ret
  exact ⟨by first | rfl | (simp; done) | (simp [*]; done), by repeat (first | exact Drawn0.refl _ | apply Drawn0.step)⟩

/-! ### impl_IsPath: function 146 -/
def impl_IsPath.f (a0_0 : Int) (a0_1 : Int) (a0_2 : Int) (a0_3 : Int) : Option (Bool) := (impl_InRange.f a0_0 1 20).bind fun t292 => (if t292 = true then ((impl_InRange.f a0_1 1 3).bind fun t293 => (if t293 = true then ((impl_InRange.f a0_2 0 3).bind fun t294 => (if t294 = true then ((impl_InRange.f a0_3 0 3).bind fun t295 => (if t295 = true then (some ((a0_2 == a0_3) == (a0_1 == 2))) else (some false))) else (some false))) else (some false))) else (some false))
set_option maxHeartbeats 8000000 in
set_option maxRecDepth 100000 in
theorem impl_IsPath.calls (a0_0 : Int) (a0_1 : Int) (a0_2 : Int) (a0_3 : Int) (r : Bool) (w : World) (h : impl_IsPath.f a0_0 a0_1 a0_2 a0_3 = some r) :
  Calls Try.prog 146 #[.agg #[.int .i64 a0_0, .int .i64 a0_1, .int .i64 a0_2, .int .i64 a0_3]] w fun e w' => e = .returned (.bool r) ∧ Below w.heap.size w w' := by
 have hu89 := Try.underlying89
 have HB := Aside0.mk (Below.refl w.heap.size w)
 have H : ((impl_InRange.f a0_0 1 20).bind fun t292 => (if t292 = true then ((impl_InRange.f a0_1 1 3).bind fun t293 => (if t293 = true then ((impl_InRange.f a0_2 0 3).bind fun t294 => (if t294 = true then ((impl_InRange.f a0_3 0 3).bind fun t295 => (if t295 = true then (some ((a0_2 == a0_3) == (a0_1 == 2))) else (some false))) else (some false))) else (some false))) else (some false))) = some r := h
 clear h
 obtain ⟨t292, A2, H⟩ := bindE H
 try dsimp only at H
 by_cases c3 : t292 = true
 ·
  subst c3
  have H1 : ((impl_InRange.f a0_1 1 3).bind fun t293 => (if t293 = true then ((impl_InRange.f a0_2 0 3).bind fun t294 => (if t294 = true then ((impl_InRange.f a0_3 0 3).bind fun t295 => (if t295 = true then (some ((a0_2 == a0_3) == (a0_1 == 2))) else (some false))) else (some false))) else (some false))) = some r := by rw [if_pos rfl] at H; exact H
  clear H
  have H := H1
  clear H1
  obtain ⟨t293, A4, H⟩ := bindE H
  try dsimp only at H
  by_cases c5 : t293 = true
  ·
   subst c5
   have H1 : ((impl_InRange.f a0_2 0 3).bind fun t294 => (if t294 = true then ((impl_InRange.f a0_3 0 3).bind fun t295 => (if t295 = true then (some ((a0_2 == a0_3) == (a0_1 == 2))) else (some false))) else (some false))) = some r := by rw [if_pos rfl] at H; exact H
   clear H
   have H := H1
   clear H1
   obtain ⟨t294, A6, H⟩ := bindE H
   try dsimp only at H
   by_cases c7 : t294 = true
   ·
    subst c7
    have H1 : ((impl_InRange.f a0_3 0 3).bind fun t295 => (if t295 = true then (some ((a0_2 == a0_3) == (a0_1 == 2))) else (some false))) = some r := by rw [if_pos rfl] at H; exact H
    clear H
    have H := H1
    clear H1
    obtain ⟨t295, A8, H⟩ := bindE H
    try dsimp only at H
    by_cases c9 : t295 = true
    ·
     subst c9
     have H1 : (some ((a0_2 == a0_3) == (a0_1 == 2))) = some r := by rw [if_pos rfl] at H; exact H
     clear H
     have H := H1
     clear H1
     obtain rfl := Option.some.inj H
     go_enter Try.func146, Try.ntmps146
     go_wp2_with (first | ((with_reducible refine gate_dst (N := 1) rfl ?_); refine bE (N := 1) (cs := #[.int .i64 a0_0, .int .i64 a0_1, .int .i64 a0_2, .int .i64 a0_3]) (t := 89) ?_; intro gb291 hg w10 hbox hb; have n0_ := Aside0.mk (below_step bA hb); have n1_ := Aside0.mk (hbox); have n2_ := Aside0.mk ((by rw [hg]; exact (below_size bA) : w.heap.size ≤ gb291)); have n3_ := Aside0.mk ((by rw [hg]; exact (below_size bA) : w.heap.size ≤ gb291)); clear HB; have HB := n0_; have BK291 := n1_; have GW291 := n2_; have GE291 := n3_; clear n0_ n1_ n2_ n3_; clear hb hbox hg; have hcz11_0 : w10.cell? ⟨gb291, 0, none⟩ = some (.int .i64 a0_0) := bC BK291 0; have hcz11_1 : w10.cell? ⟨gb291, 1, none⟩ = some (.int .i64 a0_1) := bC BK291 1; have hcz11_2 : w10.cell? ⟨gb291, 2, none⟩ = some (.int .i64 a0_2) := bC BK291 2; have hcz11_3 : w10.cell? ⟨gb291, 3, none⟩ = some (.int .i64 a0_3) := bC BK291 3; have hfz11_0 := blk_frozen BK291.out 0; have hfz11_1 := blk_frozen BK291.out 1; have hfz11_2 := blk_frozen BK291.out 2; have hfz11_3 := blk_frozen BK291.out 3) | ((with_reducible refine gate_callee (f := 66) rfl ?_); refine gL (some 5) Try.func66 #[.int .i64 a0_0, .int .i64 1, .int .i64 20] ?_; (with_reducible refine (impl_InRange.calls a0_0 1 20 true _ A2.out).mono ?_); rintro e w' ⟨rfl, ⟨nd, rfl⟩⟩; refine ⟨_, rfl, ?_⟩) | (go_at_call 66; (with_reducible refine (impl_InRange.calls a0_1 1 3 true _ A4.out).mono ?_); rintro e w' ⟨rfl, ⟨nd, rfl⟩⟩) | (go_at_call 66; (with_reducible refine (impl_InRange.calls a0_2 0 3 true _ A6.out).mono ?_); rintro e w' ⟨rfl, ⟨nd, rfl⟩⟩) | (go_at_call 66; (with_reducible refine (impl_InRange.calls a0_3 0 3 true _ A8.out).mono ?_); rintro e w' ⟨rfl, ⟨nd, rfl⟩⟩))
     go_ret
     exact ⟨rA, bG⟩
    ·
     replace c9 := Bool.eq_false_iff.mpr c9
     subst c9
     have H1 : (some false) = some r := by rw [if_neg (show ¬ (false = true) by decide)] at H; exact H
     clear H
     have H := H1
     clear H1
     obtain rfl := Option.some.inj H
     go_enter Try.func146, Try.ntmps146
     go_wp2_with (first | ((with_reducible refine gate_dst (N := 1) rfl ?_); refine bE (N := 1) (cs := #[.int .i64 a0_0, .int .i64 a0_1, .int .i64 a0_2, .int .i64 a0_3]) (t := 89) ?_; intro gb291 hg w12 hbox hb; have n0_ := Aside0.mk (below_step bA hb); have n1_ := Aside0.mk (hbox); have n2_ := Aside0.mk ((by rw [hg]; exact (below_size bA) : w.heap.size ≤ gb291)); have n3_ := Aside0.mk ((by rw [hg]; exact (below_size bA) : w.heap.size ≤ gb291)); clear HB; have HB := n0_; have BK291 := n1_; have GW291 := n2_; have GE291 := n3_; clear n0_ n1_ n2_ n3_; clear hb hbox hg; have hcz13_0 : w12.cell? ⟨gb291, 0, none⟩ = some (.int .i64 a0_0) := bC BK291 0; have hcz13_1 : w12.cell? ⟨gb291, 1, none⟩ = some (.int .i64 a0_1) := bC BK291 1; have hcz13_2 : w12.cell? ⟨gb291, 2, none⟩ = some (.int .i64 a0_2) := bC BK291 2; have hcz13_3 : w12.cell? ⟨gb291, 3, none⟩ = some (.int .i64 a0_3) := bC BK291 3; have hfz13_0 := blk_frozen BK291.out 0; have hfz13_1 := blk_frozen BK291.out 1; have hfz13_2 := blk_frozen BK291.out 2; have hfz13_3 := blk_frozen BK291.out 3) | ((with_reducible refine gate_callee (f := 66) rfl ?_); refine gL (some 5) Try.func66 #[.int .i64 a0_0, .int .i64 1, .int .i64 20] ?_; (with_reducible refine (impl_InRange.calls a0_0 1 20 true _ A2.out).mono ?_); rintro e w' ⟨rfl, ⟨nd, rfl⟩⟩; refine ⟨_, rfl, ?_⟩) | (go_at_call 66; (with_reducible refine (impl_InRange.calls a0_1 1 3 true _ A4.out).mono ?_); rintro e w' ⟨rfl, ⟨nd, rfl⟩⟩) | (go_at_call 66; (with_reducible refine (impl_InRange.calls a0_2 0 3 true _ A6.out).mono ?_); rintro e w' ⟨rfl, ⟨nd, rfl⟩⟩) | (go_at_call 66; (with_reducible refine (impl_InRange.calls a0_3 0 3 false _ A8.out).mono ?_); rintro e w' ⟨rfl, ⟨nd, rfl⟩⟩))
     go_ret
     exact ⟨rA, bG⟩
   ·
    replace c7 := Bool.eq_false_iff.mpr c7
    subst c7
    have H1 : (some false) = some r := by rw [if_neg (show ¬ (false = true) by decide)] at H; exact H
    clear H
    have H := H1
    clear H1
    obtain rfl := Option.some.inj H
    go_enter Try.func146, Try.ntmps146
    go_wp2_with (first | ((with_reducible refine gate_dst (N := 1) rfl ?_); refine bE (N := 1) (cs := #[.int .i64 a0_0, .int .i64 a0_1, .int .i64 a0_2, .int .i64 a0_3]) (t := 89) ?_; intro gb291 hg w14 hbox hb; have n0_ := Aside0.mk (below_step bA hb); have n1_ := Aside0.mk (hbox); have n2_ := Aside0.mk ((by rw [hg]; exact (below_size bA) : w.heap.size ≤ gb291)); have n3_ := Aside0.mk ((by rw [hg]; exact (below_size bA) : w.heap.size ≤ gb291)); clear HB; have HB := n0_; have BK291 := n1_; have GW291 := n2_; have GE291 := n3_; clear n0_ n1_ n2_ n3_; clear hb hbox hg; have hcz15_0 : w14.cell? ⟨gb291, 0, none⟩ = some (.int .i64 a0_0) := bC BK291 0; have hcz15_1 : w14.cell? ⟨gb291, 1, none⟩ = some (.int .i64 a0_1) := bC BK291 1; have hcz15_2 : w14.cell? ⟨gb291, 2, none⟩ = some (.int .i64 a0_2) := bC BK291 2; have hcz15_3 : w14.cell? ⟨gb291, 3, none⟩ = some (.int .i64 a0_3) := bC BK291 3; have hfz15_0 := blk_frozen BK291.out 0; have hfz15_1 := blk_frozen BK291.out 1; have hfz15_2 := blk_frozen BK291.out 2; have hfz15_3 := blk_frozen BK291.out 3) | ((with_reducible refine gate_callee (f := 66) rfl ?_); refine gL (some 5) Try.func66 #[.int .i64 a0_0, .int .i64 1, .int .i64 20] ?_; (with_reducible refine (impl_InRange.calls a0_0 1 20 true _ A2.out).mono ?_); rintro e w' ⟨rfl, ⟨nd, rfl⟩⟩; refine ⟨_, rfl, ?_⟩) | (go_at_call 66; (with_reducible refine (impl_InRange.calls a0_1 1 3 true _ A4.out).mono ?_); rintro e w' ⟨rfl, ⟨nd, rfl⟩⟩) | (go_at_call 66; (with_reducible refine (impl_InRange.calls a0_2 0 3 false _ A6.out).mono ?_); rintro e w' ⟨rfl, ⟨nd, rfl⟩⟩))
    go_ret
    exact ⟨rA, bG⟩
  ·
   replace c5 := Bool.eq_false_iff.mpr c5
   subst c5
   have H1 : (some false) = some r := by rw [if_neg (show ¬ (false = true) by decide)] at H; exact H
   clear H
   have H := H1
   clear H1
   obtain rfl := Option.some.inj H
   go_enter Try.func146, Try.ntmps146
   go_wp2_with (first | ((with_reducible refine gate_dst (N := 1) rfl ?_); refine bE (N := 1) (cs := #[.int .i64 a0_0, .int .i64 a0_1, .int .i64 a0_2, .int .i64 a0_3]) (t := 89) ?_; intro gb291 hg w16 hbox hb; have n0_ := Aside0.mk (below_step bA hb); have n1_ := Aside0.mk (hbox); have n2_ := Aside0.mk ((by rw [hg]; exact (below_size bA) : w.heap.size ≤ gb291)); have n3_ := Aside0.mk ((by rw [hg]; exact (below_size bA) : w.heap.size ≤ gb291)); clear HB; have HB := n0_; have BK291 := n1_; have GW291 := n2_; have GE291 := n3_; clear n0_ n1_ n2_ n3_; clear hb hbox hg; have hcz17_0 : w16.cell? ⟨gb291, 0, none⟩ = some (.int .i64 a0_0) := bC BK291 0; have hcz17_1 : w16.cell? ⟨gb291, 1, none⟩ = some (.int .i64 a0_1) := bC BK291 1; have hcz17_2 : w16.cell? ⟨gb291, 2, none⟩ = some (.int .i64 a0_2) := bC BK291 2; have hcz17_3 : w16.cell? ⟨gb291, 3, none⟩ = some (.int .i64 a0_3) := bC BK291 3; have hfz17_0 := blk_frozen BK291.out 0; have hfz17_1 := blk_frozen BK291.out 1; have hfz17_2 := blk_frozen BK291.out 2; have hfz17_3 := blk_frozen BK291.out 3) | ((with_reducible refine gate_callee (f := 66) rfl ?_); refine gL (some 5) Try.func66 #[.int .i64 a0_0, .int .i64 1, .int .i64 20] ?_; (with_reducible refine (impl_InRange.calls a0_0 1 20 true _ A2.out).mono ?_); rintro e w' ⟨rfl, ⟨nd, rfl⟩⟩; refine ⟨_, rfl, ?_⟩) | (go_at_call 66; (with_reducible refine (impl_InRange.calls a0_1 1 3 false _ A4.out).mono ?_); rintro e w' ⟨rfl, ⟨nd, rfl⟩⟩))
   go_ret
   exact ⟨rA, bG⟩
 ·
  replace c3 := Bool.eq_false_iff.mpr c3
  subst c3
  have H1 : (some false) = some r := by rw [if_neg (show ¬ (false = true) by decide)] at H; exact H
  clear H
  have H := H1
  clear H1
  obtain rfl := Option.some.inj H
  go_enter Try.func146, Try.ntmps146
  go_wp2_with (first | ((with_reducible refine gate_dst (N := 1) rfl ?_); refine bE (N := 1) (cs := #[.int .i64 a0_0, .int .i64 a0_1, .int .i64 a0_2, .int .i64 a0_3]) (t := 89) ?_; intro gb291 hg w18 hbox hb; have n0_ := Aside0.mk (below_step bA hb); have n1_ := Aside0.mk (hbox); have n2_ := Aside0.mk ((by rw [hg]; exact (below_size bA) : w.heap.size ≤ gb291)); have n3_ := Aside0.mk ((by rw [hg]; exact (below_size bA) : w.heap.size ≤ gb291)); clear HB; have HB := n0_; have BK291 := n1_; have GW291 := n2_; have GE291 := n3_; clear n0_ n1_ n2_ n3_; clear hb hbox hg; have hcz19_0 : w18.cell? ⟨gb291, 0, none⟩ = some (.int .i64 a0_0) := bC BK291 0; have hcz19_1 : w18.cell? ⟨gb291, 1, none⟩ = some (.int .i64 a0_1) := bC BK291 1; have hcz19_2 : w18.cell? ⟨gb291, 2, none⟩ = some (.int .i64 a0_2) := bC BK291 2; have hcz19_3 : w18.cell? ⟨gb291, 3, none⟩ = some (.int .i64 a0_3) := bC BK291 3; have hfz19_0 := blk_frozen BK291.out 0; have hfz19_1 := blk_frozen BK291.out 1; have hfz19_2 := blk_frozen BK291.out 2; have hfz19_3 := blk_frozen BK291.out 3) | ((with_reducible refine gate_callee (f := 66) rfl ?_); refine gL (some 5) Try.func66 #[.int .i64 a0_0, .int .i64 1, .int .i64 20] ?_; (with_reducible refine (impl_InRange.calls a0_0 1 20 false _ A2.out).mono ?_); rintro e w' ⟨rfl, ⟨nd, rfl⟩⟩; refine ⟨_, rfl, ?_⟩))
  go_ret
  exact ⟨rA, bG⟩

/-! ### impl_ArePaths: function 126 -/
def impl_ArePaths.l0 : Nat → List (S89) → List (S89) → Int → Int → Option (Bool)
 | 0, _, _, _, _ => none
 | k + 1, x0, x8, x9, x10 => if x10 < x9 then (if 0 ≤ x10 then (if x10 < (x8.length : Int) then ((impl_IsPath.f ((rd_T89 x8 x10).f0) ((rd_T89 x8 x10).f1) ((rd_T89 x8 x10).f2) ((rd_T89 x8 x10).f3)).bind fun t298 => (if t298 = true then (if x10 > 0 then (if 0 ≤ (wrap64 (x10 - 1)) then (if (wrap64 (x10 - 1)) < (x0.length : Int) then (if ((rd_T89 x8 x10).f0) ≤ ((rd_T89 x0 (wrap64 (x10 - 1))).f0) then (some false) else (impl_ArePaths.l0 k x0 x8 x9 (wrap64 (x10 + 1)))) else (none)) else (none)) else (impl_ArePaths.l0 k x0 x8 x9 (wrap64 (x10 + 1)))) else (some false))) else (none)) else (none)) else (some true)
def impl_ArePaths.f (k : Nat) (l0 : List (S89)) : Option (Bool) := if (l0.length : Int) > 12 then (some false) else (impl_ArePaths.l0 k l0 l0 (l0.length : Int) 0)
theorem impl_ArePaths.mono_l : ∀ k, (∀ y0 y1 y2 y3, LeO (impl_ArePaths.l0 k y0 y1 y2 y3) (impl_ArePaths.l0 (k + 1) y0 y1 y2 y3))
 | 0 => fun _ _ _ _ r h => by simp [impl_ArePaths.l0] at h
 | k + 1 => by
  have ih0 := impl_ArePaths.mono_l k
  ·
   intro y0 y1 y2 y3
   unfold impl_ArePaths.l0
   repeat' first | (with_reducible first | exact LeO.refl _ | exact LeO.none _ | refine LeO.ite ?_ ?_ | refine LeO.bind ?_ (fun _ => ?_) | exact ih0 _ _ _ _)
theorem impl_ArePaths.mono : ∀ a0 k, LeO (impl_ArePaths.f k a0) (impl_ArePaths.f (k + 1) a0) := by
 intro a0 k
 have ih0 := impl_ArePaths.mono_l k
 unfold impl_ArePaths.f
 repeat' first | (with_reducible first | exact LeO.refl _ | exact LeO.none _ | refine LeO.ite ?_ ?_ | refine LeO.bind ?_ (fun _ => ?_) | exact ih0 _ _ _ _)
def impl_ArePaths.T6 : Bool × List (List Nat × List Nat) := (true, [([], []), ([0], [0]), ([1], [1]), ([2, 1], [2]), ([3], [3]), ([4, 3], [3, 4]), ([5, 3, 3], [3, 5]), ([6], [6]), ([7, 6], [6, 7]), ([6], [6]), ([6], [6]), ([10, 6], [6, 10]), ([9, 11, 6], [6, 9, 11]), ([12, 6], [6, 12]), ([13, 6], [6, 13]), ([8, 14, 6], [6, 8, 14]), ([6, 15, 3], [3, 6, 15]), ([3, 16], [3, 16])])
def impl_ArePaths.B6 : List Nat := [0, 1, 3, 7, 15, 31, 63, 127, 255, 127, 127, 1151, 3711, 7807, 15999, 32767, 65535, 131071]
theorem impl_ArePaths.tab6 : rtab .any (opsOf Try.f126 6) = impl_ArePaths.T6 := by kernel_rfl
theorem impl_ArePaths.bits6 : waitsOk impl_ArePaths.T6.2 impl_ArePaths.B6 = true := by kernel_rfl
set_option maxHeartbeats 8000000 in
set_option maxRecDepth 100000 in
theorem impl_ArePaths.calls (k : Nat) (A0 : Option Addr) (c0 : Nat) (l0 : List (S89)) (r : Bool) (w : World) (hr0 : Kd.C k89 w A0 l0.length l0) (hc0 : l0.length ≤ c0) (h : impl_ArePaths.f k l0 = some r) :
  Calls Try.prog 126 #[.slice A0 l0.length c0] w fun e w' => e = .returned (.bool r) ∧ Below w.heap.size w w' := by
 have hu89 := Try.underlying89
 have HR0 := Aside0.mk hr0
 have HC0 := Aside0.mk hc0
 clear hr0 hc0
 have HB := Aside0.mk (Below.refl w.heap.size w)
 have H : (if (l0.length : Int) > 12 then (some false) else (impl_ArePaths.l0 k l0 l0 (l0.length : Int) 0)) = some r := h
 clear h
 by_cases c2 : (l0.length : Int) > 12
 ·
  rw [if_pos c2] at H
  have c2b0 := decide_eq_true c2
  have c2b1 : decide (12 < l0.length) = true := decide_eq_true (by omega)
  clear c2
  obtain rfl := Option.some.inj H
  go_enter Try.func126, Try.ntmps126
  go_wp2
  go_ret
  exact ⟨rA, bA⟩
 ·
  rw [if_neg c2] at H
  have c2b0 := decide_eq_false c2
  have c2b1 : decide (12 < l0.length) = false := decide_eq_false (by omega)
  clear c2
  have H' := Aside0.mk H
  clear H
  go_enter Try.func126, Try.ntmps126
  go_wp2
  go_loopg [10] k (fun kq v10 w' => ∃ (x10_1 : Int), v10 = .int .i64 x10_1 ∧ Aside0 (impl_ArePaths.l0 kq l0 l0 (l0.length : Int) x10_1 = some r) ∧ Aside0 (kq ≤ k) ∧ Aside0 (Below w.heap.size w w'))
  case atStart => exact ⟨(0), rS, H', ⟨Nat.le_refl _⟩, ⟨bA⟩⟩
  case round =>
   clear H'
   try clear c1
   try clear c2
   try clear c2b0
   try clear c2b1
   try clear p2
   obtain ⟨x10_1, rfl, HA, HK1, HB⟩ := hrel
   cases gk with
   | zero => exact absurd HA.out (by simp [impl_ArePaths.l0])
   | succ k1 =>
    have H := HA.out
    clear HA
    simp only [impl_ArePaths.l0] at H
    by_cases c3 : x10_1 < (l0.length : Int)
    ·
     rw [if_pos c3] at H
     have c3b0 := decide_eq_true c3
     clear c3
     have c4 : 0 ≤ x10_1 := ifN H
     replace H := ifT H
     have c4b0 := decide_eq_true c4
     clear c4
     have c5 : x10_1 < (l0.length : Int) := ifN H
     replace H := ifT H
     have c5b0 := decide_eq_true c5
     clear c5
     obtain ⟨t298, A6, H⟩ := bindE H
     try dsimp only at H
     by_cases c7 : t298 = true
     ·
      subst c7
      have H1 : (if x10_1 > 0 then (if 0 ≤ (wrap64 (x10_1 - 1)) then (if (wrap64 (x10_1 - 1)) < (l0.length : Int) then (if ((rd_T89 l0 x10_1).f0) ≤ ((rd_T89 l0 (wrap64 (x10_1 - 1))).f0) then (some false) else (impl_ArePaths.l0 k1 l0 l0 (l0.length : Int) (wrap64 (x10_1 + 1)))) else (none)) else (none)) else (impl_ArePaths.l0 k1 l0 l0 (l0.length : Int) (wrap64 (x10_1 + 1)))) = some r := by rw [if_pos rfl] at H; exact H
      clear H
      have H := H1
      clear H1
      by_cases c8 : x10_1 > 0
      ·
       rw [if_pos c8] at H
       have c8b0 := decide_eq_true c8
       clear c8
       obtain ⟨ji9, hji9⟩ : ∃ j_ : Int, (wrap64 (x10_1 - 1)) = j_ := ⟨_, rfl⟩
       replace H : (if 0 ≤ (ji9) then (if (ji9) < (l0.length : Int) then (if ((rd_T89 l0 x10_1).f0) ≤ ((rd_T89 l0 (ji9)).f0) then (some false) else (impl_ArePaths.l0 k1 l0 l0 (l0.length : Int) (wrap64 (x10_1 + 1)))) else (none)) else (none)) = some r := by first | (rw [hji9] at H; exact H) | (simp only [hji9] at H ⊢; exact H)
       (try rw [hji9] at A6)
       have hji9w : (IntKind.i64.wrap (x10_1 - 1)) = ji9 := (i64_w _).trans hji9
       have c10 : 0 ≤ (ji9) := ifN H
       replace H := ifT H
       have c10b0 := decide_eq_true c10
       clear c10
       have c11 : (ji9) < (l0.length : Int) := ifN H
       replace H := ifT H
       have c11b0 := decide_eq_true c11
       clear c11
       by_cases c12 : ((rd_T89 l0 x10_1).f0) ≤ ((rd_T89 l0 (ji9)).f0)
       ·
        rw [if_pos c12] at H
        have c12b0 := decide_eq_true c12
        clear c12
        obtain rfl := Option.some.inj H
        have p296 : 0 ≤ (x10_1 : Int) := dA
        have q296 : x10_1 < (l0.length : Int) := dA
        obtain ⟨ad296, e296, hx296_0, hx296_1, hx296_2, hx296_3⟩ := at_T89 HR0.out x10_1 p296 q296
        cases e296
        replace hx296_0 := hC HB hx296_0
        replace hx296_1 := hC HB hx296_1
        replace hx296_2 := hC HB hx296_2
        replace hx296_3 := hC HB hx296_3
        replace p296 := eq_true p296
        replace q296 := eq_true q296
        try go_wp2_with (first | ((with_reducible refine gate_dst (N := 4) rfl ?_); refine bE (N := 4) (cs := #[.int .i64 0, .int .i64 0, .int .i64 0, .int .i64 0]) (t := 89) ?_; intro gb297 hg w13 hbox hb; have n0_ := Aside0.mk (below_step bA hb); have n1_ := Aside0.mk (hbox); have n2_ := Aside0.mk ((by rw [hg]; exact (below_size bA) : w.heap.size ≤ gb297)); have n3_ := Aside0.mk ((by rw [hg]; exact (below_size bA) : w.heap.size ≤ gb297)); clear HB; have HB := n0_; have BK297 := n1_; have GW297 := n2_; have GE297 := n3_; clear n0_ n1_ n2_ n3_; clear hb hbox hg; obtain ⟨hcz14_0, hcz14_1, hcz14_2, hcz14_3, hfz14_0, hfz14_1, hfz14_2, hfz14_3⟩ := blkc4 BK297))
        have n0_ : Aside0 (((((w13.setCell ⟨gb297, 0, none⟩ (.int .i64 ((rd_T89 l0 x10_1).f0))).setCell ⟨gb297, 1, none⟩ (.int .i64 ((rd_T89 l0 x10_1).f1))).setCell ⟨gb297, 2, none⟩ (.int .i64 ((rd_T89 l0 x10_1).f2))).setCell ⟨gb297, 3, none⟩ (.int .i64 ((rd_T89 l0 x10_1).f3))).heap[gb297]? = some (.cells #[.int .i64 ((rd_T89 l0 x10_1).f0), .int .i64 ((rd_T89 l0 x10_1).f1), .int .i64 ((rd_T89 l0 x10_1).f2), .int .i64 ((rd_T89 l0 x10_1).f3)] 89 (0, 0))) := ⟨by (with_reducible repeat (first | refine blk_drewN ?_ _ | refine blk_drew ?_ | refine blk_alloc ?_ _)); refine blk_put (cs := #[.int .i64 ((rd_T89 l0 x10_1).f0), .int .i64 ((rd_T89 l0 x10_1).f1), .int .i64 ((rd_T89 l0 x10_1).f2), .int .i64 0]) ?_ 3 _ rfl; (with_reducible repeat (first | refine blk_drewN ?_ _ | refine blk_drew ?_ | refine blk_alloc ?_ _)); refine blk_put (cs := #[.int .i64 ((rd_T89 l0 x10_1).f0), .int .i64 ((rd_T89 l0 x10_1).f1), .int .i64 0, .int .i64 0]) ?_ 2 _ rfl; (with_reducible repeat (first | refine blk_drewN ?_ _ | refine blk_drew ?_ | refine blk_alloc ?_ _)); refine blk_put (cs := #[.int .i64 ((rd_T89 l0 x10_1).f0), .int .i64 0, .int .i64 0, .int .i64 0]) ?_ 1 _ rfl; (with_reducible repeat (first | refine blk_drewN ?_ _ | refine blk_drew ?_ | refine blk_alloc ?_ _)); refine blk_put (cs := #[.int .i64 0, .int .i64 0, .int .i64 0, .int .i64 0]) ?_ 0 _ rfl; (with_reducible repeat (first | refine blk_drewN ?_ _ | refine blk_drew ?_ | refine blk_alloc ?_ _)); exact BK297.out⟩
        have n1_ : Aside0 (Below w.heap.size w ((((w13.setCell ⟨gb297, 0, none⟩ (.int .i64 ((rd_T89 l0 x10_1).f0))).setCell ⟨gb297, 1, none⟩ (.int .i64 ((rd_T89 l0 x10_1).f1))).setCell ⟨gb297, 2, none⟩ (.int .i64 ((rd_T89 l0 x10_1).f2))).setCell ⟨gb297, 3, none⟩ (.int .i64 ((rd_T89 l0 x10_1).f3)))) := ⟨bG⟩
        (try clear BK297)
        (try clear HB)
        generalize ((((w13.setCell ⟨gb297, 0, none⟩ (.int .i64 ((rd_T89 l0 x10_1).f0))).setCell ⟨gb297, 1, none⟩ (.int .i64 ((rd_T89 l0 x10_1).f1))).setCell ⟨gb297, 2, none⟩ (.int .i64 ((rd_T89 l0 x10_1).f2))).setCell ⟨gb297, 3, none⟩ (.int .i64 ((rd_T89 l0 x10_1).f3))) = w15 at n0_ n1_ ⊢
        have BK297 := n0_
        have HB := n1_
        clear n0_ n1_
        replace BK297 := Aside0.mk (blk_drew BK297.out)
        have HBo := HB
        replace HB := Aside0.mk (below_drew1 HB.out)
        have p299 : 0 ≤ ((ji9) : Int) := dA
        have q299 : (ji9) < (l0.length : Int) := dA
        obtain ⟨ad299, e299, hx299_0, hx299_1, hx299_2, hx299_3⟩ := at_T89 HR0.out (ji9) p299 q299
        have hw299_3 := hx299_3
        have hw299_2 := hx299_2
        have hw299_1 := hx299_1
        have hw299_0 := hx299_0
        obtain rfl : ad296 = ad299 := (by injection e299)
        replace hx299_0 := hC HB hx299_0
        replace hx299_1 := hC HB hx299_1
        replace hx299_2 := hC HB hx299_2
        replace hx299_3 := hC HB hx299_3
        replace p299 := eq_true p299
        replace q299 := eq_true q299
        refine start_ (n := 18) (S := fun w' => w'.cell? ⟨gb297, 0, none⟩ = some (.int .i64 ((rd_T89 l0 x10_1).f0)) ∧ w'.cell? ⟨gb297, 1, none⟩ = some (.int .i64 ((rd_T89 l0 x10_1).f1)) ∧ w'.cell? ⟨gb297, 2, none⟩ = some (.int .i64 ((rd_T89 l0 x10_1).f2)) ∧ w'.cell? ⟨gb297, 3, none⟩ = some (.int .i64 ((rd_T89 l0 x10_1).f3)) ∧ w'.cell? (ad296.add (((ji9)).toNat * 4)) = some (.int .i64 ((rd_T89 l0 (ji9)).f0)) ∧ w'.cell? ⟨(ad296.add (((ji9)).toNat * 4)).block, (ad296.add (((ji9)).toNat * 4)).off + 1, none⟩ = some (.int .i64 ((rd_T89 l0 (ji9)).f1)) ∧ w'.cell? ⟨(ad296.add (((ji9)).toNat * 4)).block, (ad296.add (((ji9)).toNat * 4)).off + 2, none⟩ = some (.int .i64 ((rd_T89 l0 (ji9)).f2)) ∧ w'.cell? ⟨(ad296.add (((ji9)).toNat * 4)).block, (ad296.add (((ji9)).toNat * 4)).off + 3, none⟩ = some (.int .i64 ((rd_T89 l0 (ji9)).f3))) (ds := []) (mb 18 0) (by kernel_rfl) rfl rfl ⟨bC BK297 0, bC BK297 1, bC BK297 2, bC BK297 3, (hC HB hw299_0), (hC HB hw299_1), (hC HB hw299_2), (hC HB hw299_3)⟩ (fun hHeld => ?_); refine with_tabW impl_ArePaths.tab6 impl_ArePaths.bits6 (fun HT_ HW_ => ?_)
        generalize w15.drew = w16 at BK297 HB hx299_0 hx299_1 hx299_2 hx299_3 hHeld ⊢
        refine ta8 0 15 (mb 18 1) HT_ HW_ hHeld ?_
        refine oa 1 16 (mb 18 3) HT_ (fun K hK => ?_)
        refine gA Try.func146 #[.agg #[.int .i64 ((rd_T89 l0 x10_1).f0), .int .i64 ((rd_T89 l0 x10_1).f1), .int .i64 ((rd_T89 l0 x10_1).f2), .int .i64 ((rd_T89 l0 x10_1).f3)]] ?_
        with_reducible refine (impl_IsPath.calls ((rd_T89 l0 x10_1).f0) ((rd_T89 l0 x10_1).f1) ((rd_T89 l0 x10_1).f2) ((rd_T89 l0 x10_1).f3) true _ A6.out).mono ?_
        rintro e w17 ⟨rfl, hb⟩
        refine ⟨_, rfl, ?_⟩
        replace BK297 := Aside0.mk (blk_below (g := gb297) (bK BK297) hb)
        replace HB := Aside0.mk (below_step bG hb)
        (try clear hb)
        (try clear hb2)
        (try clear hk)
        (try clear hi)
        refine hK.out _ _ ⟨bC BK297 0, bC BK297 1, bC BK297 2, bC BK297 3, (hC HB hw299_0), (hC HB hw299_1), (hC HB hw299_2), (hC HB hw299_3)⟩ (fun hHeld => ?_)
        clear hK K
        refine nB ?_
        refine pa 2 17 (mb 18 7) HT_ ?_
        refine pa 3 18 (mb 18 15) HT_ ?_
        refine pa 4 19 (mb 18 31) HT_ ?_
        refine pa 5 20 (mb 18 63) HT_ ?_
        refine pa 6 21 (mb 18 127) HT_ ?_
        refine pa 7 22 (mb 18 255) HT_ ?_
        refine pa 9 24 (mb 18 767) HT_ ?_
        refine pa 10 25 (mb 18 1791) HT_ ?_
        refine pa 11 26 (mb 18 3839) HT_ ?_
        refine pa 12 27 (mb 18 7935) HT_ ?_
        refine pa 13 28 (mb 18 16127) HT_ ?_
        refine ta8 8 23 (mb 18 16383) HT_ HW_ hHeld ?_
        refine ta8 14 29 (mb 18 32767) HT_ HW_ hHeld ?_
        refine pa 15 30 (mb 18 65535) HT_ ?_
        refine pa 16 31 (mb 18 131071) HT_ ?_
        refine pa 17 32 (mb 18 262143) HT_ ?_
        refine eA HT_ ?_
        try go_wp2
        go_ret
        exact ⟨by first | rfl | (simp [errW_none, errW_some] <;> rfl) | (simp only [← hji9]; first | rfl | (simp [errW_none, errW_some] <;> rfl)) | (simp [*, errW_none, errW_some] <;> rfl), bG⟩
       ·
        rw [if_neg c12] at H
        have c12b0 := decide_eq_false c12
        clear c12
        have H' := Aside0.mk H
        clear H
        have p296 : 0 ≤ (x10_1 : Int) := dA
        have q296 : x10_1 < (l0.length : Int) := dA
        obtain ⟨ad296, e296, hx296_0, hx296_1, hx296_2, hx296_3⟩ := at_T89 HR0.out x10_1 p296 q296
        cases e296
        replace hx296_0 := hC HB hx296_0
        replace hx296_1 := hC HB hx296_1
        replace hx296_2 := hC HB hx296_2
        replace hx296_3 := hC HB hx296_3
        replace p296 := eq_true p296
        replace q296 := eq_true q296
        try go_wp2_with (first | ((with_reducible refine gate_dst (N := 4) rfl ?_); refine bE (N := 4) (cs := #[.int .i64 0, .int .i64 0, .int .i64 0, .int .i64 0]) (t := 89) ?_; intro gb297 hg w18 hbox hb; have n0_ := Aside0.mk (below_step bA hb); have n1_ := Aside0.mk (hbox); have n2_ := Aside0.mk ((by rw [hg]; exact (below_size bA) : w.heap.size ≤ gb297)); have n3_ := Aside0.mk ((by rw [hg]; exact (below_size bA) : w.heap.size ≤ gb297)); clear HB; have HB := n0_; have BK297 := n1_; have GW297 := n2_; have GE297 := n3_; clear n0_ n1_ n2_ n3_; clear hb hbox hg; obtain ⟨hcz19_0, hcz19_1, hcz19_2, hcz19_3, hfz19_0, hfz19_1, hfz19_2, hfz19_3⟩ := blkc4 BK297))
        have n0_ : Aside0 (((((w18.setCell ⟨gb297, 0, none⟩ (.int .i64 ((rd_T89 l0 x10_1).f0))).setCell ⟨gb297, 1, none⟩ (.int .i64 ((rd_T89 l0 x10_1).f1))).setCell ⟨gb297, 2, none⟩ (.int .i64 ((rd_T89 l0 x10_1).f2))).setCell ⟨gb297, 3, none⟩ (.int .i64 ((rd_T89 l0 x10_1).f3))).heap[gb297]? = some (.cells #[.int .i64 ((rd_T89 l0 x10_1).f0), .int .i64 ((rd_T89 l0 x10_1).f1), .int .i64 ((rd_T89 l0 x10_1).f2), .int .i64 ((rd_T89 l0 x10_1).f3)] 89 (0, 0))) := ⟨by (with_reducible repeat (first | refine blk_drewN ?_ _ | refine blk_drew ?_ | refine blk_alloc ?_ _)); refine blk_put (cs := #[.int .i64 ((rd_T89 l0 x10_1).f0), .int .i64 ((rd_T89 l0 x10_1).f1), .int .i64 ((rd_T89 l0 x10_1).f2), .int .i64 0]) ?_ 3 _ rfl; (with_reducible repeat (first | refine blk_drewN ?_ _ | refine blk_drew ?_ | refine blk_alloc ?_ _)); refine blk_put (cs := #[.int .i64 ((rd_T89 l0 x10_1).f0), .int .i64 ((rd_T89 l0 x10_1).f1), .int .i64 0, .int .i64 0]) ?_ 2 _ rfl; (with_reducible repeat (first | refine blk_drewN ?_ _ | refine blk_drew ?_ | refine blk_alloc ?_ _)); refine blk_put (cs := #[.int .i64 ((rd_T89 l0 x10_1).f0), .int .i64 0, .int .i64 0, .int .i64 0]) ?_ 1 _ rfl; (with_reducible repeat (first | refine blk_drewN ?_ _ | refine blk_drew ?_ | refine blk_alloc ?_ _)); refine blk_put (cs := #[.int .i64 0, .int .i64 0, .int .i64 0, .int .i64 0]) ?_ 0 _ rfl; (with_reducible repeat (first | refine blk_drewN ?_ _ | refine blk_drew ?_ | refine blk_alloc ?_ _)); exact BK297.out⟩
        have n1_ : Aside0 (Below w.heap.size w ((((w18.setCell ⟨gb297, 0, none⟩ (.int .i64 ((rd_T89 l0 x10_1).f0))).setCell ⟨gb297, 1, none⟩ (.int .i64 ((rd_T89 l0 x10_1).f1))).setCell ⟨gb297, 2, none⟩ (.int .i64 ((rd_T89 l0 x10_1).f2))).setCell ⟨gb297, 3, none⟩ (.int .i64 ((rd_T89 l0 x10_1).f3)))) := ⟨bG⟩
        (try clear BK297)
        (try clear HB)
        generalize ((((w18.setCell ⟨gb297, 0, none⟩ (.int .i64 ((rd_T89 l0 x10_1).f0))).setCell ⟨gb297, 1, none⟩ (.int .i64 ((rd_T89 l0 x10_1).f1))).setCell ⟨gb297, 2, none⟩ (.int .i64 ((rd_T89 l0 x10_1).f2))).setCell ⟨gb297, 3, none⟩ (.int .i64 ((rd_T89 l0 x10_1).f3))) = w20 at n0_ n1_ ⊢
        have BK297 := n0_
        have HB := n1_
        clear n0_ n1_
        replace BK297 := Aside0.mk (blk_drew BK297.out)
        have HBo := HB
        replace HB := Aside0.mk (below_drew1 HB.out)
        have p299 : 0 ≤ ((ji9) : Int) := dA
        have q299 : (ji9) < (l0.length : Int) := dA
        obtain ⟨ad299, e299, hx299_0, hx299_1, hx299_2, hx299_3⟩ := at_T89 HR0.out (ji9) p299 q299
        have hw299_3 := hx299_3
        have hw299_2 := hx299_2
        have hw299_1 := hx299_1
        have hw299_0 := hx299_0
        obtain rfl : ad296 = ad299 := (by injection e299)
        replace hx299_0 := hC HB hx299_0
        replace hx299_1 := hC HB hx299_1
        replace hx299_2 := hC HB hx299_2
        replace hx299_3 := hC HB hx299_3
        replace p299 := eq_true p299
        replace q299 := eq_true q299
        refine start_ (n := 18) (S := fun w' => w'.cell? ⟨gb297, 0, none⟩ = some (.int .i64 ((rd_T89 l0 x10_1).f0)) ∧ w'.cell? ⟨gb297, 1, none⟩ = some (.int .i64 ((rd_T89 l0 x10_1).f1)) ∧ w'.cell? ⟨gb297, 2, none⟩ = some (.int .i64 ((rd_T89 l0 x10_1).f2)) ∧ w'.cell? ⟨gb297, 3, none⟩ = some (.int .i64 ((rd_T89 l0 x10_1).f3)) ∧ w'.cell? (ad296.add (((ji9)).toNat * 4)) = some (.int .i64 ((rd_T89 l0 (ji9)).f0)) ∧ w'.cell? ⟨(ad296.add (((ji9)).toNat * 4)).block, (ad296.add (((ji9)).toNat * 4)).off + 1, none⟩ = some (.int .i64 ((rd_T89 l0 (ji9)).f1)) ∧ w'.cell? ⟨(ad296.add (((ji9)).toNat * 4)).block, (ad296.add (((ji9)).toNat * 4)).off + 2, none⟩ = some (.int .i64 ((rd_T89 l0 (ji9)).f2)) ∧ w'.cell? ⟨(ad296.add (((ji9)).toNat * 4)).block, (ad296.add (((ji9)).toNat * 4)).off + 3, none⟩ = some (.int .i64 ((rd_T89 l0 (ji9)).f3))) (ds := []) (mb 18 0) (by kernel_rfl) rfl rfl ⟨bC BK297 0, bC BK297 1, bC BK297 2, bC BK297 3, (hC HB hw299_0), (hC HB hw299_1), (hC HB hw299_2), (hC HB hw299_3)⟩ (fun hHeld => ?_); refine with_tabW impl_ArePaths.tab6 impl_ArePaths.bits6 (fun HT_ HW_ => ?_)
        generalize w20.drew = w21 at BK297 HB hx299_0 hx299_1 hx299_2 hx299_3 hHeld ⊢
        refine ta8 0 15 (mb 18 1) HT_ HW_ hHeld ?_
        refine oa 1 16 (mb 18 3) HT_ (fun K hK => ?_)
        refine gA Try.func146 #[.agg #[.int .i64 ((rd_T89 l0 x10_1).f0), .int .i64 ((rd_T89 l0 x10_1).f1), .int .i64 ((rd_T89 l0 x10_1).f2), .int .i64 ((rd_T89 l0 x10_1).f3)]] ?_
        with_reducible refine (impl_IsPath.calls ((rd_T89 l0 x10_1).f0) ((rd_T89 l0 x10_1).f1) ((rd_T89 l0 x10_1).f2) ((rd_T89 l0 x10_1).f3) true _ A6.out).mono ?_
        rintro e w22 ⟨rfl, hb⟩
        refine ⟨_, rfl, ?_⟩
        replace BK297 := Aside0.mk (blk_below (g := gb297) (bK BK297) hb)
        replace HB := Aside0.mk (below_step bG hb)
        (try clear hb)
        (try clear hb2)
        (try clear hk)
        (try clear hi)
        refine hK.out _ _ ⟨bC BK297 0, bC BK297 1, bC BK297 2, bC BK297 3, (hC HB hw299_0), (hC HB hw299_1), (hC HB hw299_2), (hC HB hw299_3)⟩ (fun hHeld => ?_)
        clear hK K
        refine nB ?_
        refine pa 2 17 (mb 18 7) HT_ ?_
        refine pa 3 18 (mb 18 15) HT_ ?_
        refine pa 4 19 (mb 18 31) HT_ ?_
        refine pa 5 20 (mb 18 63) HT_ ?_
        refine pa 6 21 (mb 18 127) HT_ ?_
        refine pa 7 22 (mb 18 255) HT_ ?_
        refine pa 9 24 (mb 18 767) HT_ ?_
        refine pa 10 25 (mb 18 1791) HT_ ?_
        refine pa 11 26 (mb 18 3839) HT_ ?_
        refine pa 12 27 (mb 18 7935) HT_ ?_
        refine pa 13 28 (mb 18 16127) HT_ ?_
        refine ta8 8 23 (mb 18 16383) HT_ HW_ hHeld ?_
        refine ta8 14 29 (mb 18 32767) HT_ HW_ hHeld ?_
        refine pa 15 30 (mb 18 65535) HT_ ?_
        refine pa 16 31 (mb 18 131071) HT_ ?_
        refine pa 17 32 (mb 18 262143) HT_ ?_
        refine eA HT_ ?_
        try go_wp2
        go_roundg k1
        case measure => have := HK1.out; omega
        case rel => exact ⟨(wrap64 (x10_1 + 1)), rS, H', ⟨by have := HK1.out; omega⟩, ⟨bG⟩⟩
      ·
       rw [if_neg c8] at H
       have c8b0 := decide_eq_false c8
       clear c8
       have H' := Aside0.mk H
       clear H
       have p296 : 0 ≤ (x10_1 : Int) := dA
       have q296 : x10_1 < (l0.length : Int) := dA
       obtain ⟨ad296, e296, hx296_0, hx296_1, hx296_2, hx296_3⟩ := at_T89 HR0.out x10_1 p296 q296
       cases e296
       replace hx296_0 := hC HB hx296_0
       replace hx296_1 := hC HB hx296_1
       replace hx296_2 := hC HB hx296_2
       replace hx296_3 := hC HB hx296_3
       replace p296 := eq_true p296
       replace q296 := eq_true q296
       try go_wp2_with (first | ((with_reducible refine gate_dst (N := 4) rfl ?_); refine bE (N := 4) (cs := #[.int .i64 0, .int .i64 0, .int .i64 0, .int .i64 0]) (t := 89) ?_; intro gb297 hg w23 hbox hb; have n0_ := Aside0.mk (below_step bA hb); have n1_ := Aside0.mk (hbox); have n2_ := Aside0.mk ((by rw [hg]; exact (below_size bA) : w.heap.size ≤ gb297)); have n3_ := Aside0.mk ((by rw [hg]; exact (below_size bA) : w.heap.size ≤ gb297)); clear HB; have HB := n0_; have BK297 := n1_; have GW297 := n2_; have GE297 := n3_; clear n0_ n1_ n2_ n3_; clear hb hbox hg; obtain ⟨hcz24_0, hcz24_1, hcz24_2, hcz24_3, hfz24_0, hfz24_1, hfz24_2, hfz24_3⟩ := blkc4 BK297))
       have n0_ : Aside0 (((((w23.setCell ⟨gb297, 0, none⟩ (.int .i64 ((rd_T89 l0 x10_1).f0))).setCell ⟨gb297, 1, none⟩ (.int .i64 ((rd_T89 l0 x10_1).f1))).setCell ⟨gb297, 2, none⟩ (.int .i64 ((rd_T89 l0 x10_1).f2))).setCell ⟨gb297, 3, none⟩ (.int .i64 ((rd_T89 l0 x10_1).f3))).heap[gb297]? = some (.cells #[.int .i64 ((rd_T89 l0 x10_1).f0), .int .i64 ((rd_T89 l0 x10_1).f1), .int .i64 ((rd_T89 l0 x10_1).f2), .int .i64 ((rd_T89 l0 x10_1).f3)] 89 (0, 0))) := ⟨by (with_reducible repeat (first | refine blk_drewN ?_ _ | refine blk_drew ?_ | refine blk_alloc ?_ _)); refine blk_put (cs := #[.int .i64 ((rd_T89 l0 x10_1).f0), .int .i64 ((rd_T89 l0 x10_1).f1), .int .i64 ((rd_T89 l0 x10_1).f2), .int .i64 0]) ?_ 3 _ rfl; (with_reducible repeat (first | refine blk_drewN ?_ _ | refine blk_drew ?_ | refine blk_alloc ?_ _)); refine blk_put (cs := #[.int .i64 ((rd_T89 l0 x10_1).f0), .int .i64 ((rd_T89 l0 x10_1).f1), .int .i64 0, .int .i64 0]) ?_ 2 _ rfl; (with_reducible repeat (first | refine blk_drewN ?_ _ | refine blk_drew ?_ | refine blk_alloc ?_ _)); refine blk_put (cs := #[.int .i64 ((rd_T89 l0 x10_1).f0), .int .i64 0, .int .i64 0, .int .i64 0]) ?_ 1 _ rfl; (with_reducible repeat (first | refine blk_drewN ?_ _ | refine blk_drew ?_ | refine blk_alloc ?_ _)); refine blk_put (cs := #[.int .i64 0, .int .i64 0, .int .i64 0, .int .i64 0]) ?_ 0 _ rfl; (with_reducible repeat (first | refine blk_drewN ?_ _ | refine blk_drew ?_ | refine blk_alloc ?_ _)); exact BK297.out⟩
       have n1_ : Aside0 (Below w.heap.size w ((((w23.setCell ⟨gb297, 0, none⟩ (.int .i64 ((rd_T89 l0 x10_1).f0))).setCell ⟨gb297, 1, none⟩ (.int .i64 ((rd_T89 l0 x10_1).f1))).setCell ⟨gb297, 2, none⟩ (.int .i64 ((rd_T89 l0 x10_1).f2))).setCell ⟨gb297, 3, none⟩ (.int .i64 ((rd_T89 l0 x10_1).f3)))) := ⟨bG⟩
       (try clear BK297)
       (try clear HB)
       generalize ((((w23.setCell ⟨gb297, 0, none⟩ (.int .i64 ((rd_T89 l0 x10_1).f0))).setCell ⟨gb297, 1, none⟩ (.int .i64 ((rd_T89 l0 x10_1).f1))).setCell ⟨gb297, 2, none⟩ (.int .i64 ((rd_T89 l0 x10_1).f2))).setCell ⟨gb297, 3, none⟩ (.int .i64 ((rd_T89 l0 x10_1).f3))) = w25 at n0_ n1_ ⊢
       have BK297 := n0_
       have HB := n1_
       clear n0_ n1_
       replace BK297 := Aside0.mk (blk_drew BK297.out)
       have HBo := HB
       replace HB := Aside0.mk (below_drew1 HB.out)
       refine start_ (n := 18) (S := fun w' => w'.cell? ⟨gb297, 0, none⟩ = some (.int .i64 ((rd_T89 l0 x10_1).f0)) ∧ w'.cell? ⟨gb297, 1, none⟩ = some (.int .i64 ((rd_T89 l0 x10_1).f1)) ∧ w'.cell? ⟨gb297, 2, none⟩ = some (.int .i64 ((rd_T89 l0 x10_1).f2)) ∧ w'.cell? ⟨gb297, 3, none⟩ = some (.int .i64 ((rd_T89 l0 x10_1).f3))) (ds := []) (mb 18 0) (by kernel_rfl) rfl rfl ⟨bC BK297 0, bC BK297 1, bC BK297 2, bC BK297 3⟩ (fun hHeld => ?_); refine with_tabW impl_ArePaths.tab6 impl_ArePaths.bits6 (fun HT_ HW_ => ?_)
       generalize w25.drew = w26 at BK297 HB hHeld ⊢
       refine ta4 0 15 (mb 18 1) HT_ HW_ hHeld ?_
       refine oa 1 16 (mb 18 3) HT_ (fun K hK => ?_)
       refine gA Try.func146 #[.agg #[.int .i64 ((rd_T89 l0 x10_1).f0), .int .i64 ((rd_T89 l0 x10_1).f1), .int .i64 ((rd_T89 l0 x10_1).f2), .int .i64 ((rd_T89 l0 x10_1).f3)]] ?_
       with_reducible refine (impl_IsPath.calls ((rd_T89 l0 x10_1).f0) ((rd_T89 l0 x10_1).f1) ((rd_T89 l0 x10_1).f2) ((rd_T89 l0 x10_1).f3) true _ A6.out).mono ?_
       rintro e w27 ⟨rfl, hb⟩
       refine ⟨_, rfl, ?_⟩
       replace BK297 := Aside0.mk (blk_below (g := gb297) (bK BK297) hb)
       replace HB := Aside0.mk (below_step bG hb)
       (try clear hb)
       (try clear hb2)
       (try clear hk)
       (try clear hi)
       refine hK.out _ _ ⟨bC BK297 0, bC BK297 1, bC BK297 2, bC BK297 3⟩ (fun hHeld => ?_)
       clear hK K
       refine nB ?_
       refine pa 2 17 (mb 18 7) HT_ ?_
       refine pa 3 18 (mb 18 15) HT_ ?_
       refine pa 4 19 (mb 18 31) HT_ ?_
       refine pa 5 20 (mb 18 63) HT_ ?_
       refine pa 6 21 (mb 18 127) HT_ ?_
       refine pu 7 22 (mb 18 255) HT_ ?_
       refine pu 8 23 (mb 18 511) HT_ ?_
       refine pu 9 24 (mb 18 1023) HT_ ?_
       refine pu 10 25 (mb 18 2047) HT_ ?_
       refine pu 11 26 (mb 18 4095) HT_ ?_
       refine pu 12 27 (mb 18 8191) HT_ ?_
       refine pu 13 28 (mb 18 16383) HT_ ?_
       refine pu 14 29 (mb 18 32767) HT_ ?_
       refine pu 15 30 (mb 18 65535) HT_ ?_
       refine pa 16 31 (mb 18 131071) HT_ ?_
       refine pa 17 32 (mb 18 262143) HT_ ?_
       refine eA HT_ ?_
       try go_wp2
       go_roundg k1
       case measure => have := HK1.out; omega
       case rel => exact ⟨(wrap64 (x10_1 + 1)), rS, H', ⟨by have := HK1.out; omega⟩, ⟨bG⟩⟩
     ·
      replace c7 := Bool.eq_false_iff.mpr c7
      subst c7
      have H1 : (some false) = some r := by rw [if_neg (show ¬ (false = true) by decide)] at H; exact H
      clear H
      have H := H1
      clear H1
      obtain rfl := Option.some.inj H
      have p296 : 0 ≤ (x10_1 : Int) := dA
      have q296 : x10_1 < (l0.length : Int) := dA
      obtain ⟨ad296, e296, hx296_0, hx296_1, hx296_2, hx296_3⟩ := at_T89 HR0.out x10_1 p296 q296
      cases e296
      replace hx296_0 := hC HB hx296_0
      replace hx296_1 := hC HB hx296_1
      replace hx296_2 := hC HB hx296_2
      replace hx296_3 := hC HB hx296_3
      replace p296 := eq_true p296
      replace q296 := eq_true q296
      try go_wp2_with (first | ((with_reducible refine gate_dst (N := 4) rfl ?_); refine bE (N := 4) (cs := #[.int .i64 0, .int .i64 0, .int .i64 0, .int .i64 0]) (t := 89) ?_; intro gb297 hg w28 hbox hb; have n0_ := Aside0.mk (below_step bA hb); have n1_ := Aside0.mk (hbox); have n2_ := Aside0.mk ((by rw [hg]; exact (below_size bA) : w.heap.size ≤ gb297)); have n3_ := Aside0.mk ((by rw [hg]; exact (below_size bA) : w.heap.size ≤ gb297)); clear HB; have HB := n0_; have BK297 := n1_; have GW297 := n2_; have GE297 := n3_; clear n0_ n1_ n2_ n3_; clear hb hbox hg; obtain ⟨hcz29_0, hcz29_1, hcz29_2, hcz29_3, hfz29_0, hfz29_1, hfz29_2, hfz29_3⟩ := blkc4 BK297))
      have n0_ : Aside0 (((((w28.setCell ⟨gb297, 0, none⟩ (.int .i64 ((rd_T89 l0 x10_1).f0))).setCell ⟨gb297, 1, none⟩ (.int .i64 ((rd_T89 l0 x10_1).f1))).setCell ⟨gb297, 2, none⟩ (.int .i64 ((rd_T89 l0 x10_1).f2))).setCell ⟨gb297, 3, none⟩ (.int .i64 ((rd_T89 l0 x10_1).f3))).heap[gb297]? = some (.cells #[.int .i64 ((rd_T89 l0 x10_1).f0), .int .i64 ((rd_T89 l0 x10_1).f1), .int .i64 ((rd_T89 l0 x10_1).f2), .int .i64 ((rd_T89 l0 x10_1).f3)] 89 (0, 0))) := ⟨by (with_reducible repeat (first | refine blk_drewN ?_ _ | refine blk_drew ?_ | refine blk_alloc ?_ _)); refine blk_put (cs := #[.int .i64 ((rd_T89 l0 x10_1).f0), .int .i64 ((rd_T89 l0 x10_1).f1), .int .i64 ((rd_T89 l0 x10_1).f2), .int .i64 0]) ?_ 3 _ rfl; (with_reducible repeat (first | refine blk_drewN ?_ _ | refine blk_drew ?_ | refine blk_alloc ?_ _)); refine blk_put (cs := #[.int .i64 ((rd_T89 l0 x10_1).f0), .int .i64 ((rd_T89 l0 x10_1).f1), .int .i64 0, .int .i64 0]) ?_ 2 _ rfl; (with_reducible repeat (first | refine blk_drewN ?_ _ | refine blk_drew ?_ | refine blk_alloc ?_ _)); refine blk_put (cs := #[.int .i64 ((rd_T89 l0 x10_1).f0), .int .i64 0, .int .i64 0, .int .i64 0]) ?_ 1 _ rfl; (with_reducible repeat (first | refine blk_drewN ?_ _ | refine blk_drew ?_ | refine blk_alloc ?_ _)); refine blk_put (cs := #[.int .i64 0, .int .i64 0, .int .i64 0, .int .i64 0]) ?_ 0 _ rfl; (with_reducible repeat (first | refine blk_drewN ?_ _ | refine blk_drew ?_ | refine blk_alloc ?_ _)); exact BK297.out⟩
      have n1_ : Aside0 (Below w.heap.size w ((((w28.setCell ⟨gb297, 0, none⟩ (.int .i64 ((rd_T89 l0 x10_1).f0))).setCell ⟨gb297, 1, none⟩ (.int .i64 ((rd_T89 l0 x10_1).f1))).setCell ⟨gb297, 2, none⟩ (.int .i64 ((rd_T89 l0 x10_1).f2))).setCell ⟨gb297, 3, none⟩ (.int .i64 ((rd_T89 l0 x10_1).f3)))) := ⟨bG⟩
      (try clear BK297)
      (try clear HB)
      generalize ((((w28.setCell ⟨gb297, 0, none⟩ (.int .i64 ((rd_T89 l0 x10_1).f0))).setCell ⟨gb297, 1, none⟩ (.int .i64 ((rd_T89 l0 x10_1).f1))).setCell ⟨gb297, 2, none⟩ (.int .i64 ((rd_T89 l0 x10_1).f2))).setCell ⟨gb297, 3, none⟩ (.int .i64 ((rd_T89 l0 x10_1).f3))) = w30 at n0_ n1_ ⊢
      have BK297 := n0_
      have HB := n1_
      clear n0_ n1_
      replace BK297 := Aside0.mk (blk_drew BK297.out)
      have HBo := HB
      replace HB := Aside0.mk (below_drew1 HB.out)
      refine start_ (n := 18) (S := fun w' => w'.cell? ⟨gb297, 0, none⟩ = some (.int .i64 ((rd_T89 l0 x10_1).f0)) ∧ w'.cell? ⟨gb297, 1, none⟩ = some (.int .i64 ((rd_T89 l0 x10_1).f1)) ∧ w'.cell? ⟨gb297, 2, none⟩ = some (.int .i64 ((rd_T89 l0 x10_1).f2)) ∧ w'.cell? ⟨gb297, 3, none⟩ = some (.int .i64 ((rd_T89 l0 x10_1).f3))) (ds := []) (mb 18 0) (by kernel_rfl) rfl rfl ⟨bC BK297 0, bC BK297 1, bC BK297 2, bC BK297 3⟩ (fun hHeld => ?_); refine with_tabW impl_ArePaths.tab6 impl_ArePaths.bits6 (fun HT_ HW_ => ?_)
      generalize w30.drew = w31 at BK297 HB hHeld ⊢
      refine ta4 0 15 (mb 18 1) HT_ HW_ hHeld ?_
      refine oa 1 16 (mb 18 3) HT_ (fun K hK => ?_)
      refine gA Try.func146 #[.agg #[.int .i64 ((rd_T89 l0 x10_1).f0), .int .i64 ((rd_T89 l0 x10_1).f1), .int .i64 ((rd_T89 l0 x10_1).f2), .int .i64 ((rd_T89 l0 x10_1).f3)]] ?_
      with_reducible refine (impl_IsPath.calls ((rd_T89 l0 x10_1).f0) ((rd_T89 l0 x10_1).f1) ((rd_T89 l0 x10_1).f2) ((rd_T89 l0 x10_1).f3) false _ A6.out).mono ?_
      rintro e w32 ⟨rfl, hb⟩
      refine ⟨_, rfl, ?_⟩
      replace BK297 := Aside0.mk (blk_below (g := gb297) (bK BK297) hb)
      replace HB := Aside0.mk (below_step bG hb)
      (try clear hb)
      (try clear hb2)
      (try clear hk)
      (try clear hi)
      refine hK.out _ _ ⟨bC BK297 0, bC BK297 1, bC BK297 2, bC BK297 3⟩ (fun hHeld => ?_)
      clear hK K
      refine nB ?_
      refine pa 2 17 (mb 18 7) HT_ ?_
      refine pa 3 18 (mb 18 15) HT_ ?_
      refine pu 4 19 (mb 18 31) HT_ ?_
      refine pu 5 20 (mb 18 63) HT_ ?_
      refine pu 6 21 (mb 18 127) HT_ ?_
      refine pu 7 22 (mb 18 255) HT_ ?_
      refine pu 8 23 (mb 18 511) HT_ ?_
      refine pu 9 24 (mb 18 1023) HT_ ?_
      refine pu 10 25 (mb 18 2047) HT_ ?_
      refine pu 11 26 (mb 18 4095) HT_ ?_
      refine pu 12 27 (mb 18 8191) HT_ ?_
      refine pu 13 28 (mb 18 16383) HT_ ?_
      refine pu 14 29 (mb 18 32767) HT_ ?_
      refine pu 15 30 (mb 18 65535) HT_ ?_
      refine pu 16 31 (mb 18 131071) HT_ ?_
      refine pa 17 32 (mb 18 262143) HT_ ?_
      refine eA HT_ ?_
      try go_wp2
      go_ret
      exact ⟨rA, bG⟩
    ·
     rw [if_neg c3] at H
     have c3b0 := decide_eq_false c3
     clear c3
     obtain rfl := Option.some.inj H
     go_wp2
     go_ret
     exact ⟨rA, bA⟩

/-! ### impl_Interleave: function 152 -/
def impl_Interleave.l0 : Nat → Int → Int → Int → Int → List Int → Int → Int → Option (Bool)
 | 0, _, _, _, _, _, _, _ => none
 | k + 1, x0, x1, x2, x3, x16, x17, x18 => if x18 < x17 then (if 0 ≤ x18 then (if x18 < (x16.length : Int) then ((impl_InRange.f (rd x16 x18) 0 7).bind fun t304 => (if t304 = true then (impl_Interleave.l0 k x0 x1 x2 x3 x16 x17 (wrap64 (x18 + 1))) else (some false))) else (none)) else (none)) else (if x0 = x1 then (some false) else (if x0 = x2 then (some false) else (if x0 = x3 then (some false) else (if x1 = x2 then (some false) else (if x1 = x3 then (some false) else (if x2 = x3 then (some false) else (some ((decide ((Int.tmod (wrap64 ((wrap64 (x2 - x0)) + 8)) 8) < (Int.tmod (wrap64 ((wrap64 (x1 - x0)) + 8)) 8))) != (decide ((Int.tmod (wrap64 ((wrap64 (x3 - x0)) + 8)) 8) < (Int.tmod (wrap64 ((wrap64 (x1 - x0)) + 8)) 8)))))))))))
def impl_Interleave.f (k : Nat) (a0 : Int) (a1 : Int) (a2 : Int) (a3 : Int) : Option (Bool) := (some (([a0, a1, a2, a3] : List Int) : List Int)).bind fun y300 => (impl_Interleave.l0 k a0 a1 a2 a3 y300 (y300.length : Int) 0)
theorem impl_Interleave.mono_l : ∀ k, (∀ y0 y1 y2 y3 y4 y5 y6, LeO (impl_Interleave.l0 k y0 y1 y2 y3 y4 y5 y6) (impl_Interleave.l0 (k + 1) y0 y1 y2 y3 y4 y5 y6))
 | 0 => fun _ _ _ _ _ _ _ r h => by simp [impl_Interleave.l0] at h
 | k + 1 => by
  have ih0 := impl_Interleave.mono_l k
  ·
   intro y0 y1 y2 y3 y4 y5 y6
   unfold impl_Interleave.l0
   repeat' first | (with_reducible first | exact LeO.refl _ | exact LeO.none _ | refine LeO.ite ?_ ?_ | refine LeO.bind ?_ (fun _ => ?_) | exact ih0 _ _ _ _ _ _ _)
theorem impl_Interleave.mono : ∀ a0 a1 a2 a3 k, LeO (impl_Interleave.f k a0 a1 a2 a3) (impl_Interleave.f (k + 1) a0 a1 a2 a3) := by
 intro a0 a1 a2 a3 k
 have ih0 := impl_Interleave.mono_l k
 unfold impl_Interleave.f
 repeat' first | (with_reducible first | exact LeO.refl _ | exact LeO.none _ | refine LeO.ite ?_ ?_ | refine LeO.bind ?_ (fun _ => ?_) | exact ih0 _ _ _ _ _ _ _)
set_option maxHeartbeats 8000000 in
set_option maxRecDepth 100000 in
theorem impl_Interleave.calls (k : Nat) (a0 : Int) (a1 : Int) (a2 : Int) (a3 : Int) (r : Bool) (w : World) (h : impl_Interleave.f k a0 a1 a2 a3 = some r) :
  Calls Try.prog 152 #[.int .i64 a0, .int .i64 a1, .int .i64 a2, .int .i64 a3] w fun e w' => e = .returned (.bool r) ∧ Below w.heap.size w w' := by
 have HB := Aside0.mk (Below.refl w.heap.size w)
 have H : ((some (([a0, a1, a2, a3] : List Int) : List Int)).bind fun y300 => (impl_Interleave.l0 k a0 a1 a2 a3 y300 (y300.length : Int) 0)) = some r := h
 clear h
 obtain ⟨y300, hy300⟩ : ∃ y_ : List Int, y_ = (([a0, a1, a2, a3] : List Int)) := ⟨_, rfl⟩
 replace H : (impl_Interleave.l0 k a0 a1 a2 a3 y300 (y300.length : Int) 0) = some r := rH H hy300
 have Ny300 := Aside0.mk hy300
 clear hy300
 have H' := Aside0.mk H
 clear H
 go_enter Try.func152, Try.ntmps152
 go_wp2_with (first | ((with_reducible refine gate_dst (N := 16) rfl ?_); refine Kd.R_lit (Kd.int .i64) _ 3 ?hg (N := 16) ?hd (xs := ([a0, a1, a2, a3] : List Int)) (inner := [.int .i64 a0, .int .i64 a1, .int .i64 a2, .int .i64 a3]) (ok := fun _ => True) (okp := fun _ => True) ?hr ?hp (fun _ hk => hk) trivial (Below.refl _ _) (Nat.le_refl _) (by simp) ?_; (case hd => rfl); (case hg => rfl); (case hr => first | (go_simp; done) | (go_simp; rfl)); (case hp => exact (Reps.one (show Kd.M (Kd.int .i64) _ _ _ a0 [.int .i64 a0] from rfl) (Reps.one (show Kd.M (Kd.int .i64) _ _ _ a1 [.int .i64 a1] from rfl) (Reps.one (show Kd.M (Kd.int .i64) _ _ _ a2 [.int .i64 a2] from rfl) (Reps.one (show Kd.M (Kd.int .i64) _ _ _ a3 [.int .i64 a3] from rfl) (Reps.none _ _)))))); intro v301 w5 ho6 hb hg_ hnew_; clear hg_ hnew_; (first | rw [← Ny300.out] at ho6 | (simp only [Int.reduceToNat] at ho6; rw [← Ny300.out] at ho6)); have HO302 := Aside0.mk (Kd.R_lower ho6 (below_size bA)); replace HB := Aside0.mk (below_step bA hb); clear hb ho6; obtain ⟨Ao7, co7, eo7⟩ := Kd.R_slice HO302.out; subst eo7))
 go_loopg [18] k (fun kq v18 w' => ∃ (x18_1 : Int), v18 = .int .i64 x18_1 ∧ Aside0 (impl_Interleave.l0 kq a0 a1 a2 a3 y300 (y300.length : Int) x18_1 = some r) ∧ Aside0 (kq ≤ k) ∧ Aside0 (Kd.R (Kd.int .i64) 3 w' w.heap.size (fun _ => True) (.slice Ao7 y300.length co7) y300) ∧ Aside0 (Below w.heap.size w w'))
 case atStart => exact ⟨(0), rS, H', ⟨Nat.le_refl _⟩, ⟨rK HO302⟩, ⟨bA⟩⟩
 case round =>
  clear H'
  try clear c1
  try clear p2
  obtain ⟨x18_1, rfl, HA, HK1, HO_16, HB⟩ := hrel
  cases gk with
  | zero => exact absurd HA.out (by simp [impl_Interleave.l0])
  | succ k1 =>
   have H := HA.out
   clear HA
   simp only [impl_Interleave.l0] at H
   by_cases c8 : x18_1 < (y300.length : Int)
   ·
    rw [if_pos c8] at H
    have c8b0 := decide_eq_true c8
    clear c8
    have c9 : 0 ≤ x18_1 := ifN H
    replace H := ifT H
    have c9b0 := decide_eq_true c9
    clear c9
    have c10 : x18_1 < (y300.length : Int) := ifN H
    replace H := ifT H
    have c10b0 := decide_eq_true c10
    clear c10
    obtain ⟨t304, A11, H⟩ := bindE H
    try dsimp only at H
    by_cases c12 : t304 = true
    ·
     subst c12
     have H1 : (impl_Interleave.l0 k1 a0 a1 a2 a3 y300 (y300.length : Int) (wrap64 (x18_1 + 1))) = some r := by rw [if_pos rfl] at H; exact H
     clear H
     have H := H1
     clear H1
     have H' := Aside0.mk H
     clear H
     have p303 : 0 ≤ (x18_1 : Int) := dA
     have q303 : x18_1 < (y300.length : Int) := dA
     obtain ⟨ad303, e303, hx303_0⟩ := Kd.at_int (Kd.R_reads' HO_16.out).2.2 x18_1 p303 q303
     cases e303
     replace p303 := eq_true p303
     replace q303 := eq_true q303
     go_wp2_with (first | ((with_reducible refine gate_callee (f := 66) rfl ?_); refine gL (some 23) Try.func66 #[.int .i64 (rd y300 x18_1), .int .i64 0, .int .i64 7] ?_; (with_reducible refine (impl_InRange.calls (rd y300 x18_1) 0 7 true _ A11.out).mono ?_); rintro e w' ⟨rfl, ⟨nd, rfl⟩⟩; refine ⟨_, rfl, ?_⟩))
     go_roundg k1
     case measure => have := HK1.out; omega
     case rel => exact ⟨(wrap64 (x18_1 + 1)), rS, H', ⟨by have := HK1.out; omega⟩, ⟨rK HO_16⟩, ⟨bA⟩⟩
    ·
     replace c12 := Bool.eq_false_iff.mpr c12
     subst c12
     have H1 : (some false) = some r := by rw [if_neg (show ¬ (false = true) by decide)] at H; exact H
     clear H
     have H := H1
     clear H1
     obtain rfl := Option.some.inj H
     have p303 : 0 ≤ (x18_1 : Int) := dA
     have q303 : x18_1 < (y300.length : Int) := dA
     obtain ⟨ad303, e303, hx303_0⟩ := Kd.at_int (Kd.R_reads' HO_16.out).2.2 x18_1 p303 q303
     cases e303
     replace p303 := eq_true p303
     replace q303 := eq_true q303
     go_wp2_with (first | ((with_reducible refine gate_callee (f := 66) rfl ?_); refine gL (some 23) Try.func66 #[.int .i64 (rd y300 x18_1), .int .i64 0, .int .i64 7] ?_; (with_reducible refine (impl_InRange.calls (rd y300 x18_1) 0 7 false _ A11.out).mono ?_); rintro e w' ⟨rfl, ⟨nd, rfl⟩⟩; refine ⟨_, rfl, ?_⟩))
     go_ret
     exact ⟨rA, bA⟩
   ·
    rw [if_neg c8] at H
    have c8b0 := decide_eq_false c8
    clear c8
    by_cases c13 : a0 = a1
    ·
     rw [if_pos c13] at H
     have c13b0 : (a0 == a1) = true := beq_iff_eq.mpr c13
     have c13b1 : (a0 != a1) = false := bne_eq_false_iff_eq.mpr c13
     clear c13
     obtain rfl := Option.some.inj H
     go_wp2
     go_ret
     exact ⟨rA, bA⟩
    ·
     rw [if_neg c13] at H
     have c13b0 : (a0 == a1) = false := beq_eq_false_iff_ne.mpr c13
     have c13b1 : (a0 != a1) = true := bne_iff_ne.mpr c13
     by_cases c14 : a0 = a2
     ·
      rw [if_pos c14] at H
      have c14b0 : (a0 == a2) = true := beq_iff_eq.mpr c14
      have c14b1 : (a0 != a2) = false := bne_eq_false_iff_eq.mpr c14
      clear c14
      obtain rfl := Option.some.inj H
      go_wp2
      go_ret
      exact ⟨rA, bA⟩
     ·
      rw [if_neg c14] at H
      have c14b0 : (a0 == a2) = false := beq_eq_false_iff_ne.mpr c14
      have c14b1 : (a0 != a2) = true := bne_iff_ne.mpr c14
      by_cases c15 : a0 = a3
      ·
       rw [if_pos c15] at H
       have c15b0 : (a0 == a3) = true := beq_iff_eq.mpr c15
       have c15b1 : (a0 != a3) = false := bne_eq_false_iff_eq.mpr c15
       clear c15
       obtain rfl := Option.some.inj H
       go_wp2
       go_ret
       exact ⟨rA, bA⟩
      ·
       rw [if_neg c15] at H
       have c15b0 : (a0 == a3) = false := beq_eq_false_iff_ne.mpr c15
       have c15b1 : (a0 != a3) = true := bne_iff_ne.mpr c15
       by_cases c16 : a1 = a2
       ·
        rw [if_pos c16] at H
        have c16b0 : (a1 == a2) = true := beq_iff_eq.mpr c16
        have c16b1 : (a1 != a2) = false := bne_eq_false_iff_eq.mpr c16
        clear c16
        obtain rfl := Option.some.inj H
        go_wp2
        go_ret
        exact ⟨rA, bA⟩
       ·
        rw [if_neg c16] at H
        have c16b0 : (a1 == a2) = false := beq_eq_false_iff_ne.mpr c16
        have c16b1 : (a1 != a2) = true := bne_iff_ne.mpr c16
        by_cases c17 : a1 = a3
        ·
         rw [if_pos c17] at H
         have c17b0 : (a1 == a3) = true := beq_iff_eq.mpr c17
         have c17b1 : (a1 != a3) = false := bne_eq_false_iff_eq.mpr c17
         clear c17
         obtain rfl := Option.some.inj H
         go_wp2
         go_ret
         exact ⟨rA, bA⟩
        ·
         rw [if_neg c17] at H
         have c17b0 : (a1 == a3) = false := beq_eq_false_iff_ne.mpr c17
         have c17b1 : (a1 != a3) = true := bne_iff_ne.mpr c17
         by_cases c18 : a2 = a3
         ·
          rw [if_pos c18] at H
          have c18b0 : (a2 == a3) = true := beq_iff_eq.mpr c18
          have c18b1 : (a2 != a3) = false := bne_eq_false_iff_eq.mpr c18
          clear c18
          obtain rfl := Option.some.inj H
          go_wp2
          go_ret
          exact ⟨rA, bA⟩
         ·
          rw [if_neg c18] at H
          have c18b0 : (a2 == a3) = false := beq_eq_false_iff_ne.mpr c18
          have c18b1 : (a2 != a3) = true := bne_iff_ne.mpr c18
          obtain rfl := Option.some.inj H
          go_wp2
          go_ret
          exact ⟨rA, bA⟩

/-! ### impl_InPlace: function 153 -/
def impl_InPlace.f (a0 : Int) : Option (Int) := (impl_InRange.f a0 0 3).bind fun t305 => (if t305 = true then (some (wrap64 (2 * a0))) else (some (-1)))
set_option maxHeartbeats 8000000 in
set_option maxRecDepth 100000 in
theorem impl_InPlace.calls (a0 : Int) (r : Int) (w : World) (h : impl_InPlace.f a0 = some r) :
  Calls Try.prog 153 #[.int .i64 a0] w fun e w' => e = .returned (.int .i64 r) ∧ Drawn0 w w' := by
 have H : ((impl_InRange.f a0 0 3).bind fun t305 => (if t305 = true then (some (wrap64 (2 * a0))) else (some (-1)))) = some r := h
 clear h
 obtain ⟨t305, A2, H⟩ := bindE H
 try dsimp only at H
 by_cases c3 : t305 = true
 ·
  subst c3
  have H1 : (some (wrap64 (2 * a0))) = some r := by rw [if_pos rfl] at H; exact H
  clear H
  have H := H1
  clear H1
  obtain rfl := Option.some.inj H
  go_enter Try.func153, Try.ntmps153
  go_wp2_with (first | ((with_reducible refine gate_callee (f := 66) rfl ?_); refine gL (some 4) Try.func66 #[.int .i64 a0, .int .i64 0, .int .i64 3] ?_; (with_reducible refine (impl_InRange.calls a0 0 3 true _ A2.out).mono ?_); rintro e w' ⟨rfl, ⟨nd, rfl⟩⟩; refine ⟨_, rfl, ?_⟩))
  go_ret
  exact ⟨by first | rfl | (simp; done) | (simp [*]; done), by repeat (first | exact Drawn0.refl _ | apply Drawn0.step)⟩
 ·
  replace c3 := Bool.eq_false_iff.mpr c3
  subst c3
  have H1 : (some (-1)) = some r := by rw [if_neg (show ¬ (false = true) by decide)] at H; exact H
  clear H
  have H := H1
  clear H1
  obtain rfl := Option.some.inj H
  go_enter Try.func153, Try.ntmps153
  go_wp2_with (first | ((with_reducible refine gate_callee (f := 66) rfl ?_); refine gL (some 4) Try.func66 #[.int .i64 a0, .int .i64 0, .int .i64 3] ?_; (with_reducible refine (impl_InRange.calls a0 0 3 false _ A2.out).mono ?_); rintro e w' ⟨rfl, ⟨nd, rfl⟩⟩; refine ⟨_, rfl, ?_⟩))
  go_ret
  exact ⟨by first | rfl | (simp; done) | (simp [*]; done), by repeat (first | exact Drawn0.refl _ | apply Drawn0.step)⟩

/-! ### impl_OutPlace: function 154 -/
def impl_OutPlace.f (a0 : Int) : Option (Int) := (impl_InRange.f a0 0 3).bind fun t306 => (if t306 = true then (some (wrap64 ((wrap64 (2 * a0)) + 1))) else (some (-1)))
set_option maxHeartbeats 8000000 in
set_option maxRecDepth 100000 in
theorem impl_OutPlace.calls (a0 : Int) (r : Int) (w : World) (h : impl_OutPlace.f a0 = some r) :
  Calls Try.prog 154 #[.int .i64 a0] w fun e w' => e = .returned (.int .i64 r) ∧ Drawn0 w w' := by
 have H : ((impl_InRange.f a0 0 3).bind fun t306 => (if t306 = true then (some (wrap64 ((wrap64 (2 * a0)) + 1))) else (some (-1)))) = some r := h
 clear h
 obtain ⟨t306, A2, H⟩ := bindE H
 try dsimp only at H
 by_cases c3 : t306 = true
 ·
  subst c3
  have H1 : (some (wrap64 ((wrap64 (2 * a0)) + 1))) = some r := by rw [if_pos rfl] at H; exact H
  clear H
  have H := H1
  clear H1
  obtain rfl := Option.some.inj H
  go_enter Try.func154, Try.ntmps154
  go_wp2_with (first | ((with_reducible refine gate_callee (f := 66) rfl ?_); refine gL (some 4) Try.func66 #[.int .i64 a0, .int .i64 0, .int .i64 3] ?_; (with_reducible refine (impl_InRange.calls a0 0 3 true _ A2.out).mono ?_); rintro e w' ⟨rfl, ⟨nd, rfl⟩⟩; refine ⟨_, rfl, ?_⟩))
  go_ret
  exact ⟨by first | rfl | (simp; done) | (simp [*]; done), by repeat (first | exact Drawn0.refl _ | apply Drawn0.step)⟩
 ·
  replace c3 := Bool.eq_false_iff.mpr c3
  subst c3
  have H1 : (some (-1)) = some r := by rw [if_neg (show ¬ (false = true) by decide)] at H; exact H
  clear H
  have H := H1
  clear H1
  obtain rfl := Option.some.inj H
  go_enter Try.func154, Try.ntmps154
  go_wp2_with (first | ((with_reducible refine gate_callee (f := 66) rfl ?_); refine gL (some 4) Try.func66 #[.int .i64 a0, .int .i64 0, .int .i64 3] ?_; (with_reducible refine (impl_InRange.calls a0 0 3 false _ A2.out).mono ?_); rintro e w' ⟨rfl, ⟨nd, rfl⟩⟩; refine ⟨_, rfl, ?_⟩))
  go_ret
  exact ⟨by first | rfl | (simp; done) | (simp [*]; done), by repeat (first | exact Drawn0.refl _ | apply Drawn0.step)⟩

end Go.Proofs.Ytdkmmefmhfbgkaa.P
