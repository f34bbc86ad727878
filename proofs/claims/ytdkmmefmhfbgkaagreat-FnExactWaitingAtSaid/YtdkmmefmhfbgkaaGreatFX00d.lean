/- Printed by myprint.py (wip/tools) over the kit's print: what Go's functions compute, and that they do. Lean checks it. -/
import Derived.Test.YtdkmmefmhfbgkaaGreatF0
import Derived.Test.YtdkmmefmhfbgkaaGreatFX00
import Derived.Test.YtdkmmefmhfbgkaaGreatFX00b
import Derived.Test.YtdkmmefmhfbgkaaGreatFX00c
namespace Go.Proofs.YtdkmmefmhfbgkaaGreat.P
open Go.RowKit Go.Proofs.YtdkmmefmhfbgkaaGreatW.PrintWords Go.Proofs.YtdkmmefmhfbgkaaGreatW.PrintLast Go.Proofs.YtdkmmefmhfbgkaaGreatW.PrintMore Go.Proofs.YtdkmmefmhfbgkaaGreat.Sq
attribute [local go_sem] max2_int min2_int max_two min_two max_three min_three max_four min_four
set_option linter.unusedVariables false
set_option linter.unusedSimpArgs false

/-! ### impl_WaitingAt: function 12 -/
def impl_WaitingAt.l0 : Nat → List (S65) → Int → List Int → List Int → Int → Int → Option (List Int)
 | 0, _, _, _, _, _, _ => none
 | k + 1, x2, x3, x9, x16, x17, x18 => if x18 < x17 then (if 0 ≤ x18 then (if x18 < (x16.length : Int) then (if x18 < (x2.length : Int) then (if ((rd_T65 x2 x18).f1) ≤ x3 then (if (rd x16 x18) > x3 then (if x9.length < 17592186044416 then (impl_WaitingAt.l0 k x2 x3 (x9 ++ [(rd_T65 x2 x18).f0]) x16 x17 (wrap64 (x18 + 1))) else (none)) else (impl_WaitingAt.l0 k x2 x3 x9 x16 x17 (wrap64 (x18 + 1)))) else (impl_WaitingAt.l0 k x2 x3 x9 x16 x17 (wrap64 (x18 + 1)))) else (none)) else (none)) else (none)) else ((slices_Sort_int_int.f x9).bind fun t602 => ((slices_Compact_int_int.f t602).bind fun t603 => (some t603)))
def impl_WaitingAt.f (k : Nat) (l0 : List (S69)) (l1 : List (S72)) (l2 : List (S65)) (a3 : Int) : Option (List Int) := (impl_ServedAt.f k l0 l1 l2).bind fun t593 => (impl_WaitingAt.l0 k l2 a3 (([] : List Int)) t593 (t593.length : Int) 0)
theorem impl_WaitingAt.mono_l : ∀ k, (∀ y0 y1 y2 y3 y4 y5, LeO (impl_WaitingAt.l0 k y0 y1 y2 y3 y4 y5) (impl_WaitingAt.l0 (k + 1) y0 y1 y2 y3 y4 y5))
 | 0 => fun _ _ _ _ _ _ r h => by simp [impl_WaitingAt.l0] at h
 | k + 1 => by
  have ih0 := impl_WaitingAt.mono_l k
  ·
   intro y0 y1 y2 y3 y4 y5
   unfold impl_WaitingAt.l0
   exact mz2 ih0 impl_ServedAt.mono
theorem impl_WaitingAt.mono : ∀ a0 a1 a2 a3 k, LeO (impl_WaitingAt.f k a0 a1 a2 a3) (impl_WaitingAt.f (k + 1) a0 a1 a2 a3) := by
 intro a0 a1 a2 a3 k
 have ih0 := impl_WaitingAt.mono_l k
 unfold impl_WaitingAt.f
 exact mz2 ih0 impl_ServedAt.mono
set_option maxHeartbeats 8000000 in
set_option maxRecDepth 100000 in
theorem impl_WaitingAt.calls (k : Nat) (A0 : Option Addr) (c0 : Nat) (l0 : List (S69)) (A1 : Option Addr) (c1 : Nat) (l1 : List (S72)) (A2 : Option Addr) (c2 : Nat) (l2 : List (S65)) (a3 : Int) (r : List Int) (w : World) (hr0 : Kd.C k69 w A0 l0.length l0) (hc0 : l0.length ≤ c0) (hr1 : Kd.C k72 w A1 l1.length l1) (hc1 : l1.length ≤ c1) (hr2 : Kd.C k65 w A2 l2.length l2) (hc2 : l2.length ≤ c2) (h : impl_WaitingAt.f k l0 l1 l2 a3 = some r) :
  Calls Tryz.prog 12 #[.slice A0 l0.length c0, .slice A1 l1.length c1, .slice A2 l2.length c2, .int .i64 a3] w fun e w' => ∃ v0_ : Value, e = .returned (v0_) ∧ Kd.R (Kd.int .i64) 3 w' w.heap.size (fun _ => True) v0_ r ∧ Below w.heap.size w w' := by
 have HR0 := Aside0.mk hr0
 have HC0 := Aside0.mk hc0
 clear hr0 hc0
 have HR1 := Aside0.mk hr1
 have HC1 := Aside0.mk hc1
 clear hr1 hc1
 have HR2 := Aside0.mk hr2
 have HC2 := Aside0.mk hc2
 clear hr2 hc2
 have HB := Aside0.mk (Below.refl w.heap.size w)
 have H : ((impl_ServedAt.f k l0 l1 l2).bind fun t593 => (impl_WaitingAt.l0 k l2 a3 (([] : List Int)) t593 (t593.length : Int) 0)) = some r := h
 clear h
 obtain ⟨y590, hy590⟩ : ∃ y_ : List Int, y_ = (([] : List Int)) := ⟨_, rfl⟩
 replace H : ((impl_ServedAt.f k l0 l1 l2).bind fun t593 => (impl_WaitingAt.l0 k l2 a3 y590 t593 (t593.length : Int) 0)) = some r := rH H hy590
 have Ny590 := Aside0.mk hy590
 clear hy590
 obtain ⟨t593, A5, H⟩ := bindE H
 try dsimp only at H
 have H' := Aside0.mk H
 clear H
 go_enter Tryz.func12, Tryz.ntmps12
 go_wp2_with (first | ((with_reducible refine gate_dst (N := 12) rfl ?_); refine Kd.R_lit (Kd.int .i64) _ 3 ?hg (N := 12) ?hd (xs := ([] : List Int)) (inner := []) (ok := fun _ => True) (okp := fun _ => True) ?hr ?hp (fun _ hk => hk) trivial (Below.refl _ _) (Nat.le_refl _) (by simp) ?_; (case hd => rfl); (case hg => rfl); (case hr => first | (go_simp; done) | (go_simp; rfl)); (case hp => exact (Reps.none _ _)); intro v591 w6 ho7 hb hg_ hnew_; clear hg_ hnew_; (first | rw [← Ny590.out] at ho7 | (simp only [Int.reduceToNat] at ho7; rw [← Ny590.out] at ho7)); have HO592 := rl w ho7; replace HB := bs HB hb; clear hb ho7) | ((with_reducible refine gate_callee (f := 40) rfl ?_); refine gL (some 16) Tryz.func40 #[.slice A0 l0.length c0, .slice A1 l1.length c1, .slice A2 l2.length c2] ?_; (with_reducible refine (impl_ServedAt.calls k _ _ l0 _ _ l1 _ _ l2 t593 _ ?_ ?_ ?_ ?_ ?_ ?_ A5.out).mono ?_); exact cB HR0; exact HC0.out; exact cB HR1; exact HC1.out; exact cB HR2; exact HC2.out; rintro e w8 ⟨v594, rfl, ho0, hb⟩; refine ⟨_, rfl, ?_⟩; have HO595 := rl w (rn ho0 HO592); replace HO592 := re HO592 ho0 hb; replace HB := bs HB hb; (try clear hb); (try clear ho0); obtain ⟨Ao9, co9, eo9⟩ := Kd.R_slice HO595.out; subst eo9))
 go_loopg [9, 18] k (fun kq v9 v18 w' => ∃ (x9_1 : List Int) (x18_1 : Int), v18 = .int .i64 x18_1 ∧ Aside0 (impl_WaitingAt.l0 kq l2 a3 x9_1 t593 (t593.length : Int) x18_1 = some r) ∧ Aside0 (kq ≤ k) ∧ Aside0 (Kd.R (Kd.int .i64) 3 w' w.heap.size (n1 (.slice Ao9 t593.length co9)) v9 x9_1) ∧ Aside0 (Kd.R (Kd.int .i64) 3 w' w.heap.size (n1 v9) (.slice Ao9 t593.length co9) t593) ∧ Aside0 (Below w.heap.size w w'))
 case atStart => exact ⟨(y590), (0), rS, H', ⟨Nat.le_refl _⟩, ⟨rm HO592 (fun _ hk => hk.2)⟩, ⟨rm HO595 (fun _ hk => hk.2)⟩, ⟨bA⟩⟩
 case round =>
  clear H'
  obtain ⟨x9_1, x18_1, rfl, HA, HK1, HO_9, HO_16, HB⟩ := hrel
  cases gk with
  | zero => exact absurd HA.out (by simp [impl_WaitingAt.l0])
  | succ k1 =>
   have H := HA.out
   clear HA
   simp only [impl_WaitingAt.l0] at H
   by_cases c10 : x18_1 < (t593.length : Int)
   ·
    rw [if_pos c10] at H
    have c10b0 := decide_eq_true c10
    clear c10
    have c11 : 0 ≤ x18_1 := ifN H
    replace H := ifT H
    have c11b0 := decide_eq_true c11
    clear c11
    have c12 : x18_1 < (t593.length : Int) := ifN H
    replace H := ifT H
    have c12b0 := decide_eq_true c12
    clear c12
    have c13 : x18_1 < (l2.length : Int) := ifN H
    replace H := ifT H
    have c13b0 := decide_eq_true c13
    clear c13
    by_cases c14 : ((rd_T65 l2 x18_1).f1) ≤ a3
    ·
     rw [if_pos c14] at H
     have c14b0 := decide_eq_true c14
     clear c14
     by_cases c15 : (rd t593 x18_1) > a3
     ·
      rw [if_pos c15] at H
      have c15b0 := decide_eq_true c15
      clear c15
      have c16 : x9_1.length < 17592186044416 := ifN H
      replace H := ifT H
      have LMc16 := Aside0.mk c16
      clear c16
      obtain ⟨y599, hy599⟩ : ∃ y_ : List Int, y_ = (x9_1 ++ [(rd_T65 l2 x18_1).f0]) := ⟨_, rfl⟩
      replace H : (impl_WaitingAt.l0 k1 l2 a3 y599 t593 (t593.length : Int) (wrap64 (x18_1 + 1))) = some r := rH H hy599
      have Ny599 := Aside0.mk hy599
      clear hy599
      have H' := Aside0.mk H
      clear H
      obtain ⟨p596, q596⟩ : 0 ≤ (x18_1 : Int) ∧ x18_1 < (t593.length : Int) := ⟨dA, dA⟩
      obtain ⟨ad596, e596, hx596_0⟩ := Kd.at_int (Kd.R_reads' HO_16.out).2.2 x18_1 p596 q596
      cases e596
      obtain ⟨p596, q596⟩ := eT p596 q596
      obtain ⟨p597, q597⟩ : 0 ≤ (x18_1 : Int) ∧ x18_1 < (l2.length : Int) := ⟨dA, dA⟩
      obtain ⟨ad597, e597, hx597_0, hx597_1⟩ := at_T65 (Kd.C_below HR2.out HB.out) x18_1 p597 q597
      cases e597
      obtain ⟨p597, q597⟩ := eT p597 q597
      obtain ⟨p598, q598⟩ : 0 ≤ (x18_1 : Int) ∧ x18_1 < (l2.length : Int) := ⟨dA, dA⟩
      obtain ⟨ad598, e598, hx598_0, hx598_1⟩ := at_T65 (Kd.C_below HR2.out HB.out) x18_1 p598 q598
      obtain rfl : ad597 = ad598 := (by injection e598)
      obtain ⟨p598, q598⟩ := eT p598 q598
      go_wp2_with (first | ((with_reducible refine gate_builtin (b := .append) (xs := #[.tmp 35, .tmp 41]) rfl ?_); at_builtin; refine Kd.R_append (Kd.int .i64) (w0 := w) w.heap.size rfl (.tmp 35) (.tmp 41) 28 3 (.int .i64 0) 8 rfl Tryz.underlying28 info3 rfl (by decide) (by omega) u9 x9_1 ((rd_T65 l2 x18_1).f0) [.int .i64 ((rd_T65 l2 x18_1).f0)] (n1 (.slice (some ad596) t593.length co9)) (fun _ => False) rfl rfl ?aP (fun _ hk => hk.elim) ?aF ?aO ?aB ?aS ?aL ?_; (case aP => exact rfl); (case aB => exact bA); (case aF => exact (fun k_ hk => Kd.fresh' (Kd.R_lt (rK HO_16)) k_ hk)); (case aO => exact (rK HO_9)); (case aS => exact (below_size bA)); (case aL => have := LMc16.out; omega); intro v600 w17 ho hb hg hat; rw [← Ny599.out] at ho; have n0_ := Aside0.mk (Kd.R_after (ok := (fun _ => True)) (rm HO_16 (fun _ hk => ⟨trivial, hk⟩)) hg hat); have n1_ := Aside0.mk (hb); have n2_ := Aside0.mk (ho); clear HO_16; clear HB; clear HO_9; have HO_16 := n0_; have HB := n1_; have HO601 := n2_; clear n0_ n1_ n2_; clear ho hb hg hat))
      go_roundg k1
      case measure => have := HK1.out; omega
      case rel => exact ⟨(y599), (wrap64 (x18_1 + 1)), rS, H', ⟨by have := HK1.out; omega⟩, ⟨rK HO601⟩, ⟨rm HO_16 (fun _ hk => hk.2)⟩, ⟨bA⟩⟩
     rw [if_neg c15] at H
     have c15b0 := decide_eq_false c15
     clear c15
     have H' := Aside0.mk H
     clear H
     obtain ⟨p596, q596⟩ : 0 ≤ (x18_1 : Int) ∧ x18_1 < (t593.length : Int) := ⟨dA, dA⟩
     obtain ⟨ad596, e596, hx596_0⟩ := Kd.at_int (Kd.R_reads' HO_16.out).2.2 x18_1 p596 q596
     cases e596
     obtain ⟨p596, q596⟩ := eT p596 q596
     obtain ⟨p597, q597⟩ : 0 ≤ (x18_1 : Int) ∧ x18_1 < (l2.length : Int) := ⟨dA, dA⟩
     obtain ⟨ad597, e597, hx597_0, hx597_1⟩ := at_T65 (Kd.C_below HR2.out HB.out) x18_1 p597 q597
     cases e597
     obtain ⟨p597, q597⟩ := eT p597 q597
     go_wp2
     go_roundg k1
     case measure => have := HK1.out; omega
     case rel => exact ⟨(x9_1), (wrap64 (x18_1 + 1)), rS, H', ⟨by have := HK1.out; omega⟩, ⟨rK HO_9⟩, ⟨rK HO_16⟩, ⟨bA⟩⟩
    rw [if_neg c14] at H
    have c14b0 := decide_eq_false c14
    clear c14
    have H' := Aside0.mk H
    clear H
    obtain ⟨p596, q596⟩ : 0 ≤ (x18_1 : Int) ∧ x18_1 < (t593.length : Int) := ⟨dA, dA⟩
    obtain ⟨ad596, e596, hx596_0⟩ := Kd.at_int (Kd.R_reads' HO_16.out).2.2 x18_1 p596 q596
    cases e596
    obtain ⟨p596, q596⟩ := eT p596 q596
    obtain ⟨p597, q597⟩ : 0 ≤ (x18_1 : Int) ∧ x18_1 < (l2.length : Int) := ⟨dA, dA⟩
    obtain ⟨ad597, e597, hx597_0, hx597_1⟩ := at_T65 (Kd.C_below HR2.out HB.out) x18_1 p597 q597
    cases e597
    obtain ⟨p597, q597⟩ := eT p597 q597
    go_wp2
    go_roundg k1
    case measure => have := HK1.out; omega
    case rel => exact ⟨(x9_1), (wrap64 (x18_1 + 1)), rS, H', ⟨by have := HK1.out; omega⟩, ⟨rK HO_9⟩, ⟨rK HO_16⟩, ⟨bA⟩⟩
   rw [if_neg c10] at H
   have c10b0 := decide_eq_false c10
   clear c10
   obtain ⟨t602, A18, H⟩ := bindE H
   try dsimp only at H
   obtain ⟨t603, A19, H⟩ := bindE H
   try dsimp only at H
   obtain rfl := Option.some.inj H
   obtain ⟨Ao20, co20, eo20⟩ := Kd.R_slice HO_9.out
   subst eo20
   go_wp2_with (first | ((with_reducible refine gate_callee (f := 41) rfl ?_); refine gL (some 45) Tryz.func41 #[.slice Ao20 x9_1.length co20] ?_; (with_reducible refine (slices_Sort_int_int.calls (fun k_ => some k_ = (.slice Ao20 x9_1.length co20 : Value).ownBlock) (.slice Ao20 x9_1.length co20) x9_1 t602 w _ ?_ ?_ A18.out).mono ?_); (focus repeat (first | (with_reducible first | exact HB.out | apply below_alloc | apply pw_below_drewN | apply below_drew1) | exact HB.out)); exact Kd.R_tight rfl HO_9.out; rintro e w21 ⟨rfl, hy0, hb, hkp⟩; refine ⟨_, rfl, ?_⟩; replace HO_9 := Aside0.mk (Kd.R_reok rfl hy0 (fun k_ e_ => HO_9.out.1 k_ e_)); replace HO_16 := Aside0.mk (Kd.R_kept HO_16.out hkp (fun k_ hk_ hs_ => (hk_) hs_)); replace HB := Aside0.mk (hb); (try clear hb); (try clear hkp); (try clear hy0)) | ((with_reducible refine gate_callee (f := 42) rfl ?_); refine gL (some 47) Tryz.func42 #[.slice Ao20 x9_1.length co20] ?_; (with_reducible refine (slices_Compact_int_int.calls (fun k_ => some k_ = (.slice Ao20 x9_1.length co20 : Value).ownBlock) (.slice Ao20 x9_1.length co20) t602 t603 w _ ?_ ?_ A19.out).mono ?_); (focus repeat (first | (with_reducible first | exact HB.out | apply below_alloc | apply pw_below_drewN | apply below_drew1) | exact HB.out)); exact Kd.R_tight rfl HO_9.out; rintro e w22 ⟨v604, rfl, ho0, hb, hkp⟩; refine ⟨_, rfl, ?_⟩; have n0_ := Aside0.mk (Kd.R_mono (ok' := n1 v604) (Kd.R_keptB (HO_16.out) hkp (fun k_ hk_ hs_ => (hk_) hs_)) (fun k_ hk_ => fun e_ => Or.elim (ho0.1 k_ e_.symm) (fun hs_ => hk_.2.1 hs_) (fun hn_ => Nat.not_le.2 hk_.2.2 hn_))); have n1_ := Aside0.mk (Kd.R_mono (ok' := n1 (.slice Ao9 t593.length co9)) ho0 (fun k_ hk_ => Or.elim hk_ (fun hs_ => fun e_ => (((HO_16.out).1 k_ e_.symm)) hs_) (fun hn_ => (Kd.fresh' (Kd.R_lt (rK HO_16)) k_ hn_)))); have n2_ := Aside0.mk (hb); clear HO_16; clear HB; clear HO_9; have HO_16 := n0_; have HO605 := n1_; have HB := n2_; clear n0_ n1_ n2_; (try clear hb); (try clear hkp); (try clear ho0)))
   go_ret
   exact ⟨_, rA, rm HO605 (fun _ hk => trivial), bA⟩

/-! ### laws_eqIntS: function 13 -/
def laws_eqIntS.l0 : Nat → List Int → List Int → Int → Option (Bool)
 | 0, _, _, _ => none
 | k + 1, x0, x1, x5 => if x5 < (x0.length : Int) then (if 0 ≤ x5 then (if x5 < (x1.length : Int) then (if (rd x0 x5) = (rd x1 x5) then (laws_eqIntS.l0 k x0 x1 (wrap64 (x5 + 1))) else (some false)) else (none)) else (none)) else (some true)
def laws_eqIntS.f (k : Nat) (l0 : List Int) (l1 : List Int) : Option (Bool) := if (l0.length : Int) = (l1.length : Int) then (laws_eqIntS.l0 k l0 l1 0) else (some false)
theorem laws_eqIntS.mono_l : ∀ k, (∀ y0 y1 y2, LeO (laws_eqIntS.l0 k y0 y1 y2) (laws_eqIntS.l0 (k + 1) y0 y1 y2))
 | 0 => fun _ _ _ r h => by simp [laws_eqIntS.l0] at h
 | k + 1 => by
  have ih0 := laws_eqIntS.mono_l k
  ·
   intro y0 y1 y2
   unfold laws_eqIntS.l0
   exact mz1 ih0
theorem laws_eqIntS.mono : ∀ a0 a1 k, LeO (laws_eqIntS.f k a0 a1) (laws_eqIntS.f (k + 1) a0 a1) := by
 intro a0 a1 k
 have ih0 := laws_eqIntS.mono_l k
 unfold laws_eqIntS.f
 exact mz1 ih0
set_option maxHeartbeats 8000000 in
set_option maxRecDepth 100000 in
theorem laws_eqIntS.calls (k : Nat) (A0 : Option Addr) (c0 : Nat) (l0 : List Int) (A1 : Option Addr) (c1 : Nat) (l1 : List Int) (r : Bool) (w : World) (hr0 : Kd.C (Kd.int .i64) w A0 l0.length l0) (hc0 : l0.length ≤ c0) (hr1 : Kd.C (Kd.int .i64) w A1 l1.length l1) (hc1 : l1.length ≤ c1) (h : laws_eqIntS.f k l0 l1 = some r) :
  Calls Tryz.prog 13 #[.slice A0 l0.length c0, .slice A1 l1.length c1] w fun e w' => e = .returned (.bool r) ∧ Drawn0 w w' := by
 have HR0 := Aside0.mk hr0
 have HC0 := Aside0.mk hc0
 clear hr0 hc0
 have HR1 := Aside0.mk hr1
 have HC1 := Aside0.mk hc1
 clear hr1 hc1
 have H : (if (l0.length : Int) = (l1.length : Int) then (laws_eqIntS.l0 k l0 l1 0) else (some false)) = some r := h
 clear h
 by_cases c3 : (l0.length : Int) = (l1.length : Int)
 ·
  rw [if_pos c3] at H
  have c3b0 : ((l0.length : Int) == (l1.length : Int)) = true := beq_iff_eq.mpr c3
  have c3b1 : ((l0.length : Int) != (l1.length : Int)) = false := bne_eq_false_iff_eq.mpr c3
  have c3b2 : (l0.length == l1.length) = true := by first | simpa using c3 | (simp at c3 ⊢; omega)
  clear c3
  have H' := Aside0.mk H
  clear H
  go_enter Tryz.func13, Tryz.ntmps13
  go_wp2
  repeat (go_quiet (fail); try go_wp2)
  go_loopg [5] k (fun kq v5 w' => ∃ (x5_1 : Int), v5 = .int .i64 x5_1 ∧ Aside0 (laws_eqIntS.l0 kq l0 l1 x5_1 = some r) ∧ Aside0 (kq ≤ k) ∧ Drawn0 w w')
  case atStart => exact ⟨(0), rS, H', ⟨Nat.le_refl _⟩, by repeat (first | exact Drawn0.refl _ | apply Drawn0.step)⟩
  case round =>
   clear H'
   obtain ⟨x5_1, rfl, HA, HK1, ⟨m1, rfl⟩⟩ := hrel
   cases gk with
   | zero => exact absurd HA.out (by simp [laws_eqIntS.l0])
   | succ k1 =>
    have H := HA.out
    clear HA
    simp only [laws_eqIntS.l0] at H
    by_cases c4 : x5_1 < (l0.length : Int)
    ·
     rw [if_pos c4] at H
     have c4b0 := decide_eq_true c4
     clear c4
     have c5 : 0 ≤ x5_1 := ifN H
     replace H := ifT H
     have c5b0 := decide_eq_true c5
     clear c5
     have c6 : x5_1 < (l1.length : Int) := ifN H
     replace H := ifT H
     have c6b0 := decide_eq_true c6
     clear c6
     by_cases c7 : (rd l0 x5_1) = (rd l1 x5_1)
     ·
      rw [if_pos c7] at H
      have c7b0 : ((rd l0 x5_1) == (rd l1 x5_1)) = true := beq_iff_eq.mpr c7
      have c7b1 : ((rd l0 x5_1) != (rd l1 x5_1)) = false := bne_eq_false_iff_eq.mpr c7
      clear c7
      have H' := Aside0.mk H
      clear H
      obtain ⟨p606, q606⟩ : 0 ≤ (x5_1 : Int) ∧ x5_1 < (l0.length : Int) := ⟨dA, dA⟩
      obtain ⟨ad606, e606, hx606_0⟩ := Kd.at_int HR0.out x5_1 p606 q606
      cases e606
      obtain ⟨p606, q606⟩ := eT p606 q606
      obtain ⟨p607, q607⟩ : 0 ≤ (x5_1 : Int) ∧ x5_1 < (l1.length : Int) := ⟨dA, dA⟩
      obtain ⟨ad607, e607, hx607_0⟩ := Kd.at_int HR1.out x5_1 p607 q607
      cases e607
      obtain ⟨p607, q607⟩ := eT p607 q607
      go_wp2
      repeat (go_quiet (fail); try go_wp2)
      go_roundg k1
      case measure => have := HK1.out; omega
      case rel => exact ⟨(wrap64 (x5_1 + 1)), rS, H', ⟨by have := HK1.out; omega⟩, by repeat (first | exact Drawn0.refl _ | apply Drawn0.step)⟩
     rw [if_neg c7] at H
     have c7b0 : ((rd l0 x5_1) == (rd l1 x5_1)) = false := beq_eq_false_iff_ne.mpr c7
     have c7b1 : ((rd l0 x5_1) != (rd l1 x5_1)) = true := bne_iff_ne.mpr c7
     obtain rfl := Option.some.inj H
     obtain ⟨p606, q606⟩ : 0 ≤ (x5_1 : Int) ∧ x5_1 < (l0.length : Int) := ⟨dA, dA⟩
     obtain ⟨ad606, e606, hx606_0⟩ := Kd.at_int HR0.out x5_1 p606 q606
     cases e606
     obtain ⟨p606, q606⟩ := eT p606 q606
     obtain ⟨p607, q607⟩ : 0 ≤ (x5_1 : Int) ∧ x5_1 < (l1.length : Int) := ⟨dA, dA⟩
     obtain ⟨ad607, e607, hx607_0⟩ := Kd.at_int HR1.out x5_1 p607 q607
     cases e607
     obtain ⟨p607, q607⟩ := eT p607 q607
     go_wp2
     repeat (go_quiet (fail); try go_wp2)
     go_ret
     exact ⟨rS, dD⟩
    rw [if_neg c4] at H
    have c4b0 := decide_eq_false c4
    clear c4
    obtain rfl := Option.some.inj H
    go_wp2
    repeat (go_quiet (fail); try go_wp2)
    go_ret
    exact ⟨rS, dD⟩
 rw [if_neg c3] at H
 have c3b0 : ((l0.length : Int) == (l1.length : Int)) = false := beq_eq_false_iff_ne.mpr c3
 have c3b1 : ((l0.length : Int) != (l1.length : Int)) = true := bne_iff_ne.mpr c3
 have c3b2 : (l0.length == l1.length) = false := by first | simpa using c3 | (simp at c3 ⊢; omega)
 obtain rfl := Option.some.inj H
 go_enter Tryz.func13, Tryz.ntmps13
 go_wp2
 repeat (go_quiet (fail); try go_wp2)
 go_ret
 exact ⟨rS, dD⟩

/-! ### laws_eqPath: function 43 -/
def laws_eqPath.f (a0_0 : Int) (a0_1 : Int) (a0_2 : Int) (a0_3 : Int) (a1_0 : Int) (a1_1 : Int) (a1_2 : Int) (a1_3 : Int) : Option (Bool) := if a0_0 = a1_0 then (if a0_1 = a1_1 then (if a0_2 = a1_2 then (if a0_3 = a1_3 then (some true) else (some false)) else (some false)) else (some false)) else (some false)
set_option maxHeartbeats 8000000 in
set_option maxRecDepth 100000 in
theorem laws_eqPath.calls (a0_0 : Int) (a0_1 : Int) (a0_2 : Int) (a0_3 : Int) (a1_0 : Int) (a1_1 : Int) (a1_2 : Int) (a1_3 : Int) (r : Bool) (w : World) (h : laws_eqPath.f a0_0 a0_1 a0_2 a0_3 a1_0 a1_1 a1_2 a1_3 = some r) :
  Calls Tryz.prog 43 #[.agg #[.int .i64 a0_0, .int .i64 a0_1, .int .i64 a0_2, .int .i64 a0_3], .agg #[.int .i64 a1_0, .int .i64 a1_1, .int .i64 a1_2, .int .i64 a1_3]] w fun e w' => e = .returned (.bool r) ∧ Below w.heap.size w w' := by
 have hu69 := Tryz.underlying69
 have HB := Aside0.mk (Below.refl w.heap.size w)
 have H : (if a0_0 = a1_0 then (if a0_1 = a1_1 then (if a0_2 = a1_2 then (if a0_3 = a1_3 then (some true) else (some false)) else (some false)) else (some false)) else (some false)) = some r := h
 clear h
 by_cases c3 : a0_0 = a1_0
 ·
  rw [if_pos c3] at H
  have c3b0 : (a0_0 == a1_0) = true := beq_iff_eq.mpr c3
  have c3b1 : (a0_0 != a1_0) = false := bne_eq_false_iff_eq.mpr c3
  clear c3
  by_cases c4 : a0_1 = a1_1
  ·
   rw [if_pos c4] at H
   have c4b0 : (a0_1 == a1_1) = true := beq_iff_eq.mpr c4
   have c4b1 : (a0_1 != a1_1) = false := bne_eq_false_iff_eq.mpr c4
   clear c4
   by_cases c5 : a0_2 = a1_2
   ·
    rw [if_pos c5] at H
    have c5b0 : (a0_2 == a1_2) = true := beq_iff_eq.mpr c5
    have c5b1 : (a0_2 != a1_2) = false := bne_eq_false_iff_eq.mpr c5
    clear c5
    by_cases c6 : a0_3 = a1_3
    ·
     rw [if_pos c6] at H
     have c6b0 : (a0_3 == a1_3) = true := beq_iff_eq.mpr c6
     have c6b1 : (a0_3 != a1_3) = false := bne_eq_false_iff_eq.mpr c6
     clear c6
     obtain rfl := Option.some.inj H
     go_enter Tryz.func43, Tryz.ntmps43
     go_wp2_with (first | ((with_reducible refine gate_dst (N := 2) rfl ?_); refine bE (N := 2) (cs := #[.int .i64 a0_0, .int .i64 a0_1, .int .i64 a0_2, .int .i64 a0_3]) (t := 69) ?_; intro gb608 hg w7 hbox hb; have BK608 := Aside0.mk (hbox); have GW608 := gw w hg; have GE608 := gw w hg; replace HB := bs HB hb; clear hb hbox hg) | ((with_reducible refine gate_dst (N := 3) rfl ?_); refine bE (N := 3) (cs := #[.int .i64 a1_0, .int .i64 a1_1, .int .i64 a1_2, .int .i64 a1_3]) (t := 69) ?_; intro gb609 hg w8 hbox hb; have BK609 := Aside0.mk (hbox); have GW609 := gw w hg; have GE609 := gw w hg; replace HB := bs HB hb; have NB608_609 := nl BK608 hg; have NB609_608 := nr BK608 hg; replace BK608 := kb BK608 hb; clear hb hbox hg; have hnb9 := NB608_609.out; have hnc9 := NB609_608.out; obtain ⟨_, _, _, _, _, _, _, _⟩ := blkc4 BK608; obtain ⟨_, _, _, _, _, _, _, _⟩ := blkc4 BK609))
     go_ret
     exact ⟨rA, bG⟩
    rw [if_neg c6] at H
    have c6b0 : (a0_3 == a1_3) = false := beq_eq_false_iff_ne.mpr c6
    have c6b1 : (a0_3 != a1_3) = true := bne_iff_ne.mpr c6
    obtain rfl := Option.some.inj H
    go_enter Tryz.func43, Tryz.ntmps43
    go_wp2_with (first | ((with_reducible refine gate_dst (N := 2) rfl ?_); refine bE (N := 2) (cs := #[.int .i64 a0_0, .int .i64 a0_1, .int .i64 a0_2, .int .i64 a0_3]) (t := 69) ?_; intro gb608 hg w12 hbox hb; have BK608 := Aside0.mk (hbox); have GW608 := gw w hg; have GE608 := gw w hg; replace HB := bs HB hb; clear hb hbox hg) | ((with_reducible refine gate_dst (N := 3) rfl ?_); refine bE (N := 3) (cs := #[.int .i64 a1_0, .int .i64 a1_1, .int .i64 a1_2, .int .i64 a1_3]) (t := 69) ?_; intro gb609 hg w13 hbox hb; have BK609 := Aside0.mk (hbox); have GW609 := gw w hg; have GE609 := gw w hg; replace HB := bs HB hb; have NB608_609 := nl BK608 hg; have NB609_608 := nr BK608 hg; replace BK608 := kb BK608 hb; clear hb hbox hg; have hnb14 := NB608_609.out; have hnc14 := NB609_608.out; obtain ⟨_, _, _, _, _, _, _, _⟩ := blkc4 BK608; obtain ⟨_, _, _, _, _, _, _, _⟩ := blkc4 BK609))
    go_ret
    exact ⟨rA, bG⟩
   rw [if_neg c5] at H
   have c5b0 : (a0_2 == a1_2) = false := beq_eq_false_iff_ne.mpr c5
   have c5b1 : (a0_2 != a1_2) = true := bne_iff_ne.mpr c5
   obtain rfl := Option.some.inj H
   go_enter Tryz.func43, Tryz.ntmps43
   go_wp2_with (first | ((with_reducible refine gate_dst (N := 2) rfl ?_); refine bE (N := 2) (cs := #[.int .i64 a0_0, .int .i64 a0_1, .int .i64 a0_2, .int .i64 a0_3]) (t := 69) ?_; intro gb608 hg w17 hbox hb; have BK608 := Aside0.mk (hbox); have GW608 := gw w hg; have GE608 := gw w hg; replace HB := bs HB hb; clear hb hbox hg) | ((with_reducible refine gate_dst (N := 3) rfl ?_); refine bE (N := 3) (cs := #[.int .i64 a1_0, .int .i64 a1_1, .int .i64 a1_2, .int .i64 a1_3]) (t := 69) ?_; intro gb609 hg w18 hbox hb; have BK609 := Aside0.mk (hbox); have GW609 := gw w hg; have GE609 := gw w hg; replace HB := bs HB hb; have NB608_609 := nl BK608 hg; have NB609_608 := nr BK608 hg; replace BK608 := kb BK608 hb; clear hb hbox hg; have hnb19 := NB608_609.out; have hnc19 := NB609_608.out; obtain ⟨_, _, _, _, _, _, _, _⟩ := blkc4 BK608; obtain ⟨_, _, _, _, _, _, _, _⟩ := blkc4 BK609))
   go_ret
   exact ⟨rA, bG⟩
  rw [if_neg c4] at H
  have c4b0 : (a0_1 == a1_1) = false := beq_eq_false_iff_ne.mpr c4
  have c4b1 : (a0_1 != a1_1) = true := bne_iff_ne.mpr c4
  obtain rfl := Option.some.inj H
  go_enter Tryz.func43, Tryz.ntmps43
  go_wp2_with (first | ((with_reducible refine gate_dst (N := 2) rfl ?_); refine bE (N := 2) (cs := #[.int .i64 a0_0, .int .i64 a0_1, .int .i64 a0_2, .int .i64 a0_3]) (t := 69) ?_; intro gb608 hg w22 hbox hb; have BK608 := Aside0.mk (hbox); have GW608 := gw w hg; have GE608 := gw w hg; replace HB := bs HB hb; clear hb hbox hg) | ((with_reducible refine gate_dst (N := 3) rfl ?_); refine bE (N := 3) (cs := #[.int .i64 a1_0, .int .i64 a1_1, .int .i64 a1_2, .int .i64 a1_3]) (t := 69) ?_; intro gb609 hg w23 hbox hb; have BK609 := Aside0.mk (hbox); have GW609 := gw w hg; have GE609 := gw w hg; replace HB := bs HB hb; have NB608_609 := nl BK608 hg; have NB609_608 := nr BK608 hg; replace BK608 := kb BK608 hb; clear hb hbox hg; have hnb24 := NB608_609.out; have hnc24 := NB609_608.out; obtain ⟨_, _, _, _, _, _, _, _⟩ := blkc4 BK608; obtain ⟨_, _, _, _, _, _, _, _⟩ := blkc4 BK609))
  go_ret
  exact ⟨rA, bG⟩
 rw [if_neg c3] at H
 have c3b0 : (a0_0 == a1_0) = false := beq_eq_false_iff_ne.mpr c3
 have c3b1 : (a0_0 != a1_0) = true := bne_iff_ne.mpr c3
 obtain rfl := Option.some.inj H
 go_enter Tryz.func43, Tryz.ntmps43
 go_wp2_with (first | ((with_reducible refine gate_dst (N := 2) rfl ?_); refine bE (N := 2) (cs := #[.int .i64 a0_0, .int .i64 a0_1, .int .i64 a0_2, .int .i64 a0_3]) (t := 69) ?_; intro gb608 hg w27 hbox hb; have BK608 := Aside0.mk (hbox); have GW608 := gw w hg; have GE608 := gw w hg; replace HB := bs HB hb; clear hb hbox hg) | ((with_reducible refine gate_dst (N := 3) rfl ?_); refine bE (N := 3) (cs := #[.int .i64 a1_0, .int .i64 a1_1, .int .i64 a1_2, .int .i64 a1_3]) (t := 69) ?_; intro gb609 hg w28 hbox hb; have BK609 := Aside0.mk (hbox); have GW609 := gw w hg; have GE609 := gw w hg; replace HB := bs HB hb; have NB608_609 := nl BK608 hg; have NB609_608 := nr BK608 hg; replace BK608 := kb BK608 hb; clear hb hbox hg; have hnb29 := NB608_609.out; have hnc29 := NB609_608.out; obtain ⟨_, _, _, _, _, _, _, _⟩ := blkc4 BK608; obtain ⟨_, _, _, _, _, _, _, _⟩ := blkc4 BK609))
 go_ret
 exact ⟨rA, bG⟩

/-! ### laws_eqPathS: function 14 -/
def laws_eqPathS.l0 : Nat → List (S69) → List (S69) → Int → Option (Bool)
 | 0, _, _, _ => none
 | k + 1, x0, x1, x5 => if x5 < (x0.length : Int) then (if 0 ≤ x5 then (if x5 < (x1.length : Int) then ((laws_eqPath.f ((rd_T69 x0 x5).f0) ((rd_T69 x0 x5).f1) ((rd_T69 x0 x5).f2) ((rd_T69 x0 x5).f3) ((rd_T69 x1 x5).f0) ((rd_T69 x1 x5).f1) ((rd_T69 x1 x5).f2) ((rd_T69 x1 x5).f3)).bind fun t612 => (if t612 = true then (laws_eqPathS.l0 k x0 x1 (wrap64 (x5 + 1))) else (some false))) else (none)) else (none)) else (some true)
def laws_eqPathS.f (k : Nat) (l0 : List (S69)) (l1 : List (S69)) : Option (Bool) := if (l0.length : Int) = (l1.length : Int) then (laws_eqPathS.l0 k l0 l1 0) else (some false)
theorem laws_eqPathS.mono_l : ∀ k, (∀ y0 y1 y2, LeO (laws_eqPathS.l0 k y0 y1 y2) (laws_eqPathS.l0 (k + 1) y0 y1 y2))
 | 0 => fun _ _ _ r h => by simp [laws_eqPathS.l0] at h
 | k + 1 => by
  have ih0 := laws_eqPathS.mono_l k
  ·
   intro y0 y1 y2
   unfold laws_eqPathS.l0
   exact mz1 ih0
theorem laws_eqPathS.mono : ∀ a0 a1 k, LeO (laws_eqPathS.f k a0 a1) (laws_eqPathS.f (k + 1) a0 a1) := by
 intro a0 a1 k
 have ih0 := laws_eqPathS.mono_l k
 unfold laws_eqPathS.f
 exact mz1 ih0
def laws_eqPathS.T6 : Bool × List (List Nat × List Nat) := (true, [([], []), ([], []), ([0, 1], [0, 1]), ([2], [2]), ([], []), ([], []), ([4, 5], [4, 5]), ([6], [6]), ([3, 7], [3, 7]), ([8], [8])])
def laws_eqPathS.B6 : List Nat := [0, 0, 3, 7, 0, 0, 48, 112, 255, 511]
theorem laws_eqPathS.tab6 : rtab .any (opsOf Tryz.f14 6) = laws_eqPathS.T6 := by kernel_rfl
theorem laws_eqPathS.bits6 : waitsOk laws_eqPathS.T6.2 laws_eqPathS.B6 = true := by kernel_rfl
set_option maxHeartbeats 8000000 in
set_option maxRecDepth 100000 in
theorem laws_eqPathS.calls (k : Nat) (A0 : Option Addr) (c0 : Nat) (l0 : List (S69)) (A1 : Option Addr) (c1 : Nat) (l1 : List (S69)) (r : Bool) (w : World) (hr0 : Kd.C k69 w A0 l0.length l0) (hc0 : l0.length ≤ c0) (hr1 : Kd.C k69 w A1 l1.length l1) (hc1 : l1.length ≤ c1) (h : laws_eqPathS.f k l0 l1 = some r) :
  Calls Tryz.prog 14 #[.slice A0 l0.length c0, .slice A1 l1.length c1] w fun e w' => e = .returned (.bool r) ∧ Below w.heap.size w w' := by
 have hu69 := Tryz.underlying69
 have HR0 := Aside0.mk hr0
 have HC0 := Aside0.mk hc0
 clear hr0 hc0
 have HR1 := Aside0.mk hr1
 have HC1 := Aside0.mk hc1
 clear hr1 hc1
 have HB := Aside0.mk (Below.refl w.heap.size w)
 have H : (if (l0.length : Int) = (l1.length : Int) then (laws_eqPathS.l0 k l0 l1 0) else (some false)) = some r := h
 clear h
 by_cases c3 : (l0.length : Int) = (l1.length : Int)
 ·
  rw [if_pos c3] at H
  have c3b0 : ((l0.length : Int) == (l1.length : Int)) = true := beq_iff_eq.mpr c3
  have c3b1 : ((l0.length : Int) != (l1.length : Int)) = false := bne_eq_false_iff_eq.mpr c3
  have c3b2 : (l0.length == l1.length) = true := by first | simpa using c3 | (simp at c3 ⊢; omega)
  clear c3
  have H' := Aside0.mk H
  clear H
  go_enter Tryz.func14, Tryz.ntmps14
  go_wp2
  go_loopg [5] k (fun kq v5 w' => ∃ (x5_1 : Int), v5 = .int .i64 x5_1 ∧ Aside0 (laws_eqPathS.l0 kq l0 l1 x5_1 = some r) ∧ Aside0 (kq ≤ k) ∧ Aside0 (Below w.heap.size w w'))
  case atStart => exact ⟨(0), rS, H', ⟨Nat.le_refl _⟩, ⟨bA⟩⟩
  case round =>
   clear H'
   obtain ⟨x5_1, rfl, HA, HK1, HB⟩ := hrel
   cases gk with
   | zero => exact absurd HA.out (by simp [laws_eqPathS.l0])
   | succ k1 =>
    have H := HA.out
    clear HA
    simp only [laws_eqPathS.l0] at H
    by_cases c4 : x5_1 < (l0.length : Int)
    ·
     rw [if_pos c4] at H
     have c4b0 := decide_eq_true c4
     clear c4
     have c5 : 0 ≤ x5_1 := ifN H
     replace H := ifT H
     have c5b0 := decide_eq_true c5
     clear c5
     have c6 : x5_1 < (l1.length : Int) := ifN H
     replace H := ifT H
     have c6b0 := decide_eq_true c6
     clear c6
     obtain ⟨t612, A7, H⟩ := bindE H
     try dsimp only at H
     by_cases c8 : t612 = true
     ·
      subst c8
      have H1 : (laws_eqPathS.l0 k1 l0 l1 (wrap64 (x5_1 + 1))) = some r := by rw [if_pos rfl] at H; exact H
      clear H
      have H := H1
      clear H1
      have H' := Aside0.mk H
      clear H
      try go_wp2
      have HBo := HB
      replace HB := db HB
      obtain ⟨p610, q610⟩ : 0 ≤ (x5_1 : Int) ∧ x5_1 < (l0.length : Int) := ⟨dA, dA⟩
      obtain ⟨ad610, e610, hx610_0, hx610_1, hx610_2, hx610_3⟩ := at_T69 HR0.out x5_1 p610 q610
      have hw610_3 := hx610_3
      have hw610_2 := hx610_2
      have hw610_1 := hx610_1
      have hw610_0 := hx610_0
      cases e610
      replace hx610_0 := hC HB hx610_0
      replace hx610_1 := hC HB hx610_1
      replace hx610_2 := hC HB hx610_2
      replace hx610_3 := hC HB hx610_3
      obtain ⟨p610, q610⟩ := eT p610 q610
      obtain ⟨p611, q611⟩ : 0 ≤ (x5_1 : Int) ∧ x5_1 < (l1.length : Int) := ⟨dA, dA⟩
      obtain ⟨ad611, e611, hx611_0, hx611_1, hx611_2, hx611_3⟩ := at_T69 HR1.out x5_1 p611 q611
      have hw611_3 := hx611_3
      have hw611_2 := hx611_2
      have hw611_1 := hx611_1
      have hw611_0 := hx611_0
      cases e611
      replace hx611_0 := hC HB hx611_0
      replace hx611_1 := hC HB hx611_1
      replace hx611_2 := hC HB hx611_2
      replace hx611_3 := hC HB hx611_3
      obtain ⟨p611, q611⟩ := eT p611 q611
      refine sw (ds := []) 10 (mb 10 0) laws_eqPathS.tab6 laws_eqPathS.bits6 (h1c (hC HB hw610_0) (h1c (hC HB hw610_1) (h1c (hC HB hw610_2) (h1c (hC HB hw610_3) (h1c (hC HB hw611_0) (h1c (hC HB hw611_1) (h1c (hC HB hw611_2) (h1 (hC HB hw611_3))))))))) (fun hHeld HT_ HW_ => ?_)
      generalize wr.drew = w9 at HB hx610_0 hx610_1 hx610_2 hx610_3 hx611_0 hx611_1 hx611_2 hx611_3 hHeld ⊢
      refine pa 0 17 (mb 10 1) HT_ ?_
      refine pa 1 18 (mb 10 3) HT_ ?_
      refine pa 2 19 (mb 10 7) HT_ ?_
      refine pa 4 21 (mb 10 23) HT_ ?_
      refine pa 5 22 (mb 10 55) HT_ ?_
      refine pa 6 23 (mb 10 119) HT_ ?_
      refine ta8 3 20 (mb 10 127) HT_ HW_ hHeld ?_
      refine ta8 7 24 (mb 10 255) HT_ HW_ hHeld ?_
      refine oa 8 25 (mb 10 511) HT_ (fun K hK => ?_)
      refine gA Tryz.func43 #[.agg #[.int .i64 ((rd_T69 l0 x5_1).f0), .int .i64 ((rd_T69 l0 x5_1).f1), .int .i64 ((rd_T69 l0 x5_1).f2), .int .i64 ((rd_T69 l0 x5_1).f3)], .agg #[.int .i64 ((rd_T69 l1 x5_1).f0), .int .i64 ((rd_T69 l1 x5_1).f1), .int .i64 ((rd_T69 l1 x5_1).f2), .int .i64 ((rd_T69 l1 x5_1).f3)]] ?_
      with_reducible refine (laws_eqPath.calls ((rd_T69 l0 x5_1).f0) ((rd_T69 l0 x5_1).f1) ((rd_T69 l0 x5_1).f2) ((rd_T69 l0 x5_1).f3) ((rd_T69 l1 x5_1).f0) ((rd_T69 l1 x5_1).f1) ((rd_T69 l1 x5_1).f2) ((rd_T69 l1 x5_1).f3) true _ A7.out).mono ?_
      rintro e w10 ⟨rfl, hb⟩
      refine ⟨_, rfl, ?_⟩
      replace HB := bs HB hb
      (try clear hb)
      (try clear hb2)
      (try clear hk)
      (try clear hi)
      refine hK.out _ _ ⟨(hC HB hw610_0), (hC HB hw610_1), (hC HB hw610_2), (hC HB hw610_3), (hC HB hw611_0), (hC HB hw611_1), (hC HB hw611_2), (hC HB hw611_3)⟩ (fun hHeld => ?_)
      clear hK K
      refine nB ?_
      refine pa 9 26 (mb 10 1023) HT_ ?_
      refine eA HT_ ?_
      try go_wp2
      go_roundg k1
      case measure => have := HK1.out; omega
      case rel => exact ⟨(wrap64 (x5_1 + 1)), rS, H', ⟨by have := HK1.out; omega⟩, ⟨bA⟩⟩
     replace c8 := Bool.eq_false_iff.mpr c8
     subst c8
     have H1 : (some false) = some r := by rw [if_neg (show ¬ (false = true) by decide)] at H; exact H
     clear H
     have H := H1
     clear H1
     obtain rfl := Option.some.inj H
     try go_wp2
     have HBo := HB
     replace HB := db HB
     obtain ⟨p610, q610⟩ : 0 ≤ (x5_1 : Int) ∧ x5_1 < (l0.length : Int) := ⟨dA, dA⟩
     obtain ⟨ad610, e610, hx610_0, hx610_1, hx610_2, hx610_3⟩ := at_T69 HR0.out x5_1 p610 q610
     have hw610_3 := hx610_3
     have hw610_2 := hx610_2
     have hw610_1 := hx610_1
     have hw610_0 := hx610_0
     cases e610
     replace hx610_0 := hC HB hx610_0
     replace hx610_1 := hC HB hx610_1
     replace hx610_2 := hC HB hx610_2
     replace hx610_3 := hC HB hx610_3
     obtain ⟨p610, q610⟩ := eT p610 q610
     obtain ⟨p611, q611⟩ : 0 ≤ (x5_1 : Int) ∧ x5_1 < (l1.length : Int) := ⟨dA, dA⟩
     obtain ⟨ad611, e611, hx611_0, hx611_1, hx611_2, hx611_3⟩ := at_T69 HR1.out x5_1 p611 q611
     have hw611_3 := hx611_3
     have hw611_2 := hx611_2
     have hw611_1 := hx611_1
     have hw611_0 := hx611_0
     cases e611
     replace hx611_0 := hC HB hx611_0
     replace hx611_1 := hC HB hx611_1
     replace hx611_2 := hC HB hx611_2
     replace hx611_3 := hC HB hx611_3
     obtain ⟨p611, q611⟩ := eT p611 q611
     refine sw (ds := []) 10 (mb 10 0) laws_eqPathS.tab6 laws_eqPathS.bits6 (h1c (hC HB hw610_0) (h1c (hC HB hw610_1) (h1c (hC HB hw610_2) (h1c (hC HB hw610_3) (h1c (hC HB hw611_0) (h1c (hC HB hw611_1) (h1c (hC HB hw611_2) (h1 (hC HB hw611_3))))))))) (fun hHeld HT_ HW_ => ?_)
     generalize wr.drew = w11 at HB hx610_0 hx610_1 hx610_2 hx610_3 hx611_0 hx611_1 hx611_2 hx611_3 hHeld ⊢
     refine pa 0 17 (mb 10 1) HT_ ?_
     refine pa 1 18 (mb 10 3) HT_ ?_
     refine pa 2 19 (mb 10 7) HT_ ?_
     refine pa 4 21 (mb 10 23) HT_ ?_
     refine pa 5 22 (mb 10 55) HT_ ?_
     refine pa 6 23 (mb 10 119) HT_ ?_
     refine ta8 3 20 (mb 10 127) HT_ HW_ hHeld ?_
     refine ta8 7 24 (mb 10 255) HT_ HW_ hHeld ?_
     refine oa 8 25 (mb 10 511) HT_ (fun K hK => ?_)
     refine gA Tryz.func43 #[.agg #[.int .i64 ((rd_T69 l0 x5_1).f0), .int .i64 ((rd_T69 l0 x5_1).f1), .int .i64 ((rd_T69 l0 x5_1).f2), .int .i64 ((rd_T69 l0 x5_1).f3)], .agg #[.int .i64 ((rd_T69 l1 x5_1).f0), .int .i64 ((rd_T69 l1 x5_1).f1), .int .i64 ((rd_T69 l1 x5_1).f2), .int .i64 ((rd_T69 l1 x5_1).f3)]] ?_
     with_reducible refine (laws_eqPath.calls ((rd_T69 l0 x5_1).f0) ((rd_T69 l0 x5_1).f1) ((rd_T69 l0 x5_1).f2) ((rd_T69 l0 x5_1).f3) ((rd_T69 l1 x5_1).f0) ((rd_T69 l1 x5_1).f1) ((rd_T69 l1 x5_1).f2) ((rd_T69 l1 x5_1).f3) false _ A7.out).mono ?_
     rintro e w12 ⟨rfl, hb⟩
     refine ⟨_, rfl, ?_⟩
     replace HB := bs HB hb
     (try clear hb)
     (try clear hb2)
     (try clear hk)
     (try clear hi)
     refine hK.out _ _ ⟨(hC HB hw610_0), (hC HB hw610_1), (hC HB hw610_2), (hC HB hw610_3), (hC HB hw611_0), (hC HB hw611_1), (hC HB hw611_2), (hC HB hw611_3)⟩ (fun hHeld => ?_)
     clear hK K
     refine nB ?_
     refine pa 9 26 (mb 10 1023) HT_ ?_
     refine eA HT_ ?_
     try go_wp2
     go_ret
     exact ⟨rA, bA⟩
    rw [if_neg c4] at H
    have c4b0 := decide_eq_false c4
    clear c4
    obtain rfl := Option.some.inj H
    go_wp2
    go_ret
    exact ⟨rA, bA⟩
 rw [if_neg c3] at H
 have c3b0 : ((l0.length : Int) == (l1.length : Int)) = false := beq_eq_false_iff_ne.mpr c3
 have c3b1 : ((l0.length : Int) != (l1.length : Int)) = true := bne_iff_ne.mpr c3
 have c3b2 : (l0.length == l1.length) = false := by first | simpa using c3 | (simp at c3 ⊢; omega)
 obtain rfl := Option.some.inj H
 go_enter Tryz.func14, Tryz.ntmps14
 go_wp2
 go_ret
 exact ⟨rA, bA⟩

/-! ### laws_eqPart: function 44 -/
def laws_eqPart.f (k : Nat) (l0_0 : List Int) (a0_1 : Int) (l1_0 : List Int) (a1_1 : Int) : Option (Bool) := (laws_eqIntS.f k l0_0 l1_0).bind fun t615 => (if t615 = true then (if a0_1 = a1_1 then (some true) else (some false)) else (some false))
theorem laws_eqPart.mono : ∀ a0 a1 a2 a3 k, LeO (laws_eqPart.f k a0 a1 a2 a3) (laws_eqPart.f (k + 1) a0 a1 a2 a3) := by
 intro a0 a1 a2 a3 k
 unfold laws_eqPart.f
 exact mz1 laws_eqIntS.mono
set_option maxHeartbeats 8000000 in
set_option maxRecDepth 100000 in
theorem laws_eqPart.calls (k : Nat) (A0_0 : Option Addr) (c0_0 : Nat) (l0_0 : List Int) (a0_1 : Int) (A1_0 : Option Addr) (c1_0 : Nat) (l1_0 : List Int) (a1_1 : Int) (r : Bool) (w : World) (hr0_0 : Kd.C (Kd.int .i64) w A0_0 l0_0.length l0_0) (hc0_0 : l0_0.length ≤ c0_0) (hr1_0 : Kd.C (Kd.int .i64) w A1_0 l1_0.length l1_0) (hc1_0 : l1_0.length ≤ c1_0) (h : laws_eqPart.f k l0_0 a0_1 l1_0 a1_1 = some r) :
  Calls Tryz.prog 44 #[.agg #[.slice A0_0 l0_0.length c0_0, .int .i64 a0_1], .agg #[.slice A1_0 l1_0.length c1_0, .int .i64 a1_1]] w fun e w' => e = .returned (.bool r) ∧ Below w.heap.size w w' := by
 have hu72 := Tryz.underlying72
 have HR0_0 := Aside0.mk hr0_0
 have HC0_0 := Aside0.mk hc0_0
 clear hr0_0 hc0_0
 have HR1_0 := Aside0.mk hr1_0
 have HC1_0 := Aside0.mk hc1_0
 clear hr1_0 hc1_0
 have HB := Aside0.mk (Below.refl w.heap.size w)
 have H : ((laws_eqIntS.f k l0_0 l1_0).bind fun t615 => (if t615 = true then (if a0_1 = a1_1 then (some true) else (some false)) else (some false))) = some r := h
 clear h
 obtain ⟨t615, A3, H⟩ := bindE H
 try dsimp only at H
 by_cases c4 : t615 = true
 ·
  subst c4
  have H1 : (if a0_1 = a1_1 then (some true) else (some false)) = some r := by rw [if_pos rfl] at H; exact H
  clear H
  have H := H1
  clear H1
  by_cases c5 : a0_1 = a1_1
  ·
   rw [if_pos c5] at H
   have c5b0 : (a0_1 == a1_1) = true := beq_iff_eq.mpr c5
   have c5b1 : (a0_1 != a1_1) = false := bne_eq_false_iff_eq.mpr c5
   clear c5
   obtain rfl := Option.some.inj H
   go_enter Tryz.func44, Tryz.ntmps44
   go_wp2_with (first | ((with_reducible refine gate_dst (N := 2) rfl ?_); refine bE (N := 2) (cs := #[.slice A0_0 l0_0.length c0_0, .int .i64 a0_1]) (t := 72) ?_; intro gb613 hg w6 hbox hb; have BK613 := Aside0.mk (hbox); have GW613 := gw w hg; have GE613 := gw w hg; replace HB := bs HB hb; clear hb hbox hg) | ((with_reducible refine gate_dst (N := 3) rfl ?_); refine bE (N := 3) (cs := #[.slice A1_0 l1_0.length c1_0, .int .i64 a1_1]) (t := 72) ?_; intro gb614 hg w7 hbox hb; have BK614 := Aside0.mk (hbox); have GW614 := gw w hg; have GE614 := gw w hg; replace HB := bs HB hb; have NB613_614 := nl BK613 hg; have NB614_613 := nr BK613 hg; replace BK613 := kb BK613 hb; clear hb hbox hg; have hnb8 := NB613_614.out; have hnc8 := NB614_613.out; obtain ⟨_, _, _, _⟩ := blkc2 BK613; obtain ⟨_, _, _, _⟩ := blkc2 BK614) | ((with_reducible refine gate_callee (f := 13) rfl ?_); refine gL (some 9) Tryz.func13 #[.slice A0_0 l0_0.length c0_0, .slice A1_0 l1_0.length c1_0] ?_; (with_reducible refine (laws_eqIntS.calls k _ _ l0_0 _ _ l1_0 true _ ?_ ?_ ?_ ?_ A3.out).mono ?_); exact cB HR0_0; exact HC0_0.out; exact cB HR1_0; exact HC1_0.out; rintro e w' ⟨rfl, ⟨nd, rfl⟩⟩; refine ⟨_, rfl, ?_⟩))
   go_ret
   exact ⟨rA, bG⟩
  rw [if_neg c5] at H
  have c5b0 : (a0_1 == a1_1) = false := beq_eq_false_iff_ne.mpr c5
  have c5b1 : (a0_1 != a1_1) = true := bne_iff_ne.mpr c5
  obtain rfl := Option.some.inj H
  go_enter Tryz.func44, Tryz.ntmps44
  go_wp2_with (first | ((with_reducible refine gate_dst (N := 2) rfl ?_); refine bE (N := 2) (cs := #[.slice A0_0 l0_0.length c0_0, .int .i64 a0_1]) (t := 72) ?_; intro gb613 hg w11 hbox hb; have BK613 := Aside0.mk (hbox); have GW613 := gw w hg; have GE613 := gw w hg; replace HB := bs HB hb; clear hb hbox hg) | ((with_reducible refine gate_dst (N := 3) rfl ?_); refine bE (N := 3) (cs := #[.slice A1_0 l1_0.length c1_0, .int .i64 a1_1]) (t := 72) ?_; intro gb614 hg w12 hbox hb; have BK614 := Aside0.mk (hbox); have GW614 := gw w hg; have GE614 := gw w hg; replace HB := bs HB hb; have NB613_614 := nl BK613 hg; have NB614_613 := nr BK613 hg; replace BK613 := kb BK613 hb; clear hb hbox hg; have hnb13 := NB613_614.out; have hnc13 := NB614_613.out; obtain ⟨_, _, _, _⟩ := blkc2 BK613; obtain ⟨_, _, _, _⟩ := blkc2 BK614) | ((with_reducible refine gate_callee (f := 13) rfl ?_); refine gL (some 9) Tryz.func13 #[.slice A0_0 l0_0.length c0_0, .slice A1_0 l1_0.length c1_0] ?_; (with_reducible refine (laws_eqIntS.calls k _ _ l0_0 _ _ l1_0 true _ ?_ ?_ ?_ ?_ A3.out).mono ?_); exact cB HR0_0; exact HC0_0.out; exact cB HR1_0; exact HC1_0.out; rintro e w' ⟨rfl, ⟨nd, rfl⟩⟩; refine ⟨_, rfl, ?_⟩))
  go_ret
  exact ⟨rA, bG⟩
 replace c4 := Bool.eq_false_iff.mpr c4
 subst c4
 have H1 : (some false) = some r := by rw [if_neg (show ¬ (false = true) by decide)] at H; exact H
 clear H
 have H := H1
 clear H1
 obtain rfl := Option.some.inj H
 go_enter Tryz.func44, Tryz.ntmps44
 go_wp2_with (first | ((with_reducible refine gate_dst (N := 2) rfl ?_); refine bE (N := 2) (cs := #[.slice A0_0 l0_0.length c0_0, .int .i64 a0_1]) (t := 72) ?_; intro gb613 hg w16 hbox hb; have BK613 := Aside0.mk (hbox); have GW613 := gw w hg; have GE613 := gw w hg; replace HB := bs HB hb; clear hb hbox hg) | ((with_reducible refine gate_dst (N := 3) rfl ?_); refine bE (N := 3) (cs := #[.slice A1_0 l1_0.length c1_0, .int .i64 a1_1]) (t := 72) ?_; intro gb614 hg w17 hbox hb; have BK614 := Aside0.mk (hbox); have GW614 := gw w hg; have GE614 := gw w hg; replace HB := bs HB hb; have NB613_614 := nl BK613 hg; have NB614_613 := nr BK613 hg; replace BK613 := kb BK613 hb; clear hb hbox hg; have hnb18 := NB613_614.out; have hnc18 := NB614_613.out; obtain ⟨_, _, _, _⟩ := blkc2 BK613; obtain ⟨_, _, _, _⟩ := blkc2 BK614) | ((with_reducible refine gate_callee (f := 13) rfl ?_); refine gL (some 9) Tryz.func13 #[.slice A0_0 l0_0.length c0_0, .slice A1_0 l1_0.length c1_0] ?_; (with_reducible refine (laws_eqIntS.calls k _ _ l0_0 _ _ l1_0 false _ ?_ ?_ ?_ ?_ A3.out).mono ?_); exact cB HR0_0; exact HC0_0.out; exact cB HR1_0; exact HC1_0.out; rintro e w' ⟨rfl, ⟨nd, rfl⟩⟩; refine ⟨_, rfl, ?_⟩))
 go_ret
 exact ⟨rA, bG⟩

/-! ### laws_eqPartS: function 15 -/
def laws_eqPartS.l0 : Nat → List (S72) → List (S72) → Int → Option (Bool)
 | 0, _, _, _ => none
 | k + 1, x0, x1, x5 => if x5 < (x0.length : Int) then (if 0 ≤ x5 then (if x5 < (x1.length : Int) then ((laws_eqPart.f k ((rd_T72 x0 x5).f0) ((rd_T72 x0 x5).f1) ((rd_T72 x1 x5).f0) ((rd_T72 x1 x5).f1)).bind fun t618 => (if t618 = true then (laws_eqPartS.l0 k x0 x1 (wrap64 (x5 + 1))) else (some false))) else (none)) else (none)) else (some true)
def laws_eqPartS.f (k : Nat) (l0 : List (S72)) (l1 : List (S72)) : Option (Bool) := if (l0.length : Int) = (l1.length : Int) then (laws_eqPartS.l0 k l0 l1 0) else (some false)
theorem laws_eqPartS.mono_l : ∀ k, (∀ y0 y1 y2, LeO (laws_eqPartS.l0 k y0 y1 y2) (laws_eqPartS.l0 (k + 1) y0 y1 y2))
 | 0 => fun _ _ _ r h => by simp [laws_eqPartS.l0] at h
 | k + 1 => by
  have ih0 := laws_eqPartS.mono_l k
  ·
   intro y0 y1 y2
   unfold laws_eqPartS.l0
   exact mz2 ih0 laws_eqPart.mono
theorem laws_eqPartS.mono : ∀ a0 a1 k, LeO (laws_eqPartS.f k a0 a1) (laws_eqPartS.f (k + 1) a0 a1) := by
 intro a0 a1 k
 have ih0 := laws_eqPartS.mono_l k
 unfold laws_eqPartS.f
 exact mz2 ih0 laws_eqPart.mono
def laws_eqPartS.T6 : Bool × List (List Nat × List Nat) := (true, [([], []), ([], []), ([0, 1], [0, 1]), ([2], [2]), ([], []), ([], []), ([4, 5], [4, 5]), ([6], [6]), ([3, 7], [3, 7]), ([8], [8])])
def laws_eqPartS.B6 : List Nat := [0, 0, 3, 7, 0, 0, 48, 112, 255, 511]
theorem laws_eqPartS.tab6 : rtab .any (opsOf Tryz.f15 6) = laws_eqPartS.T6 := by kernel_rfl
theorem laws_eqPartS.bits6 : waitsOk laws_eqPartS.T6.2 laws_eqPartS.B6 = true := by kernel_rfl
set_option maxHeartbeats 8000000 in
set_option maxRecDepth 100000 in
theorem laws_eqPartS.calls (k : Nat) (A0 : Option Addr) (c0 : Nat) (l0 : List (S72)) (A1 : Option Addr) (c1 : Nat) (l1 : List (S72)) (r : Bool) (w : World) (hr0 : Kd.C k72 w A0 l0.length l0) (hc0 : l0.length ≤ c0) (hr1 : Kd.C k72 w A1 l1.length l1) (hc1 : l1.length ≤ c1) (h : laws_eqPartS.f k l0 l1 = some r) :
  Calls Tryz.prog 15 #[.slice A0 l0.length c0, .slice A1 l1.length c1] w fun e w' => e = .returned (.bool r) ∧ Below w.heap.size w w' := by
 have hu72 := Tryz.underlying72
 have HR0 := Aside0.mk hr0
 have HC0 := Aside0.mk hc0
 clear hr0 hc0
 have HR1 := Aside0.mk hr1
 have HC1 := Aside0.mk hc1
 clear hr1 hc1
 have HB := Aside0.mk (Below.refl w.heap.size w)
 have H : (if (l0.length : Int) = (l1.length : Int) then (laws_eqPartS.l0 k l0 l1 0) else (some false)) = some r := h
 clear h
 by_cases c3 : (l0.length : Int) = (l1.length : Int)
 ·
  rw [if_pos c3] at H
  have c3b0 : ((l0.length : Int) == (l1.length : Int)) = true := beq_iff_eq.mpr c3
  have c3b1 : ((l0.length : Int) != (l1.length : Int)) = false := bne_eq_false_iff_eq.mpr c3
  have c3b2 : (l0.length == l1.length) = true := by first | simpa using c3 | (simp at c3 ⊢; omega)
  clear c3
  have H' := Aside0.mk H
  clear H
  go_enter Tryz.func15, Tryz.ntmps15
  go_wp2
  go_loopg [5] k (fun kq v5 w' => ∃ (x5_1 : Int), v5 = .int .i64 x5_1 ∧ Aside0 (laws_eqPartS.l0 kq l0 l1 x5_1 = some r) ∧ Aside0 (kq ≤ k) ∧ Aside0 (Below w.heap.size w w'))
  case atStart => exact ⟨(0), rS, H', ⟨Nat.le_refl _⟩, ⟨bA⟩⟩
  case round =>
   clear H'
   obtain ⟨x5_1, rfl, HA, HK1, HB⟩ := hrel
   cases gk with
   | zero => exact absurd HA.out (by simp [laws_eqPartS.l0])
   | succ k1 =>
    have H := HA.out
    clear HA
    simp only [laws_eqPartS.l0] at H
    by_cases c4 : x5_1 < (l0.length : Int)
    ·
     rw [if_pos c4] at H
     have c4b0 := decide_eq_true c4
     clear c4
     have c5 : 0 ≤ x5_1 := ifN H
     replace H := ifT H
     have c5b0 := decide_eq_true c5
     clear c5
     have c6 : x5_1 < (l1.length : Int) := ifN H
     replace H := ifT H
     have c6b0 := decide_eq_true c6
     clear c6
     obtain ⟨t618, A7, H⟩ := bindE H
     try dsimp only at H
     by_cases c8 : t618 = true
     ·
      subst c8
      have H1 : (laws_eqPartS.l0 k1 l0 l1 (wrap64 (x5_1 + 1))) = some r := by rw [if_pos rfl] at H; exact H
      clear H
      have H := H1
      clear H1
      have H' := Aside0.mk H
      clear H
      try go_wp2
      have HBo := HB
      replace HB := db HB
      obtain ⟨p616, q616⟩ : 0 ≤ (x5_1 : Int) ∧ x5_1 < (l0.length : Int) := ⟨dA, dA⟩
      obtain ⟨ad616, A616_0, c616_0, e616, hx616_0, hx616_1, hl616_0, hi616_0⟩ := at_T72 HR0.out x5_1 p616 q616
      have hw616_1 := hx616_1
      have hw616_0 := hx616_0
      cases e616
      replace hx616_0 := hC HB hx616_0
      replace hx616_1 := hC HB hx616_1
      have HR616_0 := Aside0.mk hi616_0
      have HC616_0 := Aside0.mk hl616_0
      clear hi616_0 hl616_0
      obtain ⟨p616, q616⟩ := eT p616 q616
      obtain ⟨p617, q617⟩ : 0 ≤ (x5_1 : Int) ∧ x5_1 < (l1.length : Int) := ⟨dA, dA⟩
      obtain ⟨ad617, A617_0, c617_0, e617, hx617_0, hx617_1, hl617_0, hi617_0⟩ := at_T72 HR1.out x5_1 p617 q617
      have hw617_1 := hx617_1
      have hw617_0 := hx617_0
      cases e617
      replace hx617_0 := hC HB hx617_0
      replace hx617_1 := hC HB hx617_1
      have HR617_0 := Aside0.mk hi617_0
      have HC617_0 := Aside0.mk hl617_0
      clear hi617_0 hl617_0
      obtain ⟨p617, q617⟩ := eT p617 q617
      refine sw (ds := []) 10 (mb 10 0) laws_eqPartS.tab6 laws_eqPartS.bits6 (h1c (hC HB hw616_0) (h1c (hC HB hw616_1) (h1c (hC HB hw617_0) (h1 (hC HB hw617_1))))) (fun hHeld HT_ HW_ => ?_)
      generalize wr.drew = w9 at HB HR616_0 HR617_0 hx616_0 hx616_1 hx617_0 hx617_1 hHeld ⊢
      refine pa 0 17 (mb 10 1) HT_ ?_
      refine pa 1 18 (mb 10 3) HT_ ?_
      refine pa 2 19 (mb 10 7) HT_ ?_
      refine pa 4 21 (mb 10 23) HT_ ?_
      refine pa 5 22 (mb 10 55) HT_ ?_
      refine pa 6 23 (mb 10 119) HT_ ?_
      refine ta4 3 20 (mb 10 127) HT_ HW_ hHeld ?_
      refine ta4 7 24 (mb 10 255) HT_ HW_ hHeld ?_
      refine oa 8 25 (mb 10 511) HT_ (fun K hK => ?_)
      refine gA Tryz.func44 #[.agg #[.slice A616_0 ((rd_T72 l0 x5_1).f0).length c616_0, .int .i64 ((rd_T72 l0 x5_1).f1)], .agg #[.slice A617_0 ((rd_T72 l1 x5_1).f0).length c617_0, .int .i64 ((rd_T72 l1 x5_1).f1)]] ?_
      with_reducible refine (laws_eqPart.calls k1 _ _ ((rd_T72 l0 x5_1).f0) ((rd_T72 l0 x5_1).f1) _ _ ((rd_T72 l1 x5_1).f0) ((rd_T72 l1 x5_1).f1) true _ ?side1 ?side2 ?side3 ?side4 A7.out).mono ?_
      (case side1 => exact cB HR616_0)
      (case side2 => exact HC616_0.out)
      (case side3 => exact cB HR617_0)
      (case side4 => exact HC617_0.out)
      rintro e w10 ⟨rfl, hb⟩
      refine ⟨_, rfl, ?_⟩
      replace HB := bs HB hb
      (try clear hb)
      (try clear hb2)
      (try clear hk)
      (try clear hi)
      refine hK.out _ _ ⟨(hC HB hw616_0), (hC HB hw616_1), (hC HB hw617_0), (hC HB hw617_1)⟩ (fun hHeld => ?_)
      clear hK K
      refine nB ?_
      refine pa 9 26 (mb 10 1023) HT_ ?_
      refine eA HT_ ?_
      try go_wp2
      go_roundg k1
      case measure => have := HK1.out; omega
      case rel => exact ⟨(wrap64 (x5_1 + 1)), rS, H', ⟨by have := HK1.out; omega⟩, ⟨bA⟩⟩
     replace c8 := Bool.eq_false_iff.mpr c8
     subst c8
     have H1 : (some false) = some r := by rw [if_neg (show ¬ (false = true) by decide)] at H; exact H
     clear H
     have H := H1
     clear H1
     obtain rfl := Option.some.inj H
     try go_wp2
     have HBo := HB
     replace HB := db HB
     obtain ⟨p616, q616⟩ : 0 ≤ (x5_1 : Int) ∧ x5_1 < (l0.length : Int) := ⟨dA, dA⟩
     obtain ⟨ad616, A616_0, c616_0, e616, hx616_0, hx616_1, hl616_0, hi616_0⟩ := at_T72 HR0.out x5_1 p616 q616
     have hw616_1 := hx616_1
     have hw616_0 := hx616_0
     cases e616
     replace hx616_0 := hC HB hx616_0
     replace hx616_1 := hC HB hx616_1
     have HR616_0 := Aside0.mk hi616_0
     have HC616_0 := Aside0.mk hl616_0
     clear hi616_0 hl616_0
     obtain ⟨p616, q616⟩ := eT p616 q616
     obtain ⟨p617, q617⟩ : 0 ≤ (x5_1 : Int) ∧ x5_1 < (l1.length : Int) := ⟨dA, dA⟩
     obtain ⟨ad617, A617_0, c617_0, e617, hx617_0, hx617_1, hl617_0, hi617_0⟩ := at_T72 HR1.out x5_1 p617 q617
     have hw617_1 := hx617_1
     have hw617_0 := hx617_0
     cases e617
     replace hx617_0 := hC HB hx617_0
     replace hx617_1 := hC HB hx617_1
     have HR617_0 := Aside0.mk hi617_0
     have HC617_0 := Aside0.mk hl617_0
     clear hi617_0 hl617_0
     obtain ⟨p617, q617⟩ := eT p617 q617
     refine sw (ds := []) 10 (mb 10 0) laws_eqPartS.tab6 laws_eqPartS.bits6 (h1c (hC HB hw616_0) (h1c (hC HB hw616_1) (h1c (hC HB hw617_0) (h1 (hC HB hw617_1))))) (fun hHeld HT_ HW_ => ?_)
     generalize wr.drew = w11 at HB HR616_0 HR617_0 hx616_0 hx616_1 hx617_0 hx617_1 hHeld ⊢
     refine pa 0 17 (mb 10 1) HT_ ?_
     refine pa 1 18 (mb 10 3) HT_ ?_
     refine pa 2 19 (mb 10 7) HT_ ?_
     refine pa 4 21 (mb 10 23) HT_ ?_
     refine pa 5 22 (mb 10 55) HT_ ?_
     refine pa 6 23 (mb 10 119) HT_ ?_
     refine ta4 3 20 (mb 10 127) HT_ HW_ hHeld ?_
     refine ta4 7 24 (mb 10 255) HT_ HW_ hHeld ?_
     refine oa 8 25 (mb 10 511) HT_ (fun K hK => ?_)
     refine gA Tryz.func44 #[.agg #[.slice A616_0 ((rd_T72 l0 x5_1).f0).length c616_0, .int .i64 ((rd_T72 l0 x5_1).f1)], .agg #[.slice A617_0 ((rd_T72 l1 x5_1).f0).length c617_0, .int .i64 ((rd_T72 l1 x5_1).f1)]] ?_
     with_reducible refine (laws_eqPart.calls k1 _ _ ((rd_T72 l0 x5_1).f0) ((rd_T72 l0 x5_1).f1) _ _ ((rd_T72 l1 x5_1).f0) ((rd_T72 l1 x5_1).f1) false _ ?side1 ?side2 ?side3 ?side4 A7.out).mono ?_
     (case side1 => exact cB HR616_0)
     (case side2 => exact HC616_0.out)
     (case side3 => exact cB HR617_0)
     (case side4 => exact HC617_0.out)
     rintro e w12 ⟨rfl, hb⟩
     refine ⟨_, rfl, ?_⟩
     replace HB := bs HB hb
     (try clear hb)
     (try clear hb2)
     (try clear hk)
     (try clear hi)
     refine hK.out _ _ ⟨(hC HB hw616_0), (hC HB hw616_1), (hC HB hw617_0), (hC HB hw617_1)⟩ (fun hHeld => ?_)
     clear hK K
     refine nB ?_
     refine pa 9 26 (mb 10 1023) HT_ ?_
     refine eA HT_ ?_
     try go_wp2
     go_ret
     exact ⟨rA, bA⟩
    rw [if_neg c4] at H
    have c4b0 := decide_eq_false c4
    clear c4
    obtain rfl := Option.some.inj H
    go_wp2
    go_ret
    exact ⟨rA, bA⟩
 rw [if_neg c3] at H
 have c3b0 : ((l0.length : Int) == (l1.length : Int)) = false := beq_eq_false_iff_ne.mpr c3
 have c3b1 : ((l0.length : Int) != (l1.length : Int)) = true := bne_iff_ne.mpr c3
 have c3b2 : (l0.length == l1.length) = false := by first | simpa using c3 | (simp at c3 ⊢; omega)
 obtain rfl := Option.some.inj H
 go_enter Tryz.func15, Tryz.ntmps15
 go_wp2
 go_ret
 exact ⟨rA, bA⟩

/-! ### laws_eqCall: function 45 -/
def laws_eqCall.f (a0_0 : Int) (a0_1 : Int) (a1_0 : Int) (a1_1 : Int) : Option (Bool) := if a0_0 = a1_0 then (if a0_1 = a1_1 then (some true) else (some false)) else (some false)
set_option maxHeartbeats 8000000 in
set_option maxRecDepth 100000 in
theorem laws_eqCall.calls (a0_0 : Int) (a0_1 : Int) (a1_0 : Int) (a1_1 : Int) (r : Bool) (w : World) (h : laws_eqCall.f a0_0 a0_1 a1_0 a1_1 = some r) :
  Calls Tryz.prog 45 #[.agg #[.int .i64 a0_0, .int .i64 a0_1], .agg #[.int .i64 a1_0, .int .i64 a1_1]] w fun e w' => e = .returned (.bool r) ∧ Below w.heap.size w w' := by
 have hu65 := Tryz.underlying65
 have HB := Aside0.mk (Below.refl w.heap.size w)
 have H : (if a0_0 = a1_0 then (if a0_1 = a1_1 then (some true) else (some false)) else (some false)) = some r := h
 clear h
 by_cases c3 : a0_0 = a1_0
 ·
  rw [if_pos c3] at H
  have c3b0 : (a0_0 == a1_0) = true := beq_iff_eq.mpr c3
  have c3b1 : (a0_0 != a1_0) = false := bne_eq_false_iff_eq.mpr c3
  clear c3
  by_cases c4 : a0_1 = a1_1
  ·
   rw [if_pos c4] at H
   have c4b0 : (a0_1 == a1_1) = true := beq_iff_eq.mpr c4
   have c4b1 : (a0_1 != a1_1) = false := bne_eq_false_iff_eq.mpr c4
   clear c4
   obtain rfl := Option.some.inj H
   go_enter Tryz.func45, Tryz.ntmps45
   go_wp2_with (first | ((with_reducible refine gate_dst (N := 2) rfl ?_); refine bE (N := 2) (cs := #[.int .i64 a0_0, .int .i64 a0_1]) (t := 65) ?_; intro gb619 hg w5 hbox hb; have BK619 := Aside0.mk (hbox); have GW619 := gw w hg; have GE619 := gw w hg; replace HB := bs HB hb; clear hb hbox hg) | ((with_reducible refine gate_dst (N := 3) rfl ?_); refine bE (N := 3) (cs := #[.int .i64 a1_0, .int .i64 a1_1]) (t := 65) ?_; intro gb620 hg w6 hbox hb; have BK620 := Aside0.mk (hbox); have GW620 := gw w hg; have GE620 := gw w hg; replace HB := bs HB hb; have NB619_620 := nl BK619 hg; have NB620_619 := nr BK619 hg; replace BK619 := kb BK619 hb; clear hb hbox hg; have hnb7 := NB619_620.out; have hnc7 := NB620_619.out; obtain ⟨_, _, _, _⟩ := blkc2 BK619; obtain ⟨_, _, _, _⟩ := blkc2 BK620))
   go_ret
   exact ⟨rA, bG⟩
  rw [if_neg c4] at H
  have c4b0 : (a0_1 == a1_1) = false := beq_eq_false_iff_ne.mpr c4
  have c4b1 : (a0_1 != a1_1) = true := bne_iff_ne.mpr c4
  obtain rfl := Option.some.inj H
  go_enter Tryz.func45, Tryz.ntmps45
  go_wp2_with (first | ((with_reducible refine gate_dst (N := 2) rfl ?_); refine bE (N := 2) (cs := #[.int .i64 a0_0, .int .i64 a0_1]) (t := 65) ?_; intro gb619 hg w10 hbox hb; have BK619 := Aside0.mk (hbox); have GW619 := gw w hg; have GE619 := gw w hg; replace HB := bs HB hb; clear hb hbox hg) | ((with_reducible refine gate_dst (N := 3) rfl ?_); refine bE (N := 3) (cs := #[.int .i64 a1_0, .int .i64 a1_1]) (t := 65) ?_; intro gb620 hg w11 hbox hb; have BK620 := Aside0.mk (hbox); have GW620 := gw w hg; have GE620 := gw w hg; replace HB := bs HB hb; have NB619_620 := nl BK619 hg; have NB620_619 := nr BK619 hg; replace BK619 := kb BK619 hb; clear hb hbox hg; have hnb12 := NB619_620.out; have hnc12 := NB620_619.out; obtain ⟨_, _, _, _⟩ := blkc2 BK619; obtain ⟨_, _, _, _⟩ := blkc2 BK620))
  go_ret
  exact ⟨rA, bG⟩
 rw [if_neg c3] at H
 have c3b0 : (a0_0 == a1_0) = false := beq_eq_false_iff_ne.mpr c3
 have c3b1 : (a0_0 != a1_0) = true := bne_iff_ne.mpr c3
 obtain rfl := Option.some.inj H
 go_enter Tryz.func45, Tryz.ntmps45
 go_wp2_with (first | ((with_reducible refine gate_dst (N := 2) rfl ?_); refine bE (N := 2) (cs := #[.int .i64 a0_0, .int .i64 a0_1]) (t := 65) ?_; intro gb619 hg w15 hbox hb; have BK619 := Aside0.mk (hbox); have GW619 := gw w hg; have GE619 := gw w hg; replace HB := bs HB hb; clear hb hbox hg) | ((with_reducible refine gate_dst (N := 3) rfl ?_); refine bE (N := 3) (cs := #[.int .i64 a1_0, .int .i64 a1_1]) (t := 65) ?_; intro gb620 hg w16 hbox hb; have BK620 := Aside0.mk (hbox); have GW620 := gw w hg; have GE620 := gw w hg; replace HB := bs HB hb; have NB619_620 := nl BK619 hg; have NB620_619 := nr BK619 hg; replace BK619 := kb BK619 hb; clear hb hbox hg; have hnb17 := NB619_620.out; have hnc17 := NB620_619.out; obtain ⟨_, _, _, _⟩ := blkc2 BK619; obtain ⟨_, _, _, _⟩ := blkc2 BK620))
 go_ret
 exact ⟨rA, bG⟩

/-! ### laws_eqCallS: function 16 -/
def laws_eqCallS.l0 : Nat → List (S65) → List (S65) → Int → Option (Bool)
 | 0, _, _, _ => none
 | k + 1, x0, x1, x5 => if x5 < (x0.length : Int) then (if 0 ≤ x5 then (if x5 < (x1.length : Int) then ((laws_eqCall.f ((rd_T65 x0 x5).f0) ((rd_T65 x0 x5).f1) ((rd_T65 x1 x5).f0) ((rd_T65 x1 x5).f1)).bind fun t623 => (if t623 = true then (laws_eqCallS.l0 k x0 x1 (wrap64 (x5 + 1))) else (some false))) else (none)) else (none)) else (some true)
def laws_eqCallS.f (k : Nat) (l0 : List (S65)) (l1 : List (S65)) : Option (Bool) := if (l0.length : Int) = (l1.length : Int) then (laws_eqCallS.l0 k l0 l1 0) else (some false)
theorem laws_eqCallS.mono_l : ∀ k, (∀ y0 y1 y2, LeO (laws_eqCallS.l0 k y0 y1 y2) (laws_eqCallS.l0 (k + 1) y0 y1 y2))
 | 0 => fun _ _ _ r h => by simp [laws_eqCallS.l0] at h
 | k + 1 => by
  have ih0 := laws_eqCallS.mono_l k
  ·
   intro y0 y1 y2
   unfold laws_eqCallS.l0
   exact mz1 ih0
theorem laws_eqCallS.mono : ∀ a0 a1 k, LeO (laws_eqCallS.f k a0 a1) (laws_eqCallS.f (k + 1) a0 a1) := by
 intro a0 a1 k
 have ih0 := laws_eqCallS.mono_l k
 unfold laws_eqCallS.f
 exact mz1 ih0
def laws_eqCallS.T6 : Bool × List (List Nat × List Nat) := (true, [([], []), ([], []), ([0, 1], [0, 1]), ([2], [2]), ([], []), ([], []), ([4, 5], [4, 5]), ([6], [6]), ([3, 7], [3, 7]), ([8], [8])])
def laws_eqCallS.B6 : List Nat := [0, 0, 3, 7, 0, 0, 48, 112, 255, 511]
theorem laws_eqCallS.tab6 : rtab .any (opsOf Tryz.f16 6) = laws_eqCallS.T6 := by kernel_rfl
theorem laws_eqCallS.bits6 : waitsOk laws_eqCallS.T6.2 laws_eqCallS.B6 = true := by kernel_rfl
set_option maxHeartbeats 8000000 in
set_option maxRecDepth 100000 in
theorem laws_eqCallS.calls (k : Nat) (A0 : Option Addr) (c0 : Nat) (l0 : List (S65)) (A1 : Option Addr) (c1 : Nat) (l1 : List (S65)) (r : Bool) (w : World) (hr0 : Kd.C k65 w A0 l0.length l0) (hc0 : l0.length ≤ c0) (hr1 : Kd.C k65 w A1 l1.length l1) (hc1 : l1.length ≤ c1) (h : laws_eqCallS.f k l0 l1 = some r) :
  Calls Tryz.prog 16 #[.slice A0 l0.length c0, .slice A1 l1.length c1] w fun e w' => e = .returned (.bool r) ∧ Below w.heap.size w w' := by
 have hu65 := Tryz.underlying65
 have HR0 := Aside0.mk hr0
 have HC0 := Aside0.mk hc0
 clear hr0 hc0
 have HR1 := Aside0.mk hr1
 have HC1 := Aside0.mk hc1
 clear hr1 hc1
 have HB := Aside0.mk (Below.refl w.heap.size w)
 have H : (if (l0.length : Int) = (l1.length : Int) then (laws_eqCallS.l0 k l0 l1 0) else (some false)) = some r := h
 clear h
 by_cases c3 : (l0.length : Int) = (l1.length : Int)
 ·
  rw [if_pos c3] at H
  have c3b0 : ((l0.length : Int) == (l1.length : Int)) = true := beq_iff_eq.mpr c3
  have c3b1 : ((l0.length : Int) != (l1.length : Int)) = false := bne_eq_false_iff_eq.mpr c3
  have c3b2 : (l0.length == l1.length) = true := by first | simpa using c3 | (simp at c3 ⊢; omega)
  clear c3
  have H' := Aside0.mk H
  clear H
  go_enter Tryz.func16, Tryz.ntmps16
  go_wp2
  go_loopg [5] k (fun kq v5 w' => ∃ (x5_1 : Int), v5 = .int .i64 x5_1 ∧ Aside0 (laws_eqCallS.l0 kq l0 l1 x5_1 = some r) ∧ Aside0 (kq ≤ k) ∧ Aside0 (Below w.heap.size w w'))
  case atStart => exact ⟨(0), rS, H', ⟨Nat.le_refl _⟩, ⟨bA⟩⟩
  case round =>
   clear H'
   obtain ⟨x5_1, rfl, HA, HK1, HB⟩ := hrel
   cases gk with
   | zero => exact absurd HA.out (by simp [laws_eqCallS.l0])
   | succ k1 =>
    have H := HA.out
    clear HA
    simp only [laws_eqCallS.l0] at H
    by_cases c4 : x5_1 < (l0.length : Int)
    ·
     rw [if_pos c4] at H
     have c4b0 := decide_eq_true c4
     clear c4
     have c5 : 0 ≤ x5_1 := ifN H
     replace H := ifT H
     have c5b0 := decide_eq_true c5
     clear c5
     have c6 : x5_1 < (l1.length : Int) := ifN H
     replace H := ifT H
     have c6b0 := decide_eq_true c6
     clear c6
     obtain ⟨t623, A7, H⟩ := bindE H
     try dsimp only at H
     by_cases c8 : t623 = true
     ·
      subst c8
      have H1 : (laws_eqCallS.l0 k1 l0 l1 (wrap64 (x5_1 + 1))) = some r := by rw [if_pos rfl] at H; exact H
      clear H
      have H := H1
      clear H1
      have H' := Aside0.mk H
      clear H
      try go_wp2
      have HBo := HB
      replace HB := db HB
      obtain ⟨p621, q621⟩ : 0 ≤ (x5_1 : Int) ∧ x5_1 < (l0.length : Int) := ⟨dA, dA⟩
      obtain ⟨ad621, e621, hx621_0, hx621_1⟩ := at_T65 HR0.out x5_1 p621 q621
      have hw621_1 := hx621_1
      have hw621_0 := hx621_0
      cases e621
      replace hx621_0 := hC HB hx621_0
      replace hx621_1 := hC HB hx621_1
      obtain ⟨p621, q621⟩ := eT p621 q621
      obtain ⟨p622, q622⟩ : 0 ≤ (x5_1 : Int) ∧ x5_1 < (l1.length : Int) := ⟨dA, dA⟩
      obtain ⟨ad622, e622, hx622_0, hx622_1⟩ := at_T65 HR1.out x5_1 p622 q622
      have hw622_1 := hx622_1
      have hw622_0 := hx622_0
      cases e622
      replace hx622_0 := hC HB hx622_0
      replace hx622_1 := hC HB hx622_1
      obtain ⟨p622, q622⟩ := eT p622 q622
      refine sw (ds := []) 10 (mb 10 0) laws_eqCallS.tab6 laws_eqCallS.bits6 (h1c (hC HB hw621_0) (h1c (hC HB hw621_1) (h1c (hC HB hw622_0) (h1 (hC HB hw622_1))))) (fun hHeld HT_ HW_ => ?_)
      generalize wr.drew = w9 at HB hx621_0 hx621_1 hx622_0 hx622_1 hHeld ⊢
      refine pa 0 17 (mb 10 1) HT_ ?_
      refine pa 1 18 (mb 10 3) HT_ ?_
      refine pa 2 19 (mb 10 7) HT_ ?_
      refine pa 4 21 (mb 10 23) HT_ ?_
      refine pa 5 22 (mb 10 55) HT_ ?_
      refine pa 6 23 (mb 10 119) HT_ ?_
      refine ta4 3 20 (mb 10 127) HT_ HW_ hHeld ?_
      refine ta4 7 24 (mb 10 255) HT_ HW_ hHeld ?_
      refine oa 8 25 (mb 10 511) HT_ (fun K hK => ?_)
      refine gA Tryz.func45 #[.agg #[.int .i64 ((rd_T65 l0 x5_1).f0), .int .i64 ((rd_T65 l0 x5_1).f1)], .agg #[.int .i64 ((rd_T65 l1 x5_1).f0), .int .i64 ((rd_T65 l1 x5_1).f1)]] ?_
      with_reducible refine (laws_eqCall.calls ((rd_T65 l0 x5_1).f0) ((rd_T65 l0 x5_1).f1) ((rd_T65 l1 x5_1).f0) ((rd_T65 l1 x5_1).f1) true _ A7.out).mono ?_
      rintro e w10 ⟨rfl, hb⟩
      refine ⟨_, rfl, ?_⟩
      replace HB := bs HB hb
      (try clear hb)
      (try clear hb2)
      (try clear hk)
      (try clear hi)
      refine hK.out _ _ ⟨(hC HB hw621_0), (hC HB hw621_1), (hC HB hw622_0), (hC HB hw622_1)⟩ (fun hHeld => ?_)
      clear hK K
      refine nB ?_
      refine pa 9 26 (mb 10 1023) HT_ ?_
      refine eA HT_ ?_
      try go_wp2
      go_roundg k1
      case measure => have := HK1.out; omega
      case rel => exact ⟨(wrap64 (x5_1 + 1)), rS, H', ⟨by have := HK1.out; omega⟩, ⟨bA⟩⟩
     replace c8 := Bool.eq_false_iff.mpr c8
     subst c8
     have H1 : (some false) = some r := by rw [if_neg (show ¬ (false = true) by decide)] at H; exact H
     clear H
     have H := H1
     clear H1
     obtain rfl := Option.some.inj H
     try go_wp2
     have HBo := HB
     replace HB := db HB
     obtain ⟨p621, q621⟩ : 0 ≤ (x5_1 : Int) ∧ x5_1 < (l0.length : Int) := ⟨dA, dA⟩
     obtain ⟨ad621, e621, hx621_0, hx621_1⟩ := at_T65 HR0.out x5_1 p621 q621
     have hw621_1 := hx621_1
     have hw621_0 := hx621_0
     cases e621
     replace hx621_0 := hC HB hx621_0
     replace hx621_1 := hC HB hx621_1
     obtain ⟨p621, q621⟩ := eT p621 q621
     obtain ⟨p622, q622⟩ : 0 ≤ (x5_1 : Int) ∧ x5_1 < (l1.length : Int) := ⟨dA, dA⟩
     obtain ⟨ad622, e622, hx622_0, hx622_1⟩ := at_T65 HR1.out x5_1 p622 q622
     have hw622_1 := hx622_1
     have hw622_0 := hx622_0
     cases e622
     replace hx622_0 := hC HB hx622_0
     replace hx622_1 := hC HB hx622_1
     obtain ⟨p622, q622⟩ := eT p622 q622
     refine sw (ds := []) 10 (mb 10 0) laws_eqCallS.tab6 laws_eqCallS.bits6 (h1c (hC HB hw621_0) (h1c (hC HB hw621_1) (h1c (hC HB hw622_0) (h1 (hC HB hw622_1))))) (fun hHeld HT_ HW_ => ?_)
     generalize wr.drew = w11 at HB hx621_0 hx621_1 hx622_0 hx622_1 hHeld ⊢
     refine pa 0 17 (mb 10 1) HT_ ?_
     refine pa 1 18 (mb 10 3) HT_ ?_
     refine pa 2 19 (mb 10 7) HT_ ?_
     refine pa 4 21 (mb 10 23) HT_ ?_
     refine pa 5 22 (mb 10 55) HT_ ?_
     refine pa 6 23 (mb 10 119) HT_ ?_
     refine ta4 3 20 (mb 10 127) HT_ HW_ hHeld ?_
     refine ta4 7 24 (mb 10 255) HT_ HW_ hHeld ?_
     refine oa 8 25 (mb 10 511) HT_ (fun K hK => ?_)
     refine gA Tryz.func45 #[.agg #[.int .i64 ((rd_T65 l0 x5_1).f0), .int .i64 ((rd_T65 l0 x5_1).f1)], .agg #[.int .i64 ((rd_T65 l1 x5_1).f0), .int .i64 ((rd_T65 l1 x5_1).f1)]] ?_
     with_reducible refine (laws_eqCall.calls ((rd_T65 l0 x5_1).f0) ((rd_T65 l0 x5_1).f1) ((rd_T65 l1 x5_1).f0) ((rd_T65 l1 x5_1).f1) false _ A7.out).mono ?_
     rintro e w12 ⟨rfl, hb⟩
     refine ⟨_, rfl, ?_⟩
     replace HB := bs HB hb
     (try clear hb)
     (try clear hb2)
     (try clear hk)
     (try clear hi)
     refine hK.out _ _ ⟨(hC HB hw621_0), (hC HB hw621_1), (hC HB hw622_0), (hC HB hw622_1)⟩ (fun hHeld => ?_)
     clear hK K
     refine nB ?_
     refine pa 9 26 (mb 10 1023) HT_ ?_
     refine eA HT_ ?_
     try go_wp2
     go_ret
     exact ⟨rA, bA⟩
    rw [if_neg c4] at H
    have c4b0 := decide_eq_false c4
    clear c4
    obtain rfl := Option.some.inj H
    go_wp2
    go_ret
    exact ⟨rA, bA⟩
 rw [if_neg c3] at H
 have c3b0 : ((l0.length : Int) == (l1.length : Int)) = false := beq_eq_false_iff_ne.mpr c3
 have c3b1 : ((l0.length : Int) != (l1.length : Int)) = true := bne_iff_ne.mpr c3
 have c3b2 : (l0.length == l1.length) = false := by first | simpa using c3 | (simp at c3 ⊢; omega)
 obtain rfl := Option.some.inj H
 go_enter Tryz.func16, Tryz.ntmps16
 go_wp2
 go_ret
 exact ⟨rA, bA⟩

/-! ### laws_markPathS: function 17 -/
def laws_markPathS.l0 : Nat → List (S69) → Int → Int → Option (Int × (List (S69)))
 | 0, _, _, _ => none
 | k + 1, x0, x1, x5 => if x5 < (x0.length : Int) then (if 0 ≤ x5 then ((some (x0.set (x5 : Int).toNat (⟨x1, (rd_T69 x0 x5).f1, (rd_T69 x0 x5).f2, (rd_T69 x0 x5).f3⟩ : S69) : List (S69))).bind fun y624 => ((some (y624.set (x5 : Int).toNat (⟨(rd_T69 y624 x5).f0, wrap64 (x1 + 1), (rd_T69 y624 x5).f2, (rd_T69 y624 x5).f3⟩ : S69) : List (S69))).bind fun y625 => ((some (y625.set (x5 : Int).toNat (⟨(rd_T69 y625 x5).f0, (rd_T69 y625 x5).f1, wrap64 ((wrap64 (x1 + 1)) + 1), (rd_T69 y625 x5).f3⟩ : S69) : List (S69))).bind fun y626 => (laws_markPathS.l0 k (y626.set (x5 : Int).toNat (⟨(rd_T69 y626 x5).f0, (rd_T69 y626 x5).f1, (rd_T69 y626 x5).f2, wrap64 ((wrap64 ((wrap64 (x1 + 1)) + 1)) + 1)⟩ : S69)) (wrap64 ((wrap64 ((wrap64 ((wrap64 (x1 + 1)) + 1)) + 1)) + 1)) (wrap64 (x5 + 1)))))) else (none)) else (some (x1, x0))
def laws_markPathS.f (k : Nat) (l0 : List (S69)) (a1 : Int) : Option (Int × (List (S69))) := laws_markPathS.l0 k l0 a1 0
theorem laws_markPathS.mono_l : ∀ k, (∀ y0 y1 y2, LeO (laws_markPathS.l0 k y0 y1 y2) (laws_markPathS.l0 (k + 1) y0 y1 y2))
 | 0 => fun _ _ _ r h => by simp [laws_markPathS.l0] at h
 | k + 1 => by
  have ih0 := laws_markPathS.mono_l k
  ·
   intro y0 y1 y2
   unfold laws_markPathS.l0
   exact mz1 ih0
theorem laws_markPathS.mono : ∀ a0 a1 k, LeO (laws_markPathS.f k a0 a1) (laws_markPathS.f (k + 1) a0 a1) := by
 intro a0 a1 k
 have ih0 := laws_markPathS.mono_l k
 unfold laws_markPathS.f
 exact mz1 ih0
set_option maxHeartbeats 8000000 in
set_option maxRecDepth 100000 in
theorem laws_markPathS.calls (k : Nat) (P0_ : Nat → Prop) (u9000_ : Value) (l0 : List (S69)) (a1 : Int) (r1 : Int) (r2 : List (S69)) (w0 w : World) (hB : Below w0.heap.size w0 w) (ho0 : Kd.R k69 69 w w0.heap.size P0_ u9000_ l0) (h : laws_markPathS.f k l0 a1 = some (r1, r2)) :
  Calls Tryz.prog 17 #[u9000_, .int .i64 a1] w fun e w' => e = .returned (.int .i64 r1) ∧ Kd.R k69 69 w' w0.heap.size (fun k_ => (P0_ k_ ∨ w.heap.size ≤ k_)) u9000_ r2 ∧ Below w0.heap.size w0 w' ∧ Kept w w' (fun k_ => P0_ k_) := by
 have HO0 := Aside0.mk (show Kd.R k69 69 w w0.heap.size (fun k_ => (P0_ k_ ∨ w.heap.size ≤ k_)) u9000_ l0 from Kd.R_mono ho0 (fun k_ hk => (.inl hk)))
 have HK := Aside0.mk (Kept.refl w (fun k_ => P0_ k_))
 have HW0 := Aside0.mk hB.size
 have HB := Aside0.mk hB
 clear hB
 have H : (laws_markPathS.l0 k l0 a1 0) = some (r1, r2) := h
 clear h
 have H' := Aside0.mk H
 clear H
 go_enter Tryz.func17, Tryz.ntmps17
 go_wp2
 go_loopg [1, 5] k (fun kq v1 v5 w' => ∃ (x0_1 : List (S69)) (x1_1 : Int) (x5_1 : Int), v1 = .int .i64 x1_1 ∧ v5 = .int .i64 x5_1 ∧ Aside0 (laws_markPathS.l0 kq x0_1 x1_1 x5_1 = some (r1, r2)) ∧ Aside0 (kq ≤ k) ∧ Aside0 (Kd.R k69 69 w' w0.heap.size (fun k_ => (P0_ k_ ∨ w.heap.size ≤ k_)) u9000_ x0_1) ∧ Aside0 (Kept w w' (fun k_ => P0_ k_)) ∧ Aside0 (Below w0.heap.size w0 w'))
 case atStart => exact ⟨(l0), (a1), (0), rS, rS, H', ⟨Nat.le_refl _⟩, ⟨rK HO0⟩, ⟨by repeat (first | (with_reducible first | exact HK.out | apply Kept.alloc | apply Kept.drewN | apply Kept.drew) | exact HK.out)⟩, ⟨bA⟩⟩
 case round =>
  clear H'
  obtain ⟨x0_1, x1_1, x5_1, rfl, rfl, HA, HK1, HO_0, HK, HB⟩ := hrel
  cases gk with
  | zero => exact absurd HA.out (by simp [laws_markPathS.l0])
  | succ k1 =>
   have H := HA.out
   clear HA
   simp only [laws_markPathS.l0] at H
   by_cases c3 : x5_1 < (x0_1.length : Int)
   ·
    rw [if_pos c3] at H
    have c3b0 := decide_eq_true c3
    clear c3
    have c4 : 0 ≤ x5_1 := ifN H
    replace H := ifT H
    have c4b0 := decide_eq_true c4
    clear c4
    obtain ⟨y624, hy624⟩ : ∃ y_ : List (S69), y_ = (x0_1.set (x5_1 : Int).toNat (⟨x1_1, (rd_T69 x0_1 x5_1).f1, (rd_T69 x0_1 x5_1).f2, (rd_T69 x0_1 x5_1).f3⟩ : S69)) := ⟨_, rfl⟩
    replace H : ((some (y624.set (x5_1 : Int).toNat (⟨(rd_T69 y624 x5_1).f0, wrap64 (x1_1 + 1), (rd_T69 y624 x5_1).f2, (rd_T69 y624 x5_1).f3⟩ : S69) : List (S69))).bind fun y625 => ((some (y625.set (x5_1 : Int).toNat (⟨(rd_T69 y625 x5_1).f0, (rd_T69 y625 x5_1).f1, wrap64 ((wrap64 (x1_1 + 1)) + 1), (rd_T69 y625 x5_1).f3⟩ : S69) : List (S69))).bind fun y626 => (laws_markPathS.l0 k1 (y626.set (x5_1 : Int).toNat (⟨(rd_T69 y626 x5_1).f0, (rd_T69 y626 x5_1).f1, (rd_T69 y626 x5_1).f2, wrap64 ((wrap64 ((wrap64 (x1_1 + 1)) + 1)) + 1)⟩ : S69)) (wrap64 ((wrap64 ((wrap64 ((wrap64 (x1_1 + 1)) + 1)) + 1)) + 1)) (wrap64 (x5_1 + 1))))) = some (r1, r2) := rH H hy624
    have Ny624 := Aside0.mk hy624
    clear hy624
    obtain ⟨y625, hy625⟩ : ∃ y_ : List (S69), y_ = (y624.set (x5_1 : Int).toNat (⟨(rd_T69 y624 x5_1).f0, wrap64 (x1_1 + 1), (rd_T69 y624 x5_1).f2, (rd_T69 y624 x5_1).f3⟩ : S69)) := ⟨_, rfl⟩
    replace H : ((some (y625.set (x5_1 : Int).toNat (⟨(rd_T69 y625 x5_1).f0, (rd_T69 y625 x5_1).f1, wrap64 ((wrap64 (x1_1 + 1)) + 1), (rd_T69 y625 x5_1).f3⟩ : S69) : List (S69))).bind fun y626 => (laws_markPathS.l0 k1 (y626.set (x5_1 : Int).toNat (⟨(rd_T69 y626 x5_1).f0, (rd_T69 y626 x5_1).f1, (rd_T69 y626 x5_1).f2, wrap64 ((wrap64 ((wrap64 (x1_1 + 1)) + 1)) + 1)⟩ : S69)) (wrap64 ((wrap64 ((wrap64 ((wrap64 (x1_1 + 1)) + 1)) + 1)) + 1)) (wrap64 (x5_1 + 1)))) = some (r1, r2) := rH H hy625
    have Ny625 := Aside0.mk hy625
    clear hy625
    obtain ⟨y626, hy626⟩ : ∃ y_ : List (S69), y_ = (y625.set (x5_1 : Int).toNat (⟨(rd_T69 y625 x5_1).f0, (rd_T69 y625 x5_1).f1, wrap64 ((wrap64 (x1_1 + 1)) + 1), (rd_T69 y625 x5_1).f3⟩ : S69)) := ⟨_, rfl⟩
    replace H : (laws_markPathS.l0 k1 (y626.set (x5_1 : Int).toNat (⟨(rd_T69 y626 x5_1).f0, (rd_T69 y626 x5_1).f1, (rd_T69 y626 x5_1).f2, wrap64 ((wrap64 ((wrap64 (x1_1 + 1)) + 1)) + 1)⟩ : S69)) (wrap64 ((wrap64 ((wrap64 ((wrap64 (x1_1 + 1)) + 1)) + 1)) + 1)) (wrap64 (x5_1 + 1))) = some (r1, r2) := rH H hy626
    have Ny626 := Aside0.mk hy626
    clear hy626
    obtain ⟨y627, hy627⟩ : ∃ y_ : List (S69), y_ = (y626.set (x5_1 : Int).toNat (⟨(rd_T69 y626 x5_1).f0, (rd_T69 y626 x5_1).f1, (rd_T69 y626 x5_1).f2, wrap64 ((wrap64 ((wrap64 (x1_1 + 1)) + 1)) + 1)⟩ : S69)) := ⟨_, rfl⟩
    replace H : (laws_markPathS.l0 k1 y627 (wrap64 ((wrap64 ((wrap64 ((wrap64 (x1_1 + 1)) + 1)) + 1)) + 1)) (wrap64 (x5_1 + 1))) = some (r1, r2) := rH H hy627
    have Ny627 := Aside0.mk hy627
    clear hy627
    have H' := Aside0.mk H
    clear H
    obtain ⟨Ao9, co9, eo9⟩ := Kd.R_slice HO_0.out
    subst eo9
    obtain ⟨p5, q5⟩ : 0 ≤ (x5_1 : Int) ∧ (x5_1 : Int) < ((x0_1.length : Int) : Int) := ⟨dA, dA⟩
    obtain ⟨go5, co5, eo5, gb5, gl5, cl5, HG5⟩ := Kd.R_form HO_0.out (by omega)
    (first | cases eo5 | (injection eo5 with ea_ en_ ec_; (first | subst ea_ | (injection ea_ with ea_; subst ea_)); subst ec_; clear en_))
    have GB5 := Aside0.mk gb5
    have GG5 := Aside0.mk HG5
    clear gb5 gl5 HG5
    have HMgo5 := Aside0.mk (show (P0_ go5 ∨ w.heap.size ≤ go5) from (HO_0.out.1 _ rfl))
    obtain ⟨ce5, hcl5, hM5, hcc5, hfr5⟩ := Kd.R_elem HO_0.out z69 (x5_1 : Int) p5 q5
    obtain rfl := k69_openM hM5
    have hx5_0 : wr.cell? ⟨go5, (x5_1 : Int).toNat * 4, none⟩ = some (.int .i64 ((rd_T69 x0_1 x5_1).f0)) := hcc5 0 _ rfl
    have hx5_1 : wr.cell? ⟨go5, (x5_1 : Int).toNat * 4 + 1, none⟩ = some (.int .i64 ((rd_T69 x0_1 x5_1).f1)) := hcc5 1 _ rfl
    have hx5_2 : wr.cell? ⟨go5, (x5_1 : Int).toNat * 4 + 2, none⟩ = some (.int .i64 ((rd_T69 x0_1 x5_1).f2)) := hcc5 2 _ rfl
    have hx5_3 : wr.cell? ⟨go5, (x5_1 : Int).toNat * 4 + 3, none⟩ = some (.int .i64 ((rd_T69 x0_1 x5_1).f3)) := hcc5 3 _ rfl
    have hf5_0 : wr.frozen? ⟨go5, (x5_1 : Int).toNat * 4, none⟩ = false := hfr5 0
    have hf5_1 : wr.frozen? ⟨go5, (x5_1 : Int).toNat * 4 + 1, none⟩ = false := hfr5 1
    have hf5_2 : wr.frozen? ⟨go5, (x5_1 : Int).toNat * 4 + 2, none⟩ = false := hfr5 2
    have hf5_3 : wr.frozen? ⟨go5, (x5_1 : Int).toNat * 4 + 3, none⟩ = false := hfr5 3
    clear hcl5 hcc5 hfr5 hM5
    obtain ⟨p5, q5⟩ := eT p5 q5
    have HX10 := Aside0.mk (show Kd.R k69 69 wr w0.heap.size (fun k_ => (P0_ k_ ∨ w.heap.size ≤ k_)) (.slice (some ⟨go5, 0, none⟩) x0_1.length co9) x0_1 from (rK HO_0))
    obtain ⟨ce10, hcl10, hM10, hcc10, hfr10⟩ := Kd.R_elem HX10.out z69 (x5_1 : Int) (dA) (by have h_ : (x5_1 : Int) < ((x0_1.length : Int) : Int) := dA; first | exact h_ | (have e_ := (Kd.R_reads' HO_0.out).1; omega) | simpa using h_)
    obtain rfl := k69_openM hM10
    have HP10 := Kd.R_seg HX10.out (x5_1 : Int) (dA) (by have h_ : (x5_1 : Int) < ((x0_1.length : Int) : Int) := dA; first | exact h_ | (have e_ := (Kd.R_reads' HO_0.out).1; omega) | simpa using h_) (seg := [.int .i64 x1_1]) (j := 0) hcl10 hcc10 (show 1 ≤ 4 from by decide) (x' := (⟨x1_1, (rd_T69 x0_1 x5_1).f1, (rd_T69 x0_1 x5_1).f2, (rd_T69 x0_1 x5_1).f3⟩ : S69)) (k69_mkM _ _ _ (⟨x1_1, (rd_T69 x0_1 x5_1).f1, (rd_T69 x0_1 x5_1).f2, (rd_T69 x0_1 x5_1).f3⟩ : S69) ) (fun _ hk => hk)
    have hx10_0 := hcc10 0 _ rfl
    (try simp only [show (k69).sz = 4 from rfl, Nat.mul_one, Nat.add_zero] at hx10_0)
    have hf10_0 := hfr10 0
    (try simp only [show (k69).sz = 4 from rfl, Nat.mul_one, Nat.add_zero] at hf10_0)
    clear hcl10 hcc10 hfr10 hM10
    go_wp2_with (first | ((with_reducible refine gate_store (t := 3) (p := 16) rfl ?_); refine store_event (t := 3) (p := 16) (v := ?vo_w11) (w1 := (wr.setCell ⟨go5, (x5_1 : Int).toNat * 4, none⟩ (.int .i64 x1_1))) ?hg ?ho ?hn ?hr ?_; (case ho => rfl); (case hg => rfl); (case hn => rfl); (case hr => first | (go_simp; done) | (go_simp; rfl)); intro w11 hw; have hg : wr.grownBy w11 (some go5) := (by rw [hw]; exact HP10.2); have hp_ : Kd.R k69 69 w11 w0.heap.size (fun k_ => (P0_ k_ ∨ w.heap.size ≤ k_)) (.slice (some ⟨go5, 0, none⟩) x0_1.length co9) y624 := (by rw [hw, Ny624.out]; exact HP10.1); clear HP10; have n0_ := Aside0.mk (hp_); have n1_ := Aside0.mk ((by rw [hw]; exact below_set (HB.out) GB5.out : Below w0.heap.size w0 w11)); have n2_ := Aside0.mk (Kept.of_grown (S := (fun k_ => P0_ k_)) hg (by repeat (first | (with_reducible first | exact HK.out | apply Kept.alloc | apply Kept.drewN | apply Kept.drew) | exact HK.out)) (fun k_ e_ => (HO_0.out.1 k_ e_))); clear HO_0; clear HB; clear HK; have HO_0 := n0_; have HB := n1_; have HK := n2_; clear n0_ n1_ n2_; clear hg hw hp_; have p6 : 0 ≤ (x5_1 : Int) := dA; have q6 : (x5_1 : Int) < ((x0_1.length : Int) : Int) := dA; obtain ⟨ce6, hcl6, hM6, hcc6, hfr6⟩ := Kd.R_elem HO_0.out z69 (x5_1 : Int) p6 q6; obtain rfl := k69_openM hM6; have hx6_0 : w11.cell? ⟨go5, (x5_1 : Int).toNat * 4, none⟩ = some (.int .i64 ((rd_T69 y624 x5_1).f0)) := hcc6 0 _ rfl; have hx6_1 : w11.cell? ⟨go5, (x5_1 : Int).toNat * 4 + 1, none⟩ = some (.int .i64 ((rd_T69 y624 x5_1).f1)) := hcc6 1 _ rfl; have hx6_2 : w11.cell? ⟨go5, (x5_1 : Int).toNat * 4 + 2, none⟩ = some (.int .i64 ((rd_T69 y624 x5_1).f2)) := hcc6 2 _ rfl; have hx6_3 : w11.cell? ⟨go5, (x5_1 : Int).toNat * 4 + 3, none⟩ = some (.int .i64 ((rd_T69 y624 x5_1).f3)) := hcc6 3 _ rfl; have hf6_0 : w11.frozen? ⟨go5, (x5_1 : Int).toNat * 4, none⟩ = false := hfr6 0; have hf6_1 : w11.frozen? ⟨go5, (x5_1 : Int).toNat * 4 + 1, none⟩ = false := hfr6 1; have hf6_2 : w11.frozen? ⟨go5, (x5_1 : Int).toNat * 4 + 2, none⟩ = false := hfr6 2; have hf6_3 : w11.frozen? ⟨go5, (x5_1 : Int).toNat * 4 + 3, none⟩ = false := hfr6 3; clear hcl6 hcc6 hfr6 hM6; replace p6 := eq_true p6; replace q6 := eq_true q6; have HX12 := Aside0.mk (show Kd.R k69 69 w11 w0.heap.size (fun k_ => (P0_ k_ ∨ w.heap.size ≤ k_)) (.slice (some ⟨go5, 0, none⟩) x0_1.length co9) y624 from (rK HO_0)); obtain ⟨ce12, hcl12, hM12, hcc12, hfr12⟩ := Kd.R_elem HX12.out z69 (x5_1 : Int) (dA) (by have h_ : (x5_1 : Int) < ((x0_1.length : Int) : Int) := dA; first | exact h_ | (have e_ := (Kd.R_reads' HO_0.out).1; omega) | simpa using h_); obtain rfl := k69_openM hM12; have HP12 := Kd.R_seg HX12.out (x5_1 : Int) (dA) (by have h_ : (x5_1 : Int) < ((x0_1.length : Int) : Int) := dA; first | exact h_ | (have e_ := (Kd.R_reads' HO_0.out).1; omega) | simpa using h_) (seg := [.int .i64 (wrap64 (x1_1 + 1))]) (j := 1) hcl12 hcc12 (show 2 ≤ 4 from by decide) (x' := (⟨(rd_T69 y624 x5_1).f0, wrap64 (x1_1 + 1), (rd_T69 y624 x5_1).f2, (rd_T69 y624 x5_1).f3⟩ : S69)) (k69_mkM _ _ _ (⟨(rd_T69 y624 x5_1).f0, wrap64 (x1_1 + 1), (rd_T69 y624 x5_1).f2, (rd_T69 y624 x5_1).f3⟩ : S69) ) (fun _ hk => hk); have hx12_1 := hcc12 1 _ rfl; (try simp only [show (k69).sz = 4 from rfl, Nat.mul_one, Nat.add_zero] at hx12_1); have hf12_1 := hfr12 1; (try simp only [show (k69).sz = 4 from rfl, Nat.mul_one, Nat.add_zero] at hf12_1); clear hcl12 hcc12 hfr12 hM12) | ((with_reducible refine gate_store (t := 3) (p := 23) rfl ?_); refine store_event (t := 3) (p := 23) (v := ?vo_w13) (w1 := (w11.setCell ⟨go5, (x5_1 : Int).toNat * 4 + 1, none⟩ (.int .i64 (wrap64 (x1_1 + 1))))) ?hg ?ho ?hn ?hr ?_; (case ho => rfl); (case hg => rfl); (case hn => rfl); (case hr => first | (go_simp; done) | (go_simp; rfl)); intro w13 hw; have hg : w11.grownBy w13 (some go5) := (by rw [hw]; exact HP12.2); have hp_ : Kd.R k69 69 w13 w0.heap.size (fun k_ => (P0_ k_ ∨ w.heap.size ≤ k_)) (.slice (some ⟨go5, 0, none⟩) x0_1.length co9) y625 := (by rw [hw, Ny625.out]; exact HP12.1); clear HP12; have n0_ := Aside0.mk (hp_); have n1_ := Aside0.mk ((by rw [hw]; exact below_set (HB.out) GB5.out : Below w0.heap.size w0 w13)); have n2_ := Aside0.mk (Kept.of_grown (S := (fun k_ => P0_ k_)) hg (by repeat (first | (with_reducible first | exact HK.out | apply Kept.alloc | apply Kept.drewN | apply Kept.drew) | exact HK.out)) (fun k_ e_ => (HO_0.out.1 k_ e_))); clear HO_0; clear HB; clear HK; have HO_0 := n0_; have HB := n1_; have HK := n2_; clear n0_ n1_ n2_; clear hg hw hp_; have p7 : 0 ≤ (x5_1 : Int) := dA; have q7 : (x5_1 : Int) < ((x0_1.length : Int) : Int) := dA; obtain ⟨ce7, hcl7, hM7, hcc7, hfr7⟩ := Kd.R_elem HO_0.out z69 (x5_1 : Int) p7 q7; obtain rfl := k69_openM hM7; have hx7_0 : w13.cell? ⟨go5, (x5_1 : Int).toNat * 4, none⟩ = some (.int .i64 ((rd_T69 y625 x5_1).f0)) := hcc7 0 _ rfl; have hx7_1 : w13.cell? ⟨go5, (x5_1 : Int).toNat * 4 + 1, none⟩ = some (.int .i64 ((rd_T69 y625 x5_1).f1)) := hcc7 1 _ rfl; have hx7_2 : w13.cell? ⟨go5, (x5_1 : Int).toNat * 4 + 2, none⟩ = some (.int .i64 ((rd_T69 y625 x5_1).f2)) := hcc7 2 _ rfl; have hx7_3 : w13.cell? ⟨go5, (x5_1 : Int).toNat * 4 + 3, none⟩ = some (.int .i64 ((rd_T69 y625 x5_1).f3)) := hcc7 3 _ rfl; have hf7_0 : w13.frozen? ⟨go5, (x5_1 : Int).toNat * 4, none⟩ = false := hfr7 0; have hf7_1 : w13.frozen? ⟨go5, (x5_1 : Int).toNat * 4 + 1, none⟩ = false := hfr7 1; have hf7_2 : w13.frozen? ⟨go5, (x5_1 : Int).toNat * 4 + 2, none⟩ = false := hfr7 2; have hf7_3 : w13.frozen? ⟨go5, (x5_1 : Int).toNat * 4 + 3, none⟩ = false := hfr7 3; clear hcl7 hcc7 hfr7 hM7; replace p7 := eq_true p7; replace q7 := eq_true q7; have HX14 := Aside0.mk (show Kd.R k69 69 w13 w0.heap.size (fun k_ => (P0_ k_ ∨ w.heap.size ≤ k_)) (.slice (some ⟨go5, 0, none⟩) x0_1.length co9) y625 from (rK HO_0)); obtain ⟨ce14, hcl14, hM14, hcc14, hfr14⟩ := Kd.R_elem HX14.out z69 (x5_1 : Int) (dA) (by have h_ : (x5_1 : Int) < ((x0_1.length : Int) : Int) := dA; first | exact h_ | (have e_ := (Kd.R_reads' HO_0.out).1; omega) | simpa using h_); obtain rfl := k69_openM hM14; have HP14 := Kd.R_seg HX14.out (x5_1 : Int) (dA) (by have h_ : (x5_1 : Int) < ((x0_1.length : Int) : Int) := dA; first | exact h_ | (have e_ := (Kd.R_reads' HO_0.out).1; omega) | simpa using h_) (seg := [.int .i64 (wrap64 ((wrap64 (x1_1 + 1)) + 1))]) (j := 2) hcl14 hcc14 (show 3 ≤ 4 from by decide) (x' := (⟨(rd_T69 y625 x5_1).f0, (rd_T69 y625 x5_1).f1, wrap64 ((wrap64 (x1_1 + 1)) + 1), (rd_T69 y625 x5_1).f3⟩ : S69)) (k69_mkM _ _ _ (⟨(rd_T69 y625 x5_1).f0, (rd_T69 y625 x5_1).f1, wrap64 ((wrap64 (x1_1 + 1)) + 1), (rd_T69 y625 x5_1).f3⟩ : S69) ) (fun _ hk => hk); have hx14_2 := hcc14 2 _ rfl; (try simp only [show (k69).sz = 4 from rfl, Nat.mul_one, Nat.add_zero] at hx14_2); have hf14_2 := hfr14 2; (try simp only [show (k69).sz = 4 from rfl, Nat.mul_one, Nat.add_zero] at hf14_2); clear hcl14 hcc14 hfr14 hM14) | ((with_reducible refine gate_store (t := 3) (p := 30) rfl ?_); refine store_event (t := 3) (p := 30) (v := ?vo_w15) (w1 := (w13.setCell ⟨go5, (x5_1 : Int).toNat * 4 + 2, none⟩ (.int .i64 (wrap64 ((wrap64 (x1_1 + 1)) + 1))))) ?hg ?ho ?hn ?hr ?_; (case ho => rfl); (case hg => rfl); (case hn => rfl); (case hr => first | (go_simp; done) | (go_simp; rfl)); intro w15 hw; have hg : w13.grownBy w15 (some go5) := (by rw [hw]; exact HP14.2); have hp_ : Kd.R k69 69 w15 w0.heap.size (fun k_ => (P0_ k_ ∨ w.heap.size ≤ k_)) (.slice (some ⟨go5, 0, none⟩) x0_1.length co9) y626 := (by rw [hw, Ny626.out]; exact HP14.1); clear HP14; have n0_ := Aside0.mk (hp_); have n1_ := Aside0.mk ((by rw [hw]; exact below_set (HB.out) GB5.out : Below w0.heap.size w0 w15)); have n2_ := Aside0.mk (Kept.of_grown (S := (fun k_ => P0_ k_)) hg (by repeat (first | (with_reducible first | exact HK.out | apply Kept.alloc | apply Kept.drewN | apply Kept.drew) | exact HK.out)) (fun k_ e_ => (HO_0.out.1 k_ e_))); clear HO_0; clear HB; clear HK; have HO_0 := n0_; have HB := n1_; have HK := n2_; clear n0_ n1_ n2_; clear hg hw hp_; have p8 : 0 ≤ (x5_1 : Int) := dA; have q8 : (x5_1 : Int) < ((x0_1.length : Int) : Int) := dA; obtain ⟨ce8, hcl8, hM8, hcc8, hfr8⟩ := Kd.R_elem HO_0.out z69 (x5_1 : Int) p8 q8; obtain rfl := k69_openM hM8; have hx8_0 : w15.cell? ⟨go5, (x5_1 : Int).toNat * 4, none⟩ = some (.int .i64 ((rd_T69 y626 x5_1).f0)) := hcc8 0 _ rfl; have hx8_1 : w15.cell? ⟨go5, (x5_1 : Int).toNat * 4 + 1, none⟩ = some (.int .i64 ((rd_T69 y626 x5_1).f1)) := hcc8 1 _ rfl; have hx8_2 : w15.cell? ⟨go5, (x5_1 : Int).toNat * 4 + 2, none⟩ = some (.int .i64 ((rd_T69 y626 x5_1).f2)) := hcc8 2 _ rfl; have hx8_3 : w15.cell? ⟨go5, (x5_1 : Int).toNat * 4 + 3, none⟩ = some (.int .i64 ((rd_T69 y626 x5_1).f3)) := hcc8 3 _ rfl; have hf8_0 : w15.frozen? ⟨go5, (x5_1 : Int).toNat * 4, none⟩ = false := hfr8 0; have hf8_1 : w15.frozen? ⟨go5, (x5_1 : Int).toNat * 4 + 1, none⟩ = false := hfr8 1; have hf8_2 : w15.frozen? ⟨go5, (x5_1 : Int).toNat * 4 + 2, none⟩ = false := hfr8 2; have hf8_3 : w15.frozen? ⟨go5, (x5_1 : Int).toNat * 4 + 3, none⟩ = false := hfr8 3; clear hcl8 hcc8 hfr8 hM8; replace p8 := eq_true p8; replace q8 := eq_true q8; have HX16 := Aside0.mk (show Kd.R k69 69 w15 w0.heap.size (fun k_ => (P0_ k_ ∨ w.heap.size ≤ k_)) (.slice (some ⟨go5, 0, none⟩) x0_1.length co9) y626 from (rK HO_0)); obtain ⟨ce16, hcl16, hM16, hcc16, hfr16⟩ := Kd.R_elem HX16.out z69 (x5_1 : Int) (dA) (by have h_ : (x5_1 : Int) < ((x0_1.length : Int) : Int) := dA; first | exact h_ | (have e_ := (Kd.R_reads' HO_0.out).1; omega) | simpa using h_); obtain rfl := k69_openM hM16; have HP16 := Kd.R_seg HX16.out (x5_1 : Int) (dA) (by have h_ : (x5_1 : Int) < ((x0_1.length : Int) : Int) := dA; first | exact h_ | (have e_ := (Kd.R_reads' HO_0.out).1; omega) | simpa using h_) (seg := [.int .i64 (wrap64 ((wrap64 ((wrap64 (x1_1 + 1)) + 1)) + 1))]) (j := 3) hcl16 hcc16 (show 4 ≤ 4 from by decide) (x' := (⟨(rd_T69 y626 x5_1).f0, (rd_T69 y626 x5_1).f1, (rd_T69 y626 x5_1).f2, wrap64 ((wrap64 ((wrap64 (x1_1 + 1)) + 1)) + 1)⟩ : S69)) (k69_mkM _ _ _ (⟨(rd_T69 y626 x5_1).f0, (rd_T69 y626 x5_1).f1, (rd_T69 y626 x5_1).f2, wrap64 ((wrap64 ((wrap64 (x1_1 + 1)) + 1)) + 1)⟩ : S69) ) (fun _ hk => hk); have hx16_3 := hcc16 3 _ rfl; (try simp only [show (k69).sz = 4 from rfl, Nat.mul_one, Nat.add_zero] at hx16_3); have hf16_3 := hfr16 3; (try simp only [show (k69).sz = 4 from rfl, Nat.mul_one, Nat.add_zero] at hf16_3); clear hcl16 hcc16 hfr16 hM16) | ((with_reducible refine gate_store (t := 3) (p := 37) rfl ?_); refine store_event (t := 3) (p := 37) (v := ?vo_w17) (w1 := (w15.setCell ⟨go5, (x5_1 : Int).toNat * 4 + 3, none⟩ (.int .i64 (wrap64 ((wrap64 ((wrap64 (x1_1 + 1)) + 1)) + 1))))) ?hg ?ho ?hn ?hr ?_; (case ho => rfl); (case hg => rfl); (case hn => rfl); (case hr => first | (go_simp; done) | (go_simp; rfl)); intro w17 hw; have hg : w15.grownBy w17 (some go5) := (by rw [hw]; exact HP16.2); have hp_ : Kd.R k69 69 w17 w0.heap.size (fun k_ => (P0_ k_ ∨ w.heap.size ≤ k_)) (.slice (some ⟨go5, 0, none⟩) x0_1.length co9) y627 := (by rw [hw, Ny627.out]; exact HP16.1); clear HP16; have n0_ := Aside0.mk (hp_); have n1_ := Aside0.mk ((by rw [hw]; exact below_set (HB.out) GB5.out : Below w0.heap.size w0 w17)); have n2_ := Aside0.mk (Kept.of_grown (S := (fun k_ => P0_ k_)) hg (by repeat (first | (with_reducible first | exact HK.out | apply Kept.alloc | apply Kept.drewN | apply Kept.drew) | exact HK.out)) (fun k_ e_ => (HO_0.out.1 k_ e_))); clear HO_0; clear HB; clear HK; have HO_0 := n0_; have HB := n1_; have HK := n2_; clear n0_ n1_ n2_; clear hg hw hp_))
    go_roundg k1
    case measure => have := HK1.out; omega
    case rel => exact ⟨(y627), (wrap64 ((wrap64 ((wrap64 ((wrap64 (x1_1 + 1)) + 1)) + 1)) + 1)), (wrap64 (x5_1 + 1)), rS, rS, H', ⟨by have := HK1.out; omega⟩, ⟨rK HO_0⟩, ⟨by repeat (first | (with_reducible first | exact HK.out | apply Kept.alloc | apply Kept.drewN | apply Kept.drew) | exact HK.out)⟩, ⟨bA⟩⟩
   rw [if_neg c3] at H
   have c3b0 := decide_eq_false c3
   clear c3
   simp only [Option.some.injEq, Prod.mk.injEq] at H
   obtain ⟨rfl, rfl⟩ := H
   obtain ⟨Ao18, co18, eo18⟩ := Kd.R_slice HO_0.out
   subst eo18
   go_wp2
   go_ret
   exact ⟨rA, rK HO_0, bA, by repeat (first | (with_reducible first | exact HK.out | apply Kept.alloc | apply Kept.drewN | apply Kept.drew) | exact HK.out)⟩

/-! ### laws_markIntS: function 20 -/
def laws_markIntS.l0 : Nat → List Int → Int → Int → Option (Int × List Int)
 | 0, _, _, _ => none
 | k + 1, x0, x1, x5 => if x5 < (x0.length : Int) then (if 0 ≤ x5 then (laws_markIntS.l0 k (x0.set (x5 : Int).toNat x1) (wrap64 (x1 + 1)) (wrap64 (x5 + 1))) else (none)) else (some (x1, x0))
def laws_markIntS.f (k : Nat) (l0 : List Int) (a1 : Int) : Option (Int × List Int) := laws_markIntS.l0 k l0 a1 0
theorem laws_markIntS.mono_l : ∀ k, (∀ y0 y1 y2, LeO (laws_markIntS.l0 k y0 y1 y2) (laws_markIntS.l0 (k + 1) y0 y1 y2))
 | 0 => fun _ _ _ r h => by simp [laws_markIntS.l0] at h
 | k + 1 => by
  have ih0 := laws_markIntS.mono_l k
  ·
   intro y0 y1 y2
   unfold laws_markIntS.l0
   exact mz1 ih0
theorem laws_markIntS.mono : ∀ a0 a1 k, LeO (laws_markIntS.f k a0 a1) (laws_markIntS.f (k + 1) a0 a1) := by
 intro a0 a1 k
 have ih0 := laws_markIntS.mono_l k
 unfold laws_markIntS.f
 exact mz1 ih0
set_option maxHeartbeats 8000000 in
set_option maxRecDepth 100000 in
theorem laws_markIntS.calls (k : Nat) (P0_ : Nat → Prop) (u9000_ : Value) (l0 : List Int) (a1 : Int) (r1 : Int) (r2 : List Int) (w0 w : World) (hB : Below w0.heap.size w0 w) (ho0 : Kd.R (Kd.int .i64) 3 w w0.heap.size P0_ u9000_ l0) (h : laws_markIntS.f k l0 a1 = some (r1, r2)) :
  Calls Tryz.prog 20 #[u9000_, .int .i64 a1] w fun e w' => e = .returned (.int .i64 r1) ∧ Kd.R (Kd.int .i64) 3 w' w0.heap.size (fun k_ => (P0_ k_ ∨ w.heap.size ≤ k_)) u9000_ r2 ∧ Below w0.heap.size w0 w' ∧ Kept w w' (fun k_ => P0_ k_) := by
 have HO0 := Aside0.mk (show Kd.R (Kd.int .i64) 3 w w0.heap.size (fun k_ => (P0_ k_ ∨ w.heap.size ≤ k_)) u9000_ l0 from Kd.R_mono ho0 (fun k_ hk => (.inl hk)))
 have HK := Aside0.mk (Kept.refl w (fun k_ => P0_ k_))
 have HW0 := Aside0.mk hB.size
 have HB := Aside0.mk hB
 clear hB
 have H : (laws_markIntS.l0 k l0 a1 0) = some (r1, r2) := h
 clear h
 have H' := Aside0.mk H
 clear H
 go_enter Tryz.func20, Tryz.ntmps20
 go_wp2
 go_loopg [1, 5] k (fun kq v1 v5 w' => ∃ (x0_1 : List Int) (x1_1 : Int) (x5_1 : Int), v1 = .int .i64 x1_1 ∧ v5 = .int .i64 x5_1 ∧ Aside0 (laws_markIntS.l0 kq x0_1 x1_1 x5_1 = some (r1, r2)) ∧ Aside0 (kq ≤ k) ∧ Aside0 (Kd.R (Kd.int .i64) 3 w' w0.heap.size (fun k_ => (P0_ k_ ∨ w.heap.size ≤ k_)) u9000_ x0_1) ∧ Aside0 (Kept w w' (fun k_ => P0_ k_)) ∧ Aside0 (Below w0.heap.size w0 w'))
 case atStart => exact ⟨(l0), (a1), (0), rS, rS, H', ⟨Nat.le_refl _⟩, ⟨rK HO0⟩, ⟨by repeat (first | (with_reducible first | exact HK.out | apply Kept.alloc | apply Kept.drewN | apply Kept.drew) | exact HK.out)⟩, ⟨bA⟩⟩
 case round =>
  clear H'
  obtain ⟨x0_1, x1_1, x5_1, rfl, rfl, HA, HK1, HO_0, HK, HB⟩ := hrel
  cases gk with
  | zero => exact absurd HA.out (by simp [laws_markIntS.l0])
  | succ k1 =>
   have H := HA.out
   clear HA
   simp only [laws_markIntS.l0] at H
   by_cases c3 : x5_1 < (x0_1.length : Int)
   ·
    rw [if_pos c3] at H
    have c3b0 := decide_eq_true c3
    clear c3
    have c4 : 0 ≤ x5_1 := ifN H
    replace H := ifT H
    have c4b0 := decide_eq_true c4
    clear c4
    obtain ⟨y628, hy628⟩ : ∃ y_ : List Int, y_ = (x0_1.set (x5_1 : Int).toNat x1_1) := ⟨_, rfl⟩
    replace H : (laws_markIntS.l0 k1 y628 (wrap64 (x1_1 + 1)) (wrap64 (x5_1 + 1))) = some (r1, r2) := rH H hy628
    have Ny628 := Aside0.mk hy628
    clear hy628
    have H' := Aside0.mk H
    clear H
    obtain ⟨Ao6, co6, eo6⟩ := Kd.R_slice HO_0.out
    subst eo6
    obtain ⟨p5, q5⟩ : 0 ≤ (x5_1 : Int) ∧ (x5_1 : Int) < ((x0_1.length : Int) : Int) := ⟨dA, dA⟩
    obtain ⟨go5, co5, eo5, gb5, gl5, cl5, HG5⟩ := Kd.R_form HO_0.out (by omega)
    (first | cases eo5 | (injection eo5 with ea_ en_ ec_; (first | subst ea_ | (injection ea_ with ea_; subst ea_)); subst ec_; clear en_))
    have GB5 := Aside0.mk gb5
    have GG5 := Aside0.mk HG5
    clear gb5 gl5 HG5
    have HMgo5 := Aside0.mk (show (P0_ go5 ∨ w.heap.size ≤ go5) from (HO_0.out.1 _ rfl))
    obtain ⟨hx5_0, hf5_0⟩ := Kd.R_celln 0 HO_0.out (x5_1 : Int) p5 q5
    obtain ⟨p5, q5⟩ := eT p5 q5
    have HP7 := Kd.R_putg HO_0.out (x5_1 : Int) x1_1
    go_wp2_with (first | ((with_reducible refine gate_store (t := 3) (p := 15) rfl ?_); refine store_event (t := 3) (p := 15) (v := ?vo_w8) (w1 := (wr.setCell ⟨go5, (x5_1 : Int).toNat, none⟩ (.int .i64 x1_1))) ?hg ?ho ?hn ?hr ?_; (case ho => rfl); (case hg => rfl); (case hn => rfl); (case hr => first | (go_simp; done) | (go_simp; rfl)); intro w8 hw; have hg : wr.grownBy w8 (some go5) := (by rw [hw]; exact HP7.2); have hp_ : Kd.R (Kd.int .i64) 3 w8 w0.heap.size (fun k_ => (P0_ k_ ∨ w.heap.size ≤ k_)) (.slice (some ⟨go5, 0, none⟩) x0_1.length co6) y628 := (by rw [hw, Ny628.out]; exact HP7.1); clear HP7; have n0_ := Aside0.mk (hp_); have n1_ := Aside0.mk ((by rw [hw]; exact below_set (HB.out) GB5.out : Below w0.heap.size w0 w8)); have n2_ := Aside0.mk (Kept.of_grown (S := (fun k_ => P0_ k_)) hg (by repeat (first | (with_reducible first | exact HK.out | apply Kept.alloc | apply Kept.drewN | apply Kept.drew) | exact HK.out)) (fun k_ e_ => (HO_0.out.1 k_ e_))); clear HO_0; clear HB; clear HK; have HO_0 := n0_; have HB := n1_; have HK := n2_; clear n0_ n1_ n2_; clear hg hw hp_))
    go_roundg k1
    case measure => have := HK1.out; omega
    case rel => exact ⟨(y628), (wrap64 (x1_1 + 1)), (wrap64 (x5_1 + 1)), rS, rS, H', ⟨by have := HK1.out; omega⟩, ⟨rK HO_0⟩, ⟨by repeat (first | (with_reducible first | exact HK.out | apply Kept.alloc | apply Kept.drewN | apply Kept.drew) | exact HK.out)⟩, ⟨bA⟩⟩
   rw [if_neg c3] at H
   have c3b0 := decide_eq_false c3
   clear c3
   simp only [Option.some.injEq, Prod.mk.injEq] at H
   obtain ⟨rfl, rfl⟩ := H
   obtain ⟨Ao9, co9, eo9⟩ := Kd.R_slice HO_0.out
   subst eo9
   go_wp2
   go_ret
   exact ⟨rA, rK HO_0, bA, by repeat (first | (with_reducible first | exact HK.out | apply Kept.alloc | apply Kept.drewN | apply Kept.drew) | exact HK.out)⟩

/-! ### laws_markPartS: function 18 -/
def laws_markPartS.l0 : Nat → List S72 → Int → Int → Option (Int × List S72)
 | 0, _, _, _ => none
 | k + 1, x, a, i => if i < (x.length : Int) then (if 0 ≤ i then ((laws_markIntS.f k (rd_T72 x i).f0 a).bind fun t => laws_markPartS.l0 k (x.set (i : Int).toNat (⟨t.2, t.1⟩ : S72)) (wrap64 (t.1 + 1)) (wrap64 (i + 1))) else (none)) else (some (a, x))
def laws_markPartS.f (k : Nat) (l0 : List S72) (a1 : Int) : Option (Int × List S72) := laws_markPartS.l0 k l0 a1 0
theorem laws_markPartS.mono_l : ∀ k, (∀ y0 y1 y2, LeO (laws_markPartS.l0 k y0 y1 y2) (laws_markPartS.l0 (k + 1) y0 y1 y2))
 | 0 => fun _ _ _ r h => by simp [laws_markPartS.l0] at h
 | k + 1 => by
  have ih0 := laws_markPartS.mono_l k
  ·
   intro y0 y1 y2
   unfold laws_markPartS.l0
   repeat' first | (with_reducible first | exact LeO.refl _ | exact LeO.none _ | refine LeO.ite ?_ ?_ | refine LeO.bind ?_ (fun _ => ?_) | exact ih0 _ _ _ | exact laws_markIntS.mono _ _ _)
theorem laws_markPartS.mono : ∀ a0 a1 k, LeO (laws_markPartS.f k a0 a1) (laws_markPartS.f (k + 1) a0 a1) := by
 intro a0 a1 k
 have ih0 := laws_markPartS.mono_l k
 unfold laws_markPartS.f
 exact ih0 _ _ _
theorem laws_markPartS.hstep {α : Type} {d : Kd α} {e base : Nat} {w w1 : World} {ok oki : Nat → Prop} {v : Value} {xs : List α} {i : Int} {c : List Value} (h : Kd.H d e w base ok v xs i oki c) (hm : ∀ k, ok k → ¬ oki k → k < w.heap.size → w1.heap[k]? = w.heap[k]?) : Kd.H d e w1 base ok v xs i oki c := by
 obtain ⟨ho, f, h⟩ := h
 exact ⟨ho, f, Kd.R_step h (fun k hk hlt => hm k hk.1 hk.2 hlt)⟩
theorem laws_markPartS.hmono {α : Type} {d : Kd α} {e base : Nat} {w : World} {ok ok' oki : Nat → Prop} {v : Value} {xs : List α} {i : Int} {c : List Value} (h : Kd.H d e w base ok v xs i oki c) (hok : ∀ k, ok k → ok' k) : Kd.H d e w base ok' v xs i oki c := by
 obtain ⟨ho, f, h⟩ := h
 exact ⟨fun k hk => hok k (ho k hk), f, Kd.R_mono h (fun k hk => ⟨hok k hk.1, hk.2⟩)⟩
set_option maxHeartbeats 8000000 in
set_option maxRecDepth 100000 in
theorem laws_markPartS.calls (k : Nat) (P0_ : Nat → Prop) (u9000_ : Value) (l0 : List S72) (a1 : Int) (r1 : Int) (r2 : List S72) (w0 w : World) (hB : Below w0.heap.size w0 w) (ho0 : Kd.S k72 72 w w0.heap.size P0_ u9000_ l0) (h : laws_markPartS.f k l0 a1 = some (r1, r2)) :
  Calls Tryz.prog 18 #[u9000_, .int .i64 a1] w fun e w' => e = .returned (.int .i64 r1) ∧ Kd.S k72 72 w' w0.heap.size (fun k_ => (P0_ k_ ∨ w.heap.size ≤ k_)) u9000_ r2 ∧ Below w0.heap.size w0 w' ∧ Kept w w' (fun k_ => P0_ k_) := by
 have HO0 := Aside0.mk (show Kd.S k72 72 w w0.heap.size (fun k_ => (P0_ k_ ∨ w.heap.size ≤ k_)) u9000_ l0 from Kd.S_mono ho0 (fun k_ hk => (.inl hk)))
 have HK := Aside0.mk (Kept.refl w (fun k_ => P0_ k_))
 have HB := Aside0.mk hB
 have hu := Tryz.underlying72
 clear hB
 have H : (laws_markPartS.l0 k l0 a1 0) = some (r1, r2) := h
 clear h ho0
 have H' := Aside0.mk H
 clear H
 obtain ⟨Ao, co, eo⟩ := Kd.S_slice HO0.out
 subst eo
 go_enter Tryz.func18, Tryz.ntmps18
 go_wp2
 go_loopg [1, 5] k (fun kq v1 v5 w' => ∃ (x0_1 : List S72) (x1_1 : Int) (x5_1 : Int), v1 = .int .i64 x1_1 ∧ v5 = .int .i64 x5_1 ∧ Aside0 (laws_markPartS.l0 kq x0_1 x1_1 x5_1 = some (r1, r2)) ∧ Aside0 (kq ≤ k) ∧ Aside0 (Kd.S k72 72 w' w0.heap.size (fun k_ => (P0_ k_ ∨ w.heap.size ≤ k_)) (.slice Ao l0.length co) x0_1) ∧ Aside0 (Kept w w' (fun k_ => P0_ k_)) ∧ Aside0 (Below w0.heap.size w0 w'))
 case atStart => exact ⟨l0, a1, 0, rfl, rfl, H', ⟨Nat.le_refl _⟩, HO0, HK, HB⟩
 case round =>
  clear H' HO0 HK HB
  obtain ⟨x0_1, x1_1, x5_1, rfl, rfl, HA, HK1, HO, HK, HB⟩ := hrel
  have hl := (Kd.S_reads' HO.out).1
  cases gk with
  | zero => exact absurd HA.out (by simp [laws_markPartS.l0])
  | succ k1 =>
   have H := HA.out
   clear HA
   simp only [laws_markPartS.l0] at H
   by_cases c3 : x5_1 < (x0_1.length : Int)
   ·
    rw [if_pos c3] at H
    have c3b0 : decide (x5_1 < (l0.length : Int)) = true := decide_eq_true (by omega)
    have c4 : 0 ≤ x5_1 := ifN H
    replace H := ifT H
    obtain ⟨t, A5, H⟩ := bindE H
    try dsimp only at H
    have H' := Aside0.mk H
    clear H
    have p5 : 0 ≤ (x5_1 : Int) := c4
    have q5 : (x5_1 : Int) < (l0.length : Int) := by omega
    obtain ⟨go5, co5, eo5, gb5, gl5, cl5, HG5⟩ := Kd.S_form HO.out (by omega)
    have hAo : Ao = some ⟨go5, 0, none⟩ ∧ co = co5 := by
     injection eo5 with ea_ en_ ec_
     exact ⟨ea_, ec_⟩
    obtain ⟨rfl, rfl⟩ := hAo
    obtain ⟨oki, ce5, hcl5, hM5, hcc5, hfr5, hoki, hH⟩ := Kd.S_elem HO.out z72 (x5_1 : Int) p5 q5
    obtain ⟨vi, rfl, hri⟩ := k72_openM hM5
    obtain ⟨Ai, ci, rfl⟩ := Kd.R_slice hri
    have hx5_0 : wr.cell? ⟨go5, (x5_1 : Int).toNat * 2, none⟩ = some (.slice Ai (rd_T72 x0_1 x5_1).f0.length ci) := hcc5 0 _ rfl
    have hx5_1 : wr.cell? ⟨go5, (x5_1 : Int).toNat * 2 + 1, none⟩ = some (.int .i64 (rd_T72 x0_1 x5_1).f1) := hcc5 1 _ rfl
    have hf5_0 : wr.frozen? ⟨go5, (x5_1 : Int).toNat * 2, none⟩ = false := hfr5 0
    have hf5_1 : wr.frozen? ⟨go5, (x5_1 : Int).toNat * 2 + 1, none⟩ = false := hfr5 1
    obtain ⟨t1, t2⟩ := t
    have HL := Aside0.mk hl
    clear hl c3 eo5
    have HX0 := Aside0.mk hx5_0
    have HRI := Aside0.mk hri
    have HH := Aside0.mk hH
    have HOK := Aside0.mk hoki
    clear hx5_1 hf5_0 hf5_1 hcc5 hfr5 hM5 hcl5 hri hH hoki
    replace p5 := eq_true p5
    replace q5 := eq_true q5
    go_wp2_with (go_at_call 20; (refine (laws_markIntS.calls k1 oki _ _ x1_1 t1 t2 w0 _ HB.out HRI.out A5.out).mono ?_); rintro e w1 ⟨rfl, hr1, hb1, hk1⟩; have HH1 := Aside0.mk (laws_markPartS.hstep HH.out (fun k_ ho_ hn_ hl_ => hk1.2 k_ hl_ hn_)); have HR1 := Aside0.mk hr1; have HB1 := Aside0.mk hb1; have HK2 := Aside0.mk hk1; clear hr1 hb1 hk1; obtain ⟨rows_, _, _, _, _, hcc6, _⟩ := Kd.H_raw HH1.out (of_eq_true p5) (of_eq_true q5); have hx6 : w1.cell? ⟨go5, (x5_1 : Int).toNat * 2 + 1, none⟩ = some (.int .i64 (rd_T72 x0_1 x5_1).f1) := hcc6 1 _ rfl; have hf6 : w1.frozen? ⟨go5, (x5_1 : Int).toNat * 2 + 1, none⟩ = false := (by obtain ⟨_, f_, hR_⟩ := HH1.out; obtain ⟨_, _, _, _, hf_⟩ := Kd.R_elem hR_ (z72, 0) (x5_1 : Int) (of_eq_true p5) (of_eq_true q5); exact hf_ 1); clear hcc6)
    go_roundg k1
    case measure => have := HK1.out; omega
    case rel =>
     refine ⟨x0_1.set (x5_1 : Int).toNat (⟨t2, t1⟩ : S72), wrap64 (t1 + 1), wrap64 (x5_1 + 1), rfl, rfl, H', ⟨by have := HK1.out; omega⟩, ⟨?_⟩, ⟨?_⟩, ⟨?_⟩⟩
     ·
      have hM : Kd.M k72 w1 w0.heap.size oki (⟨t2, t1⟩ : S72) [.slice Ai (x0_1.getD (x5_1 : Int).toNat z72).f0.length ci, .int .i64 t1] := k72_mkM w1 w0.heap.size oki (⟨t2, t1⟩ : S72) (Kd.R_mono (Kd.R_tight rfl HR1.out) (fun k_ hk => HRI.out.1 k_ hk.symm))
      exact (Kd.S_seg (okg := fun _ => False) (okp := oki) (seg := [.int .i64 t1]) (j := 1) (laws_markPartS.hmono HH1.out (fun _ hk => ⟨hk, fun h => h⟩)) (of_eq_true p5) (of_eq_true q5) (by show 1 + 1 ≤ 2; omega) hM (fun k hk => .inl hk) (fun _ hk => hk.elim)).1
     ·
      exact Kept.setCell (p := ⟨go5, (x5_1 : Int).toNat * 2 + 1, none⟩) (Kept.then_ HK.out HK2.out (fun k_ hk => (HOK.out k_ hk).1)) ((Kd.S_R HO.out).1 go5 rfl) _
     ·
      exact below_set HB1.out gb5
   ·
    rw [if_neg c3] at H
    have c3b0 : decide (x5_1 < (l0.length : Int)) = false := decide_eq_false (by omega)
    obtain ⟨rfl, rfl⟩ := Prod.mk.inj (Option.some.inj H)
    have HL := Aside0.mk hl
    clear hl
    go_wp2
    go_ret
    exact ⟨rfl, by have := HO.out; rw [← HL.out] at *; exact HO.out, HB.out, HK.out⟩

/-! ### laws_markCallS: function 19 -/
def laws_markCallS.l0 : Nat → List (S65) → Int → Int → Option (Int × (List (S65)))
 | 0, _, _, _ => none
 | k + 1, x0, x1, x5 => if x5 < (x0.length : Int) then (if 0 ≤ x5 then ((some (x0.set (x5 : Int).toNat (⟨x1, (rd_T65 x0 x5).f1⟩ : S65) : List (S65))).bind fun y629 => (laws_markCallS.l0 k (y629.set (x5 : Int).toNat (⟨(rd_T65 y629 x5).f0, wrap64 (x1 + 1)⟩ : S65)) (wrap64 ((wrap64 (x1 + 1)) + 1)) (wrap64 (x5 + 1)))) else (none)) else (some (x1, x0))
def laws_markCallS.f (k : Nat) (l0 : List (S65)) (a1 : Int) : Option (Int × (List (S65))) := laws_markCallS.l0 k l0 a1 0
theorem laws_markCallS.mono_l : ∀ k, (∀ y0 y1 y2, LeO (laws_markCallS.l0 k y0 y1 y2) (laws_markCallS.l0 (k + 1) y0 y1 y2))
 | 0 => fun _ _ _ r h => by simp [laws_markCallS.l0] at h
 | k + 1 => by
  have ih0 := laws_markCallS.mono_l k
  ·
   intro y0 y1 y2
   unfold laws_markCallS.l0
   exact mz1 ih0
theorem laws_markCallS.mono : ∀ a0 a1 k, LeO (laws_markCallS.f k a0 a1) (laws_markCallS.f (k + 1) a0 a1) := by
 intro a0 a1 k
 have ih0 := laws_markCallS.mono_l k
 unfold laws_markCallS.f
 exact mz1 ih0
set_option maxHeartbeats 8000000 in
set_option maxRecDepth 100000 in
theorem laws_markCallS.calls (k : Nat) (P0_ : Nat → Prop) (u9000_ : Value) (l0 : List (S65)) (a1 : Int) (r1 : Int) (r2 : List (S65)) (w0 w : World) (hB : Below w0.heap.size w0 w) (ho0 : Kd.R k65 65 w w0.heap.size P0_ u9000_ l0) (h : laws_markCallS.f k l0 a1 = some (r1, r2)) :
  Calls Tryz.prog 19 #[u9000_, .int .i64 a1] w fun e w' => e = .returned (.int .i64 r1) ∧ Kd.R k65 65 w' w0.heap.size (fun k_ => (P0_ k_ ∨ w.heap.size ≤ k_)) u9000_ r2 ∧ Below w0.heap.size w0 w' ∧ Kept w w' (fun k_ => P0_ k_) := by
 have HO0 := Aside0.mk (show Kd.R k65 65 w w0.heap.size (fun k_ => (P0_ k_ ∨ w.heap.size ≤ k_)) u9000_ l0 from Kd.R_mono ho0 (fun k_ hk => (.inl hk)))
 have HK := Aside0.mk (Kept.refl w (fun k_ => P0_ k_))
 have HW0 := Aside0.mk hB.size
 have HB := Aside0.mk hB
 clear hB
 have H : (laws_markCallS.l0 k l0 a1 0) = some (r1, r2) := h
 clear h
 have H' := Aside0.mk H
 clear H
 go_enter Tryz.func19, Tryz.ntmps19
 go_wp2
 go_loopg [1, 5] k (fun kq v1 v5 w' => ∃ (x0_1 : List (S65)) (x1_1 : Int) (x5_1 : Int), v1 = .int .i64 x1_1 ∧ v5 = .int .i64 x5_1 ∧ Aside0 (laws_markCallS.l0 kq x0_1 x1_1 x5_1 = some (r1, r2)) ∧ Aside0 (kq ≤ k) ∧ Aside0 (Kd.R k65 65 w' w0.heap.size (fun k_ => (P0_ k_ ∨ w.heap.size ≤ k_)) u9000_ x0_1) ∧ Aside0 (Kept w w' (fun k_ => P0_ k_)) ∧ Aside0 (Below w0.heap.size w0 w'))
 case atStart => exact ⟨(l0), (a1), (0), rS, rS, H', ⟨Nat.le_refl _⟩, ⟨rK HO0⟩, ⟨by repeat (first | (with_reducible first | exact HK.out | apply Kept.alloc | apply Kept.drewN | apply Kept.drew) | exact HK.out)⟩, ⟨bA⟩⟩
 case round =>
  clear H'
  obtain ⟨x0_1, x1_1, x5_1, rfl, rfl, HA, HK1, HO_0, HK, HB⟩ := hrel
  cases gk with
  | zero => exact absurd HA.out (by simp [laws_markCallS.l0])
  | succ k1 =>
   have H := HA.out
   clear HA
   simp only [laws_markCallS.l0] at H
   by_cases c3 : x5_1 < (x0_1.length : Int)
   ·
    rw [if_pos c3] at H
    have c3b0 := decide_eq_true c3
    clear c3
    have c4 : 0 ≤ x5_1 := ifN H
    replace H := ifT H
    have c4b0 := decide_eq_true c4
    clear c4
    obtain ⟨y629, hy629⟩ : ∃ y_ : List (S65), y_ = (x0_1.set (x5_1 : Int).toNat (⟨x1_1, (rd_T65 x0_1 x5_1).f1⟩ : S65)) := ⟨_, rfl⟩
    replace H : (laws_markCallS.l0 k1 (y629.set (x5_1 : Int).toNat (⟨(rd_T65 y629 x5_1).f0, wrap64 (x1_1 + 1)⟩ : S65)) (wrap64 ((wrap64 (x1_1 + 1)) + 1)) (wrap64 (x5_1 + 1))) = some (r1, r2) := rH H hy629
    have Ny629 := Aside0.mk hy629
    clear hy629
    obtain ⟨y630, hy630⟩ : ∃ y_ : List (S65), y_ = (y629.set (x5_1 : Int).toNat (⟨(rd_T65 y629 x5_1).f0, wrap64 (x1_1 + 1)⟩ : S65)) := ⟨_, rfl⟩
    replace H : (laws_markCallS.l0 k1 y630 (wrap64 ((wrap64 (x1_1 + 1)) + 1)) (wrap64 (x5_1 + 1))) = some (r1, r2) := rH H hy630
    have Ny630 := Aside0.mk hy630
    clear hy630
    have H' := Aside0.mk H
    clear H
    obtain ⟨Ao7, co7, eo7⟩ := Kd.R_slice HO_0.out
    subst eo7
    obtain ⟨p5, q5⟩ : 0 ≤ (x5_1 : Int) ∧ (x5_1 : Int) < ((x0_1.length : Int) : Int) := ⟨dA, dA⟩
    obtain ⟨go5, co5, eo5, gb5, gl5, cl5, HG5⟩ := Kd.R_form HO_0.out (by omega)
    (first | cases eo5 | (injection eo5 with ea_ en_ ec_; (first | subst ea_ | (injection ea_ with ea_; subst ea_)); subst ec_; clear en_))
    have GB5 := Aside0.mk gb5
    have GG5 := Aside0.mk HG5
    clear gb5 gl5 HG5
    have HMgo5 := Aside0.mk (show (P0_ go5 ∨ w.heap.size ≤ go5) from (HO_0.out.1 _ rfl))
    obtain ⟨ce5, hcl5, hM5, hcc5, hfr5⟩ := Kd.R_elem HO_0.out z65 (x5_1 : Int) p5 q5
    obtain rfl := k65_openM hM5
    have hx5_0 : wr.cell? ⟨go5, (x5_1 : Int).toNat * 2, none⟩ = some (.int .i64 ((rd_T65 x0_1 x5_1).f0)) := hcc5 0 _ rfl
    have hx5_1 : wr.cell? ⟨go5, (x5_1 : Int).toNat * 2 + 1, none⟩ = some (.int .i64 ((rd_T65 x0_1 x5_1).f1)) := hcc5 1 _ rfl
    have hf5_0 : wr.frozen? ⟨go5, (x5_1 : Int).toNat * 2, none⟩ = false := hfr5 0
    have hf5_1 : wr.frozen? ⟨go5, (x5_1 : Int).toNat * 2 + 1, none⟩ = false := hfr5 1
    clear hcl5 hcc5 hfr5 hM5
    obtain ⟨p5, q5⟩ := eT p5 q5
    have HX8 := Aside0.mk (show Kd.R k65 65 wr w0.heap.size (fun k_ => (P0_ k_ ∨ w.heap.size ≤ k_)) (.slice (some ⟨go5, 0, none⟩) x0_1.length co7) x0_1 from (rK HO_0))
    obtain ⟨ce8, hcl8, hM8, hcc8, hfr8⟩ := Kd.R_elem HX8.out z65 (x5_1 : Int) (dA) (by have h_ : (x5_1 : Int) < ((x0_1.length : Int) : Int) := dA; first | exact h_ | (have e_ := (Kd.R_reads' HO_0.out).1; omega) | simpa using h_)
    obtain rfl := k65_openM hM8
    have HP8 := Kd.R_seg HX8.out (x5_1 : Int) (dA) (by have h_ : (x5_1 : Int) < ((x0_1.length : Int) : Int) := dA; first | exact h_ | (have e_ := (Kd.R_reads' HO_0.out).1; omega) | simpa using h_) (seg := [.int .i64 x1_1]) (j := 0) hcl8 hcc8 (show 1 ≤ 2 from by decide) (x' := (⟨x1_1, (rd_T65 x0_1 x5_1).f1⟩ : S65)) (k65_mkM _ _ _ (⟨x1_1, (rd_T65 x0_1 x5_1).f1⟩ : S65) ) (fun _ hk => hk)
    have hx8_0 := hcc8 0 _ rfl
    (try simp only [show (k65).sz = 2 from rfl, Nat.mul_one, Nat.add_zero] at hx8_0)
    have hf8_0 := hfr8 0
    (try simp only [show (k65).sz = 2 from rfl, Nat.mul_one, Nat.add_zero] at hf8_0)
    clear hcl8 hcc8 hfr8 hM8
    go_wp2_with (first | ((with_reducible refine gate_store (t := 3) (p := 16) rfl ?_); refine store_event (t := 3) (p := 16) (v := ?vo_w9) (w1 := (wr.setCell ⟨go5, (x5_1 : Int).toNat * 2, none⟩ (.int .i64 x1_1))) ?hg ?ho ?hn ?hr ?_; (case ho => rfl); (case hg => rfl); (case hn => rfl); (case hr => first | (go_simp; done) | (go_simp; rfl)); intro w9 hw; have hg : wr.grownBy w9 (some go5) := (by rw [hw]; exact HP8.2); have hp_ : Kd.R k65 65 w9 w0.heap.size (fun k_ => (P0_ k_ ∨ w.heap.size ≤ k_)) (.slice (some ⟨go5, 0, none⟩) x0_1.length co7) y629 := (by rw [hw, Ny629.out]; exact HP8.1); clear HP8; have n0_ := Aside0.mk (hp_); have n1_ := Aside0.mk ((by rw [hw]; exact below_set (HB.out) GB5.out : Below w0.heap.size w0 w9)); have n2_ := Aside0.mk (Kept.of_grown (S := (fun k_ => P0_ k_)) hg (by repeat (first | (with_reducible first | exact HK.out | apply Kept.alloc | apply Kept.drewN | apply Kept.drew) | exact HK.out)) (fun k_ e_ => (HO_0.out.1 k_ e_))); clear HO_0; clear HB; clear HK; have HO_0 := n0_; have HB := n1_; have HK := n2_; clear n0_ n1_ n2_; clear hg hw hp_; have p6 : 0 ≤ (x5_1 : Int) := dA; have q6 : (x5_1 : Int) < ((x0_1.length : Int) : Int) := dA; obtain ⟨ce6, hcl6, hM6, hcc6, hfr6⟩ := Kd.R_elem HO_0.out z65 (x5_1 : Int) p6 q6; obtain rfl := k65_openM hM6; have hx6_0 : w9.cell? ⟨go5, (x5_1 : Int).toNat * 2, none⟩ = some (.int .i64 ((rd_T65 y629 x5_1).f0)) := hcc6 0 _ rfl; have hx6_1 : w9.cell? ⟨go5, (x5_1 : Int).toNat * 2 + 1, none⟩ = some (.int .i64 ((rd_T65 y629 x5_1).f1)) := hcc6 1 _ rfl; have hf6_0 : w9.frozen? ⟨go5, (x5_1 : Int).toNat * 2, none⟩ = false := hfr6 0; have hf6_1 : w9.frozen? ⟨go5, (x5_1 : Int).toNat * 2 + 1, none⟩ = false := hfr6 1; clear hcl6 hcc6 hfr6 hM6; replace p6 := eq_true p6; replace q6 := eq_true q6; have HX10 := Aside0.mk (show Kd.R k65 65 w9 w0.heap.size (fun k_ => (P0_ k_ ∨ w.heap.size ≤ k_)) (.slice (some ⟨go5, 0, none⟩) x0_1.length co7) y629 from (rK HO_0)); obtain ⟨ce10, hcl10, hM10, hcc10, hfr10⟩ := Kd.R_elem HX10.out z65 (x5_1 : Int) (dA) (by have h_ : (x5_1 : Int) < ((x0_1.length : Int) : Int) := dA; first | exact h_ | (have e_ := (Kd.R_reads' HO_0.out).1; omega) | simpa using h_); obtain rfl := k65_openM hM10; have HP10 := Kd.R_seg HX10.out (x5_1 : Int) (dA) (by have h_ : (x5_1 : Int) < ((x0_1.length : Int) : Int) := dA; first | exact h_ | (have e_ := (Kd.R_reads' HO_0.out).1; omega) | simpa using h_) (seg := [.int .i64 (wrap64 (x1_1 + 1))]) (j := 1) hcl10 hcc10 (show 2 ≤ 2 from by decide) (x' := (⟨(rd_T65 y629 x5_1).f0, wrap64 (x1_1 + 1)⟩ : S65)) (k65_mkM _ _ _ (⟨(rd_T65 y629 x5_1).f0, wrap64 (x1_1 + 1)⟩ : S65) ) (fun _ hk => hk); have hx10_1 := hcc10 1 _ rfl; (try simp only [show (k65).sz = 2 from rfl, Nat.mul_one, Nat.add_zero] at hx10_1); have hf10_1 := hfr10 1; (try simp only [show (k65).sz = 2 from rfl, Nat.mul_one, Nat.add_zero] at hf10_1); clear hcl10 hcc10 hfr10 hM10) | ((with_reducible refine gate_store (t := 3) (p := 23) rfl ?_); refine store_event (t := 3) (p := 23) (v := ?vo_w11) (w1 := (w9.setCell ⟨go5, (x5_1 : Int).toNat * 2 + 1, none⟩ (.int .i64 (wrap64 (x1_1 + 1))))) ?hg ?ho ?hn ?hr ?_; (case ho => rfl); (case hg => rfl); (case hn => rfl); (case hr => first | (go_simp; done) | (go_simp; rfl)); intro w11 hw; have hg : w9.grownBy w11 (some go5) := (by rw [hw]; exact HP10.2); have hp_ : Kd.R k65 65 w11 w0.heap.size (fun k_ => (P0_ k_ ∨ w.heap.size ≤ k_)) (.slice (some ⟨go5, 0, none⟩) x0_1.length co7) y630 := (by rw [hw, Ny630.out]; exact HP10.1); clear HP10; have n0_ := Aside0.mk (hp_); have n1_ := Aside0.mk ((by rw [hw]; exact below_set (HB.out) GB5.out : Below w0.heap.size w0 w11)); have n2_ := Aside0.mk (Kept.of_grown (S := (fun k_ => P0_ k_)) hg (by repeat (first | (with_reducible first | exact HK.out | apply Kept.alloc | apply Kept.drewN | apply Kept.drew) | exact HK.out)) (fun k_ e_ => (HO_0.out.1 k_ e_))); clear HO_0; clear HB; clear HK; have HO_0 := n0_; have HB := n1_; have HK := n2_; clear n0_ n1_ n2_; clear hg hw hp_))
    go_roundg k1
    case measure => have := HK1.out; omega
    case rel => exact ⟨(y630), (wrap64 ((wrap64 (x1_1 + 1)) + 1)), (wrap64 (x5_1 + 1)), rS, rS, H', ⟨by have := HK1.out; omega⟩, ⟨rK HO_0⟩, ⟨by repeat (first | (with_reducible first | exact HK.out | apply Kept.alloc | apply Kept.drewN | apply Kept.drew) | exact HK.out)⟩, ⟨bA⟩⟩
   rw [if_neg c3] at H
   have c3b0 := decide_eq_false c3
   clear c3
   simp only [Option.some.injEq, Prod.mk.injEq] at H
   obtain ⟨rfl, rfl⟩ := H
   obtain ⟨Ao12, co12, eo12⟩ := Kd.R_slice HO_0.out
   subst eo12
   go_wp2
   go_ret
   exact ⟨rA, rK HO_0, bA, by repeat (first | (with_reducible first | exact HK.out | apply Kept.alloc | apply Kept.drewN | apply Kept.drew) | exact HK.out)⟩

/-! ### laws_heldIntS: function 21 -/
def laws_heldIntS.l0 : Nat → List Int → Int → Int → Option (Int)
 | 0, _, _, _ => none
 | k + 1, x0, x1, x5 => if x5 < (x0.length : Int) then (if 0 ≤ x5 then (if (rd x0 x5) = x1 then (laws_heldIntS.l0 k x0 (wrap64 (x1 + 1)) (wrap64 (x5 + 1))) else (some (-1))) else (none)) else (some x1)
def laws_heldIntS.f (k : Nat) (l0 : List Int) (a1 : Int) : Option (Int) := laws_heldIntS.l0 k l0 a1 0
theorem laws_heldIntS.mono_l : ∀ k, (∀ y0 y1 y2, LeO (laws_heldIntS.l0 k y0 y1 y2) (laws_heldIntS.l0 (k + 1) y0 y1 y2))
 | 0 => fun _ _ _ r h => by simp [laws_heldIntS.l0] at h
 | k + 1 => by
  have ih0 := laws_heldIntS.mono_l k
  ·
   intro y0 y1 y2
   unfold laws_heldIntS.l0
   exact mz1 ih0
theorem laws_heldIntS.mono : ∀ a0 a1 k, LeO (laws_heldIntS.f k a0 a1) (laws_heldIntS.f (k + 1) a0 a1) := by
 intro a0 a1 k
 have ih0 := laws_heldIntS.mono_l k
 unfold laws_heldIntS.f
 exact mz1 ih0
set_option maxHeartbeats 8000000 in
set_option maxRecDepth 100000 in
theorem laws_heldIntS.calls (k : Nat) (A0 : Option Addr) (c0 : Nat) (l0 : List Int) (a1 : Int) (r : Int) (w : World) (hr0 : Kd.C (Kd.int .i64) w A0 l0.length l0) (hc0 : l0.length ≤ c0) (h : laws_heldIntS.f k l0 a1 = some r) :
  Calls Tryz.prog 21 #[.slice A0 l0.length c0, .int .i64 a1] w fun e w' => e = .returned (.int .i64 r) ∧ Drawn0 w w' := by
 have HR0 := Aside0.mk hr0
 have HC0 := Aside0.mk hc0
 clear hr0 hc0
 have H : (laws_heldIntS.l0 k l0 a1 0) = some r := h
 clear h
 have H' := Aside0.mk H
 clear H
 go_enter Tryz.func21, Tryz.ntmps21
 go_wp2
 go_loopg [1, 5] k (fun kq v1 v5 w' => ∃ (x1_1 : Int) (x5_1 : Int), v1 = .int .i64 x1_1 ∧ v5 = .int .i64 x5_1 ∧ Aside0 (laws_heldIntS.l0 kq l0 x1_1 x5_1 = some r) ∧ Aside0 (kq ≤ k) ∧ Drawn0 w w')
 case atStart => exact ⟨(a1), (0), rS, rS, H', ⟨Nat.le_refl _⟩, by repeat (first | exact Drawn0.refl _ | apply Drawn0.step)⟩
 case round =>
  clear H'
  obtain ⟨x1_1, x5_1, rfl, rfl, HA, HK1, ⟨m1, rfl⟩⟩ := hrel
  cases gk with
  | zero => exact absurd HA.out (by simp [laws_heldIntS.l0])
  | succ k1 =>
   have H := HA.out
   clear HA
   simp only [laws_heldIntS.l0] at H
   by_cases c3 : x5_1 < (l0.length : Int)
   ·
    rw [if_pos c3] at H
    have c3b0 := decide_eq_true c3
    clear c3
    have c4 : 0 ≤ x5_1 := ifN H
    replace H := ifT H
    have c4b0 := decide_eq_true c4
    clear c4
    by_cases c5 : (rd l0 x5_1) = x1_1
    ·
     rw [if_pos c5] at H
     have c5b0 : ((rd l0 x5_1) == x1_1) = true := beq_iff_eq.mpr c5
     have c5b1 : ((rd l0 x5_1) != x1_1) = false := bne_eq_false_iff_eq.mpr c5
     clear c5
     have H' := Aside0.mk H
     clear H
     obtain ⟨p631, q631⟩ : 0 ≤ (x5_1 : Int) ∧ x5_1 < (l0.length : Int) := ⟨dA, dA⟩
     obtain ⟨ad631, e631, hx631_0⟩ := Kd.at_int HR0.out x5_1 p631 q631
     cases e631
     obtain ⟨p631, q631⟩ := eT p631 q631
     go_wp2
     go_roundg k1
     case measure => have := HK1.out; omega
     case rel => exact ⟨(wrap64 (x1_1 + 1)), (wrap64 (x5_1 + 1)), rS, rS, H', ⟨by have := HK1.out; omega⟩, by repeat (first | exact Drawn0.refl _ | apply Drawn0.step)⟩
    rw [if_neg c5] at H
    have c5b0 : ((rd l0 x5_1) == x1_1) = false := beq_eq_false_iff_ne.mpr c5
    have c5b1 : ((rd l0 x5_1) != x1_1) = true := bne_iff_ne.mpr c5
    obtain rfl := Option.some.inj H
    obtain ⟨p631, q631⟩ : 0 ≤ (x5_1 : Int) ∧ x5_1 < (l0.length : Int) := ⟨dA, dA⟩
    obtain ⟨ad631, e631, hx631_0⟩ := Kd.at_int HR0.out x5_1 p631 q631
    cases e631
    obtain ⟨p631, q631⟩ := eT p631 q631
    go_wp2
    go_ret
    exact ⟨rS, dD⟩
   rw [if_neg c3] at H
   have c3b0 := decide_eq_false c3
   clear c3
   obtain rfl := Option.some.inj H
   go_wp2
   go_ret
   exact ⟨rS, dD⟩

/-! ### laws_FnExactWaitingAt: function 3 -/
def laws_FnExactWaitingAt.j0 : Nat → List (S71) → List (S63) → List (S75) → Int → List Int → List Int → Bool → Option (Bool)
 | 0, _, _, _, _, _, _, _ => none
 | k + 1, x0, x1, x2, x3, x10, x14, x88 => if x88 = true then (none) else ((laws_markIntS.f k x14 1).bind fun bt679 => ((laws_heldIntS.f k bt679.2 1).bind fun t681 => (if t681 < 0 then (none) else (if t681 = bt679.1 then ((laws_toPathS.f k x0).bind fun t682 => ((laws_toPartS.f k x1).bind fun t685 => ((laws_toCallS.f k x2).bind fun t688 => ((impl_WaitingAt.f k t682 t685 t688 x3).bind fun t691 => ((laws_eqIntS.f k t691 x10).bind fun t694 => (if t694 = true then ((laws_heldIntS.f k bt679.2 1).bind fun t695 => (if t695 < 0 then (none) else (if t695 = bt679.1 then (some true) else (none)))) else (none))))))) else (none)))))
def laws_FnExactWaitingAt.f (k : Nat) (l0 : List (S71)) (l1 : List (S63)) (l2 : List (S75)) (a3 : Int) : Option (Bool) := (laws_szPathS.f l0 1048576).bind fun t632 => (if t632 < 0 then (some true) else ((laws_szPartS.f k l1 t632).bind fun t633 => (if t633 < 0 then (some true) else ((laws_szCallS.f l2 t633).bind fun t634 => (if t634 < 0 then (some true) else ((laws_toPathS.f k l0).bind fun t635 => ((laws_toPartS.f k l1).bind fun t638 => ((laws_toCallS.f k l2).bind fun t641 => ((spec_WaitingAt.f k t635 t638 t641 a3).bind fun t644 => ((laws_toPathS.f k l0).bind fun t647 => ((laws_toPartS.f k l1).bind fun t650 => ((laws_toCallS.f k l2).bind fun t653 => ((impl_WaitingAt.f k t647 t650 t653 a3).bind fun t656 => ((laws_eqIntS.f k t656 t644).bind fun t659 => (if t659 = true then ((laws_toPathS.f k l0).bind fun t660 => ((laws_eqPathS.f k t647 t660).bind fun t663 => (if t663 = true then ((laws_toPartS.f k l1).bind fun t664 => ((laws_eqPartS.f k t650 t664).bind fun t667 => (if t667 = true then ((laws_toCallS.f k l2).bind fun t668 => ((laws_eqCallS.f k t653 t668).bind fun t671 => (if t671 = true then ((laws_markPathS.f k t647 1).bind fun bt672 => ((laws_markPartS.f k t650 bt672.1).bind fun bt674 => ((laws_markCallS.f k t653 bt674.1).bind fun bt676 => (if bt676.1 < 0 then (laws_FnExactWaitingAt.j0 k l0 l1 l2 a3 t644 t656 true) else ((laws_eqIntS.f k t656 t644).bind fun t678 => (laws_FnExactWaitingAt.j0 k l0 l1 l2 a3 t644 t656 (!t678))))))) else (none)))) else (none)))) else (none)))) else (none))))))))))))))))
theorem laws_FnExactWaitingAt.mono_l : ∀ k, (∀ y0 y1 y2 y3 y4 y5 y6, LeO (laws_FnExactWaitingAt.j0 k y0 y1 y2 y3 y4 y5 y6) (laws_FnExactWaitingAt.j0 (k + 1) y0 y1 y2 y3 y4 y5 y6))
 | 0 => fun _ _ _ _ _ _ _ r h => by simp [laws_FnExactWaitingAt.j0] at h
 | k + 1 => by
  have ih0 := laws_FnExactWaitingAt.mono_l k
  ·
   intro y0 y1 y2 y3 y4 y5 y6
   unfold laws_FnExactWaitingAt.j0
   repeat' first | (with_reducible first | exact LeO.refl _ | exact LeO.none _ | refine LeO.ite ?_ ?_ | refine LeO.bind ?_ (fun _ => ?_) | exact ih0 _ _ _ _ _ _ _ | exact impl_WaitingAt.mono _ _ _ _ _ | exact laws_eqCallS.mono _ _ _ | exact laws_eqIntS.mono _ _ _ | exact laws_eqPartS.mono _ _ _ | exact laws_eqPathS.mono _ _ _ | exact laws_heldIntS.mono _ _ _ | exact laws_markCallS.mono _ _ _ | exact laws_markIntS.mono _ _ _ | exact laws_markPartS.mono _ _ _ | exact laws_markPathS.mono _ _ _ | exact laws_szPartS.mono _ _ _ | exact laws_toCallS.mono _ _ | exact laws_toPartS.mono _ _ | exact laws_toPathS.mono _ _ | exact spec_WaitingAt.mono _ _ _ _ _)
theorem laws_FnExactWaitingAt.mono : ∀ a0 a1 a2 a3 k, LeO (laws_FnExactWaitingAt.f k a0 a1 a2 a3) (laws_FnExactWaitingAt.f (k + 1) a0 a1 a2 a3) := by
 intro a0 a1 a2 a3 k
 have ih0 := laws_FnExactWaitingAt.mono_l k
 unfold laws_FnExactWaitingAt.f
 repeat' first | (with_reducible first | exact LeO.refl _ | exact LeO.none _ | refine LeO.ite ?_ ?_ | refine LeO.bind ?_ (fun _ => ?_) | exact ih0 _ _ _ _ _ _ _ | exact impl_WaitingAt.mono _ _ _ _ _ | exact laws_eqCallS.mono _ _ _ | exact laws_eqIntS.mono _ _ _ | exact laws_eqPartS.mono _ _ _ | exact laws_eqPathS.mono _ _ _ | exact laws_heldIntS.mono _ _ _ | exact laws_markCallS.mono _ _ _ | exact laws_markIntS.mono _ _ _ | exact laws_markPartS.mono _ _ _ | exact laws_markPathS.mono _ _ _ | exact laws_szPartS.mono _ _ _ | exact laws_toCallS.mono _ _ | exact laws_toPartS.mono _ _ | exact laws_toPathS.mono _ _ | exact spec_WaitingAt.mono _ _ _ _ _)
set_option maxHeartbeats 8000000 in
set_option maxRecDepth 100000 in
theorem laws_FnExactWaitingAt.calls (k : Nat) (A0 : Option Addr) (c0 : Nat) (l0 : List (S71)) (A1 : Option Addr) (c1 : Nat) (l1 : List (S63)) (A2 : Option Addr) (c2 : Nat) (l2 : List (S75)) (a3 : Int) (r : Bool) (w : World) (hr0 : Kd.C k71 w A0 l0.length l0) (hc0 : l0.length ≤ c0) (hr1 : Kd.C k63 w A1 l1.length l1) (hc1 : l1.length ≤ c1) (hr2 : Kd.C k75 w A2 l2.length l2) (hc2 : l2.length ≤ c2) (h : laws_FnExactWaitingAt.f k l0 l1 l2 a3 = some r) :
  Calls Tryz.prog 3 #[.slice A0 l0.length c0, .slice A1 l1.length c1, .slice A2 l2.length c2, .int .i64 a3] w fun e w' => e = .returned (.bool r) ∧ Below w.heap.size w w' := by
 have HR0 := Aside0.mk hr0
 have HC0 := Aside0.mk hc0
 clear hr0 hc0
 have HR1 := Aside0.mk hr1
 have HC1 := Aside0.mk hc1
 clear hr1 hc1
 have HR2 := Aside0.mk hr2
 have HC2 := Aside0.mk hc2
 clear hr2 hc2
 have HB := Aside0.mk (Below.refl w.heap.size w)
 have H : ((laws_szPathS.f l0 1048576).bind fun t632 => (if t632 < 0 then (some true) else ((laws_szPartS.f k l1 t632).bind fun t633 => (if t633 < 0 then (some true) else ((laws_szCallS.f l2 t633).bind fun t634 => (if t634 < 0 then (some true) else ((laws_toPathS.f k l0).bind fun t635 => ((laws_toPartS.f k l1).bind fun t638 => ((laws_toCallS.f k l2).bind fun t641 => ((spec_WaitingAt.f k t635 t638 t641 a3).bind fun t644 => ((laws_toPathS.f k l0).bind fun t647 => ((laws_toPartS.f k l1).bind fun t650 => ((laws_toCallS.f k l2).bind fun t653 => ((impl_WaitingAt.f k t647 t650 t653 a3).bind fun t656 => ((laws_eqIntS.f k t656 t644).bind fun t659 => (if t659 = true then ((laws_toPathS.f k l0).bind fun t660 => ((laws_eqPathS.f k t647 t660).bind fun t663 => (if t663 = true then ((laws_toPartS.f k l1).bind fun t664 => ((laws_eqPartS.f k t650 t664).bind fun t667 => (if t667 = true then ((laws_toCallS.f k l2).bind fun t668 => ((laws_eqCallS.f k t653 t668).bind fun t671 => (if t671 = true then ((laws_markPathS.f k t647 1).bind fun bt672 => ((laws_markPartS.f k t650 bt672.1).bind fun bt674 => ((laws_markCallS.f k t653 bt674.1).bind fun bt676 => (if bt676.1 < 0 then (laws_FnExactWaitingAt.j0 k l0 l1 l2 a3 t644 t656 true) else ((laws_eqIntS.f k t656 t644).bind fun t678 => (laws_FnExactWaitingAt.j0 k l0 l1 l2 a3 t644 t656 (!t678))))))) else (none)))) else (none)))) else (none)))) else (none))))))))))))))))) = some r := h
 clear h
 obtain ⟨t632, A5, H⟩ := bindE H
 try dsimp only at H
 by_cases c6 : t632 < 0
 ·
  rw [if_pos c6] at H
  have c6b0 := decide_eq_true c6
  clear c6
  obtain rfl := Option.some.inj H
  go_enter Tryz.func3, Tryz.ntmps3
  go_wp2_with (first | ((with_reducible refine gate_callee (f := 5) rfl ?_); refine gL (some 21) Tryz.func5 #[.slice A0 l0.length c0, .int .i64 1048576] ?_; (with_reducible refine (laws_szPathS.calls _ _ l0 1048576 t632 _ ?_ ?_ A5.out).mono ?_); exact cO HR0; exact HC0.out; rintro e w' ⟨rfl, ⟨nd, rfl⟩⟩; refine ⟨_, rfl, ?_⟩))
  go_ret
  exact ⟨rA, bA⟩
 rw [if_neg c6] at H
 have c6b0 := decide_eq_false c6
 clear c6
 obtain ⟨t633, A7, H⟩ := bindE H
 try dsimp only at H
 by_cases c8 : t633 < 0
 ·
  rw [if_pos c8] at H
  have c8b0 := decide_eq_true c8
  clear c8
  obtain rfl := Option.some.inj H
  go_enter Tryz.func3, Tryz.ntmps3
  go_wp2_with (first | ((with_reducible refine gate_callee (f := 5) rfl ?_); refine gL (some 21) Tryz.func5 #[.slice A0 l0.length c0, .int .i64 1048576] ?_; (with_reducible refine (laws_szPathS.calls _ _ l0 1048576 t632 _ ?_ ?_ A5.out).mono ?_); exact cO HR0; exact HC0.out; rintro e w' ⟨rfl, ⟨nd, rfl⟩⟩; refine ⟨_, rfl, ?_⟩) | ((with_reducible refine gate_callee (f := 6) rfl ?_); refine gL (some 26) Tryz.func6 #[.slice A1 l1.length c1, .int .i64 t632] ?_; (with_reducible refine (laws_szPartS.calls k _ _ l1 t632 t633 _ ?_ ?_ A7.out).mono ?_); exact cO HR1; exact HC1.out; rintro e w9 ⟨rfl, hb⟩; refine ⟨_, rfl, ?_⟩; replace HB := bs HB hb; (try clear hb)))
  go_ret
  exact ⟨rA, bA⟩
 rw [if_neg c8] at H
 have c8b0 := decide_eq_false c8
 clear c8
 obtain ⟨t634, A10, H⟩ := bindE H
 try dsimp only at H
 by_cases c11 : t634 < 0
 ·
  rw [if_pos c11] at H
  have c11b0 := decide_eq_true c11
  clear c11
  obtain rfl := Option.some.inj H
  go_enter Tryz.func3, Tryz.ntmps3
  go_wp2_with (first | ((with_reducible refine gate_callee (f := 5) rfl ?_); refine gL (some 21) Tryz.func5 #[.slice A0 l0.length c0, .int .i64 1048576] ?_; (with_reducible refine (laws_szPathS.calls _ _ l0 1048576 t632 _ ?_ ?_ A5.out).mono ?_); exact cO HR0; exact HC0.out; rintro e w' ⟨rfl, ⟨nd, rfl⟩⟩; refine ⟨_, rfl, ?_⟩) | ((with_reducible refine gate_callee (f := 6) rfl ?_); refine gL (some 26) Tryz.func6 #[.slice A1 l1.length c1, .int .i64 t632] ?_; (with_reducible refine (laws_szPartS.calls k _ _ l1 t632 t633 _ ?_ ?_ A7.out).mono ?_); exact cO HR1; exact HC1.out; rintro e w12 ⟨rfl, hb⟩; refine ⟨_, rfl, ?_⟩; replace HB := bs HB hb; (try clear hb)) | ((with_reducible refine gate_callee (f := 7) rfl ?_); refine gL (some 31) Tryz.func7 #[.slice A2 l2.length c2, .int .i64 t633] ?_; (with_reducible refine (laws_szCallS.calls _ _ l2 t633 t634 _ ?_ ?_ A10.out).mono ?_); exact cB HR2; exact HC2.out; rintro e w' ⟨rfl, ⟨nd, rfl⟩⟩; refine ⟨_, rfl, ?_⟩))
  go_ret
  exact ⟨rA, bA⟩
 rw [if_neg c11] at H
 have c11b0 := decide_eq_false c11
 clear c11
 obtain ⟨t635, A13, H⟩ := bindE H
 try dsimp only at H
 obtain ⟨t638, A14, H⟩ := bindE H
 try dsimp only at H
 obtain ⟨t641, A15, H⟩ := bindE H
 try dsimp only at H
 obtain ⟨t644, A16, H⟩ := bindE H
 try dsimp only at H
 obtain ⟨t647, A17, H⟩ := bindE H
 try dsimp only at H
 obtain ⟨t650, A18, H⟩ := bindE H
 try dsimp only at H
 obtain ⟨t653, A19, H⟩ := bindE H
 try dsimp only at H
 obtain ⟨t656, A20, H⟩ := bindE H
 try dsimp only at H
 obtain ⟨t659, A21, H⟩ := bindE H
 try dsimp only at H
 have c22 := ifN H
 replace H := ifT H
 subst c22
 obtain ⟨t660, A23, H⟩ := bindE H
 try dsimp only at H
 obtain ⟨t663, A24, H⟩ := bindE H
 try dsimp only at H
 have c25 := ifN H
 replace H := ifT H
 subst c25
 obtain ⟨t664, A26, H⟩ := bindE H
 try dsimp only at H
 obtain ⟨t667, A27, H⟩ := bindE H
 try dsimp only at H
 have c28 := ifN H
 replace H := ifT H
 subst c28
 obtain ⟨t668, A29, H⟩ := bindE H
 try dsimp only at H
 obtain ⟨t671, A30, H⟩ := bindE H
 try dsimp only at H
 have c31 := ifN H
 replace H := ifT H
 subst c31
 obtain ⟨⟨t672, t673⟩, A32, H⟩ := bindE H
 try dsimp only at H
 obtain ⟨⟨t674, t675⟩, A33, H⟩ := bindE H
 try dsimp only at H
 obtain ⟨⟨t676, t677⟩, A34, H⟩ := bindE H
 try dsimp only at H
 have HC35 := Aside0.mk H
 clear H
 go_enter Tryz.func3, Tryz.ntmps3
 go_upto_region 28 with (first | ((with_reducible refine gate_callee (f := 5) rfl ?_); refine gL (some 21) Tryz.func5 #[.slice A0 l0.length c0, .int .i64 1048576] ?_; (with_reducible refine (laws_szPathS.calls _ _ l0 1048576 t632 _ ?_ ?_ A5.out).mono ?_); exact cO HR0; exact HC0.out; rintro e w' ⟨rfl, ⟨nd, rfl⟩⟩; refine ⟨_, rfl, ?_⟩) | ((with_reducible refine gate_callee (f := 6) rfl ?_); refine gL (some 26) Tryz.func6 #[.slice A1 l1.length c1, .int .i64 t632] ?_; (with_reducible refine (laws_szPartS.calls k _ _ l1 t632 t633 _ ?_ ?_ A7.out).mono ?_); exact cO HR1; exact HC1.out; rintro e w36 ⟨rfl, hb⟩; refine ⟨_, rfl, ?_⟩; replace HB := bs HB hb; (try clear hb)) | ((with_reducible refine gate_callee (f := 7) rfl ?_); refine gL (some 31) Tryz.func7 #[.slice A2 l2.length c2, .int .i64 t633] ?_; (with_reducible refine (laws_szCallS.calls _ _ l2 t633 t634 _ ?_ ?_ A10.out).mono ?_); exact cB HR2; exact HC2.out; rintro e w' ⟨rfl, ⟨nd, rfl⟩⟩; refine ⟨_, rfl, ?_⟩) | ((with_reducible refine gate_callee (f := 9) rfl ?_); refine gL (some 35) Tryz.func9 #[.slice A0 l0.length c0] ?_; (with_reducible refine (laws_toPathS.calls k _ _ l0 t635 _ ?_ ?_ A13.out).mono ?_); exact cG HR0; exact HC0.out; rintro e w37 ⟨v636, rfl, ho0, hb⟩; refine ⟨_, rfl, ?_⟩; have HO637 := rl w ho0; replace HB := bs HB hb; (try clear hb); (try clear ho0)) | ((with_reducible refine gate_callee (f := 10) rfl ?_); refine gL (some 37) Tryz.func10 #[.slice A1 l1.length c1] ?_; (with_reducible refine (laws_toPartS.calls k _ _ l1 t638 _ ?_ ?_ A14.out).mono ?_); exact cB HR1; exact HC1.out; rintro e w38 ⟨v639, rfl, ho0, hb⟩; refine ⟨_, rfl, ?_⟩; replace HO637 := rb HO637 hb; have HO640 := sl w ho0; replace HB := bs HB hb; (try clear hb); (try clear ho0)) | ((with_reducible refine gate_callee (f := 11) rfl ?_); refine gL (some 39) Tryz.func11 #[.slice A2 l2.length c2] ?_; (with_reducible refine (laws_toCallS.calls k _ _ l2 t641 _ ?_ ?_ A15.out).mono ?_); exact cB HR2; exact HC2.out; rintro e w39 ⟨v642, rfl, ho0, hb⟩; refine ⟨_, rfl, ?_⟩; replace HO637 := rb HO637 hb; replace HO640 := sb HO640 hb; have HO643 := rl w ho0; replace HB := bs HB hb; (try clear hb); (try clear ho0); obtain ⟨Ao40, co40, eo40⟩ := Kd.R_slice HO637.out; subst eo40; obtain ⟨Ao41, co41, eo41⟩ := Kd.S_slice HO640.out; subst eo41; obtain ⟨Ao42, co42, eo42⟩ := Kd.R_slice HO643.out; subst eo42) | ((with_reducible refine gate_callee (f := 8) rfl ?_); refine gL (some 41) Tryz.func8 #[.slice Ao40 t635.length co40, .slice Ao41 t638.length co41, .slice Ao42 t641.length co42, .int .i64 a3] ?_; (with_reducible refine (spec_WaitingAt.calls k _ _ t635 _ _ t638 _ _ t641 a3 t644 _ ?_ ?_ ?_ ?_ ?_ ?_ A16.out).mono ?_); exact cO ⟨(Kd.R_reads' HO637.out).2.2⟩; exact (Kd.R_reads' HO637.out).2.1; (focus repeat (first | exact (Kd.S_reads' HO640.out).2.2 | (with_reducible refine Kd.C_alloc ?_ _) | (with_reducible refine Kd.C_drewN ?_ _) | (with_reducible refine Kd.C_drew ?_))); exact (Kd.S_reads' HO640.out).2.1; exact cO ⟨(Kd.R_reads' HO643.out).2.2⟩; exact (Kd.R_reads' HO643.out).2.1; rintro e w43 ⟨v645, rfl, ho0, hb⟩; refine ⟨_, rfl, ?_⟩; replace HO637 := rb HO637 hb; replace HO640 := se HO640 ho0 hb; replace HO643 := rb HO643 hb; have HO646 := rl w ho0; replace HB := bs HB hb; (try clear hb); (try clear ho0)) | ((with_reducible refine gate_callee (f := 9) rfl ?_); refine gL (some 43) Tryz.func9 #[.slice A0 l0.length c0] ?_; (with_reducible refine (laws_toPathS.calls k _ _ l0 t647 _ ?_ ?_ A17.out).mono ?_); exact cB HR0; exact HC0.out; rintro e w44 ⟨v648, rfl, ho0, hb⟩; refine ⟨_, rfl, ?_⟩; replace HO640 := sb HO640 hb; replace HO643 := rb HO643 hb; replace HO646 := rb HO646 hb; have HO649 := rl w (rn ho0 HO637); replace HO637 := re HO637 ho0 hb; replace HB := bs HB hb; (try clear hb); (try clear ho0)) | ((with_reducible refine gate_callee (f := 10) rfl ?_); refine gL (some 45) Tryz.func10 #[.slice A1 l1.length c1] ?_; (with_reducible refine (laws_toPartS.calls k _ _ l1 t650 _ ?_ ?_ A18.out).mono ?_); exact cB HR1; exact HC1.out; rintro e w45 ⟨v651, rfl, ho0, hb⟩; refine ⟨_, rfl, ?_⟩; replace HO637 := rb HO637 hb; replace HO643 := rb HO643 hb; replace HO649 := rb HO649 hb; have HO652 := Aside0.mk (Kd.S_lower (Kd.S_new' (Kd.S_new' ho0 (Kd.S_lt (sK HO640))) (Kd.R_lt (rK HO646))) (below_size bA)); replace HO640 := Aside0.mk (Kd.S_elder' (sK HO640) (Kd.S_base ho0) hb); replace HO646 := rb HO646 hb; replace HB := bs HB hb; (try clear hb); (try clear ho0)) | ((with_reducible refine gate_callee (f := 11) rfl ?_); refine gL (some 47) Tryz.func11 #[.slice A2 l2.length c2] ?_; (with_reducible refine (laws_toCallS.calls k _ _ l2 t653 _ ?_ ?_ A19.out).mono ?_); exact cB HR2; exact HC2.out; rintro e w46 ⟨v654, rfl, ho0, hb⟩; refine ⟨_, rfl, ?_⟩; replace HO637 := rb HO637 hb; replace HO640 := sb HO640 hb; replace HO646 := rb HO646 hb; replace HO649 := rb HO649 hb; replace HO652 := sb HO652 hb; have HO655 := rl w (rn ho0 HO643); replace HO643 := re HO643 ho0 hb; replace HB := bs HB hb; (try clear hb); (try clear ho0); obtain ⟨Ao47, co47, eo47⟩ := Kd.R_slice HO649.out; subst eo47; obtain ⟨Ao48, co48, eo48⟩ := Kd.S_slice HO652.out; subst eo48; obtain ⟨Ao49, co49, eo49⟩ := Kd.R_slice HO655.out; subst eo49) | ((with_reducible refine gate_callee (f := 12) rfl ?_); refine gL (some 52) Tryz.func12 #[.slice Ao47 t647.length co47, .slice Ao48 t650.length co48, .slice Ao49 t653.length co49, .int .i64 a3] ?_; (with_reducible refine (impl_WaitingAt.calls k _ _ t647 _ _ t650 _ _ t653 a3 t656 _ ?_ ?_ ?_ ?_ ?_ ?_ A20.out).mono ?_); exact cO ⟨(Kd.R_reads' HO649.out).2.2⟩; exact (Kd.R_reads' HO649.out).2.1; (focus repeat (first | exact (Kd.S_reads' HO652.out).2.2 | (with_reducible refine Kd.C_alloc ?_ _) | (with_reducible refine Kd.C_drewN ?_ _) | (with_reducible refine Kd.C_drew ?_))); exact (Kd.S_reads' HO652.out).2.1; exact cO ⟨(Kd.R_reads' HO655.out).2.2⟩; exact (Kd.R_reads' HO655.out).2.1; rintro e w50 ⟨v657, rfl, ho0, hb⟩; refine ⟨_, rfl, ?_⟩; replace HO637 := rb HO637 hb; replace HO640 := se HO640 ho0 hb; replace HO643 := rb HO643 hb; replace HO649 := rb HO649 hb; replace HO652 := se HO652 ho0 hb; replace HO655 := rb HO655 hb; have HO658 := rl w (rn ho0 HO646); replace HO646 := re HO646 ho0 hb; replace HB := bs HB hb; (try clear hb); (try clear ho0); obtain ⟨Ao51, co51, eo51⟩ := Kd.R_slice HO658.out; subst eo51; obtain ⟨Ao52, co52, eo52⟩ := Kd.R_slice HO646.out; subst eo52) | ((with_reducible refine gate_callee (f := 13) rfl ?_); refine gL (some 55) Tryz.func13 #[.slice Ao51 t656.length co51, .slice Ao52 t644.length co52] ?_; (with_reducible refine (laws_eqIntS.calls k _ _ t656 _ _ t644 true _ ?_ ?_ ?_ ?_ A21.out).mono ?_); exact cO ⟨(Kd.R_reads' HO658.out).2.2⟩; exact (Kd.R_reads' HO658.out).2.1; exact cO ⟨(Kd.R_reads' HO646.out).2.2⟩; exact (Kd.R_reads' HO646.out).2.1; rintro e w' ⟨rfl, ⟨nd, rfl⟩⟩; refine ⟨_, rfl, ?_⟩) | ((with_reducible refine gate_callee (f := 9) rfl ?_); refine gL (some 59) Tryz.func9 #[.slice A0 l0.length c0] ?_; (with_reducible refine (laws_toPathS.calls k _ _ l0 t660 _ ?_ ?_ A23.out).mono ?_); exact cG HR0; exact HC0.out; rintro e w53 ⟨v661, rfl, ho0, hb⟩; refine ⟨_, rfl, ?_⟩; replace HO640 := sb HO640 hb; replace HO643 := rb HO643 hb; replace HO646 := rb HO646 hb; replace HO652 := sb HO652 hb; replace HO655 := rb HO655 hb; replace HO658 := rb HO658 hb; have HO662 := rl w (rn (rn ho0 HO637) HO649); replace HO637 := re HO637 ho0 hb; replace HO649 := re HO649 ho0 hb; replace HB := bs HB hb; (try clear hb); (try clear ho0); obtain ⟨Ao54, co54, eo54⟩ := Kd.R_slice HO662.out; subst eo54) | ((with_reducible refine gate_callee (f := 14) rfl ?_); refine gL (some 60) Tryz.func14 #[.slice Ao47 t647.length co47, .slice Ao54 t660.length co54] ?_; (with_reducible refine (laws_eqPathS.calls k _ _ t647 _ _ t660 true _ ?_ ?_ ?_ ?_ A24.out).mono ?_); exact cO ⟨(Kd.R_reads' HO649.out).2.2⟩; exact (Kd.R_reads' HO649.out).2.1; exact cO ⟨(Kd.R_reads' HO662.out).2.2⟩; exact (Kd.R_reads' HO662.out).2.1; rintro e w55 ⟨rfl, hb⟩; refine ⟨_, rfl, ?_⟩; replace HO637 := rb HO637 hb; replace HO640 := sb HO640 hb; replace HO643 := rb HO643 hb; replace HO646 := rb HO646 hb; replace HO649 := rb HO649 hb; replace HO652 := sb HO652 hb; replace HO655 := rb HO655 hb; replace HO658 := rb HO658 hb; replace HO662 := rb HO662 hb; replace HB := bs HB hb; (try clear hb)) | ((with_reducible refine gate_callee (f := 10) rfl ?_); refine gL (some 64) Tryz.func10 #[.slice A1 l1.length c1] ?_; (with_reducible refine (laws_toPartS.calls k _ _ l1 t664 _ ?_ ?_ A26.out).mono ?_); exact cB HR1; exact HC1.out; rintro e w56 ⟨v665, rfl, ho0, hb⟩; refine ⟨_, rfl, ?_⟩; replace HO637 := rb HO637 hb; replace HO643 := rb HO643 hb; replace HO649 := rb HO649 hb; replace HO655 := rb HO655 hb; replace HO662 := rb HO662 hb; have HO666 := Aside0.mk (Kd.S_lower (Kd.S_new' (Kd.S_new' (Kd.S_new' (Kd.S_new' ho0 (Kd.S_lt (sK HO640))) (Kd.R_lt (rK HO646))) (Kd.S_lt (sK HO652))) (Kd.R_lt (rK HO658))) (below_size bA)); replace HO640 := Aside0.mk (Kd.S_elder' (sK HO640) (Kd.S_base ho0) hb); replace HO646 := rb HO646 hb; replace HO652 := Aside0.mk (Kd.S_elder' (sK HO652) (Kd.S_base ho0) hb); replace HO658 := rb HO658 hb; replace HB := bs HB hb; (try clear hb); (try clear ho0); obtain ⟨Ao57, co57, eo57⟩ := Kd.S_slice HO666.out; subst eo57) | ((with_reducible refine gate_callee (f := 15) rfl ?_); refine gL (some 65) Tryz.func15 #[.slice Ao48 t650.length co48, .slice Ao57 t664.length co57] ?_; (with_reducible refine (laws_eqPartS.calls k _ _ t650 _ _ t664 true _ ?_ ?_ ?_ ?_ A27.out).mono ?_); (focus repeat (first | exact (Kd.S_reads' HO652.out).2.2 | (with_reducible refine Kd.C_alloc ?_ _) | (with_reducible refine Kd.C_drewN ?_ _) | (with_reducible refine Kd.C_drew ?_))); exact (Kd.S_reads' HO652.out).2.1; (focus repeat (first | exact (Kd.S_reads' HO666.out).2.2 | (with_reducible refine Kd.C_alloc ?_ _) | (with_reducible refine Kd.C_drewN ?_ _) | (with_reducible refine Kd.C_drew ?_))); exact (Kd.S_reads' HO666.out).2.1; rintro e w58 ⟨rfl, hb⟩; refine ⟨_, rfl, ?_⟩; replace HO637 := rb HO637 hb; replace HO640 := sb HO640 hb; replace HO643 := rb HO643 hb; replace HO646 := rb HO646 hb; replace HO649 := rb HO649 hb; replace HO652 := sb HO652 hb; replace HO655 := rb HO655 hb; replace HO658 := rb HO658 hb; replace HO662 := rb HO662 hb; replace HO666 := sb HO666 hb; replace HB := bs HB hb; (try clear hb)) | ((with_reducible refine gate_callee (f := 11) rfl ?_); refine gL (some 69) Tryz.func11 #[.slice A2 l2.length c2] ?_; (with_reducible refine (laws_toCallS.calls k _ _ l2 t668 _ ?_ ?_ A29.out).mono ?_); exact cB HR2; exact HC2.out; rintro e w59 ⟨v669, rfl, ho0, hb⟩; refine ⟨_, rfl, ?_⟩; replace HO637 := rb HO637 hb; replace HO640 := sb HO640 hb; replace HO646 := rb HO646 hb; replace HO649 := rb HO649 hb; replace HO652 := sb HO652 hb; replace HO658 := rb HO658 hb; replace HO662 := rb HO662 hb; replace HO666 := sb HO666 hb; have HO670 := rl w (rn (rn ho0 HO643) HO655); replace HO643 := re HO643 ho0 hb; replace HO655 := re HO655 ho0 hb; replace HB := bs HB hb; (try clear hb); (try clear ho0); obtain ⟨Ao60, co60, eo60⟩ := Kd.R_slice HO670.out; subst eo60) | ((with_reducible refine gate_callee (f := 16) rfl ?_); refine gL (some 70) Tryz.func16 #[.slice Ao49 t653.length co49, .slice Ao60 t668.length co60] ?_; (with_reducible refine (laws_eqCallS.calls k _ _ t653 _ _ t668 true _ ?_ ?_ ?_ ?_ A30.out).mono ?_); exact cO ⟨(Kd.R_reads' HO655.out).2.2⟩; exact (Kd.R_reads' HO655.out).2.1; exact cO ⟨(Kd.R_reads' HO670.out).2.2⟩; exact (Kd.R_reads' HO670.out).2.1; rintro e w61 ⟨rfl, hb⟩; refine ⟨_, rfl, ?_⟩; replace HO637 := rb HO637 hb; replace HO640 := sb HO640 hb; replace HO643 := rb HO643 hb; replace HO646 := rb HO646 hb; replace HO649 := rb HO649 hb; replace HO652 := sb HO652 hb; replace HO655 := rb HO655 hb; replace HO658 := rb HO658 hb; replace HO662 := rb HO662 hb; replace HO666 := sb HO666 hb; replace HO670 := rb HO670 hb; replace HB := bs HB hb; (try clear hb)) | ((with_reducible refine gate_callee (f := 17) rfl ?_); refine gL (some 74) Tryz.func17 #[.slice Ao47 t647.length co47, .int .i64 1] ?_; (with_reducible refine (laws_markPathS.calls k (fun k_ => some k_ = (.slice Ao47 t647.length co47 : Value).ownBlock) (.slice Ao47 t647.length co47) t647 1 t672 t673 w _ ?_ ?_ A32.out).mono ?_); (focus repeat (first | (with_reducible first | exact HB.out | apply below_alloc | apply pw_below_drewN | apply below_drew1) | exact HB.out)); exact Kd.R_tight rfl HO649.out; rintro e w62 ⟨rfl, hy0, hb, hkp⟩; refine ⟨_, rfl, ?_⟩; replace HO637 := Aside0.mk (Kd.R_mono (ok' := n2 (.slice Ao47 t647.length co47) (.slice Ao54 t660.length co54)) (Kd.R_keptB (HO637.out) hkp (fun k_ hk_ hs_ => (hk_.1.2) hs_)) (fun k_ hk_ => ⟨hk_.1.1.2, hk_.1.2⟩)); replace HO640 := Aside0.mk (Kd.S_mono (ok' := n4 (.slice Ao52 t644.length co52) (.slice Ao48 t650.length co48) (.slice Ao51 t656.length co51) (.slice Ao57 t664.length co57)) (Kd.S_keptB ((Kd.S_apart' HO640.out (Kd.R_typed HO649.out) (by decide))) hkp (fun k_ hk_ hs_ => (hk_.2) hs_)) (fun k_ hk_ => ⟨hk_.1.1.1.1.1.2, hk_.1.1.1.1.2, hk_.1.1.1.2, hk_.1.1.2⟩)); replace HO643 := Aside0.mk (Kd.R_mono (ok' := n2 (.slice Ao49 t653.length co49) (.slice Ao60 t668.length co60)) (Kd.R_keptB ((Kd.R_apart' HO643.out (Kd.R_typed HO649.out) (by decide))) hkp (fun k_ hk_ hs_ => (hk_.2) hs_)) (fun k_ hk_ => ⟨hk_.1.1.1.2, hk_.1.1.2⟩)); replace HO646 := Aside0.mk (Kd.R_mono (ok' := n1 (.slice Ao51 t656.length co51)) (Kd.R_keptB ((Kd.R_apart' HO646.out (Kd.R_typed HO649.out) (by decide))) hkp (fun k_ hk_ hs_ => (hk_.2) hs_)) (fun k_ hk_ => hk_.1.1.2)); replace HO652 := Aside0.mk (Kd.S_mono (ok' := n4 (.slice Ao41 t638.length co41) (.slice Ao52 t644.length co52) (.slice Ao51 t656.length co51) (.slice Ao57 t664.length co57)) (Kd.S_keptB ((Kd.S_apart' HO652.out (Kd.R_typed HO649.out) (by decide))) hkp (fun k_ hk_ hs_ => (hk_.2) hs_)) (fun k_ hk_ => ⟨hk_.1.1.1.1.1.2, hk_.1.1.1.1.2, hk_.1.1.1.2, hk_.1.1.2⟩)); replace HO655 := Aside0.mk (Kd.R_mono (ok' := n2 (.slice Ao42 t641.length co42) (.slice Ao60 t668.length co60)) (Kd.R_keptB ((Kd.R_apart' HO655.out (Kd.R_typed HO649.out) (by decide))) hkp (fun k_ hk_ hs_ => (hk_.2) hs_)) (fun k_ hk_ => ⟨hk_.1.1.1.2, hk_.1.1.2⟩)); replace HO658 := Aside0.mk (Kd.R_mono (ok' := n1 (.slice Ao52 t644.length co52)) (Kd.R_keptB ((Kd.R_apart' HO658.out (Kd.R_typed HO649.out) (by decide))) hkp (fun k_ hk_ hs_ => (hk_.2) hs_)) (fun k_ hk_ => hk_.1.1.2)); replace HO662 := Aside0.mk (Kd.R_mono (ok' := n2 (.slice Ao40 t635.length co40) (.slice Ao47 t647.length co47)) (Kd.R_keptB (HO662.out) hkp (fun k_ hk_ hs_ => (hk_.2) hs_)) (fun k_ hk_ => ⟨hk_.1.1.2, hk_.1.2⟩)); replace HO666 := Aside0.mk (Kd.S_mono (ok' := n4 (.slice Ao41 t638.length co41) (.slice Ao52 t644.length co52) (.slice Ao48 t650.length co48) (.slice Ao51 t656.length co51)) (Kd.S_keptB ((Kd.S_apart' HO666.out (Kd.R_typed HO649.out) (by decide))) hkp (fun k_ hk_ hs_ => (hk_.2) hs_)) (fun k_ hk_ => ⟨hk_.1.1.1.1.1.2, hk_.1.1.1.1.2, hk_.1.1.1.2, hk_.1.1.2⟩)); replace HO670 := Aside0.mk (Kd.R_mono (ok' := n2 (.slice Ao42 t641.length co42) (.slice Ao49 t653.length co49)) (Kd.R_keptB ((Kd.R_apart' HO670.out (Kd.R_typed HO649.out) (by decide))) hkp (fun k_ hk_ hs_ => (hk_.2) hs_)) (fun k_ hk_ => ⟨hk_.1.1.1.2, hk_.1.1.2⟩)); replace HO649 := Aside0.mk (Kd.R_reok rfl hy0 (fun k_ e_ => HO649.out.1 k_ e_)); replace HB := Aside0.mk (hb); (try clear hb); (try clear hkp); (try clear hy0)) | ((with_reducible refine gate_callee (f := 18) rfl ?_); refine gL (some 77) Tryz.func18 #[.slice Ao48 t650.length co48, .int .i64 t672] ?_; (with_reducible refine (laws_markPartS.calls k (fun k_ => ((((((((some k_ ≠ (.slice Ao41 t638.length co41 : Value).ownBlock ∧ (some k_ ≠ (.slice Ao52 t644.length co52 : Value).ownBlock ∧ (some k_ ≠ (.slice Ao51 t656.length co51 : Value).ownBlock ∧ some k_ ≠ (.slice Ao57 t664.length co57 : Value).ownBlock))) ∧ some k_ ≠ (.slice Ao40 t635.length co40 : Value).ownBlock) ∧ some k_ ≠ (.slice Ao42 t641.length co42 : Value).ownBlock) ∧ some k_ ≠ (.slice Ao47 t647.length co47 : Value).ownBlock) ∧ some k_ ≠ (.slice Ao49 t653.length co49 : Value).ownBlock) ∧ some k_ ≠ (.slice Ao54 t660.length co54 : Value).ownBlock) ∧ some k_ ≠ (.slice Ao60 t668.length co60 : Value).ownBlock)) ∧ w.heap.size ≤ k_) (.slice Ao48 t650.length co48) t650 t672 t674 t675 w _ ?_ ?_ A33.out).mono ?_); (focus repeat (first | (with_reducible first | exact HB.out | apply below_alloc | apply pw_below_drewN | apply below_drew1) | exact HB.out)); (focus (with_reducible repeat (first | apply Kd.S_alloc | apply Kd.S_drewN | apply Kd.S_drew)); exact Kd.S_mono (Kd.S_bound (Kd.S_apart' (Kd.S_apart' (Kd.S_apart' (Kd.S_apart' (Kd.S_apart' (Kd.S_apart' (HO652.out) (Kd.R_typed HO637.out) (by decide)) (Kd.R_typed HO643.out) (by decide)) (Kd.R_typed HO649.out) (by decide)) (Kd.R_typed HO655.out) (by decide)) (Kd.R_typed HO662.out) (by decide)) (Kd.R_typed HO670.out) (by decide))) (fun k_ h_ => ⟨h_.1, h_.2.1⟩)); rintro e w63 ⟨rfl, hy0, hb, hkp⟩; refine ⟨_, rfl, ?_⟩; have n0_ := Aside0.mk (Kd.R_mono (ok' := n2 (.slice Ao47 t647.length co47) (.slice Ao54 t660.length co54)) (Kd.R_keptB ((Kd.R_mono (ok' := fun k_ => (some k_ ≠ (.slice Ao47 t647.length co47 : Value).ownBlock ∧ some k_ ≠ (.slice Ao54 t660.length co54 : Value).ownBlock) ∧ ¬ (((((((((some k_ ≠ (.slice Ao41 t638.length co41 : Value).ownBlock ∧ (some k_ ≠ (.slice Ao52 t644.length co52 : Value).ownBlock ∧ (some k_ ≠ (.slice Ao51 t656.length co51 : Value).ownBlock ∧ some k_ ≠ (.slice Ao57 t664.length co57 : Value).ownBlock))) ∧ some k_ ≠ (.slice Ao40 t635.length co40 : Value).ownBlock) ∧ some k_ ≠ (.slice Ao42 t641.length co42 : Value).ownBlock) ∧ some k_ ≠ (.slice Ao47 t647.length co47 : Value).ownBlock) ∧ some k_ ≠ (.slice Ao49 t653.length co49 : Value).ownBlock) ∧ some k_ ≠ (.slice Ao54 t660.length co54 : Value).ownBlock) ∧ some k_ ≠ (.slice Ao60 t668.length co60 : Value).ownBlock)) ∧ w.heap.size ≤ k_)) (Kd.R_tight2 rfl HO637.out) (fun k_ hk => ⟨hk.2, fun hs_ => (hs_.1.1.1.1.1.1.2) hk.1⟩))) hkp (fun k_ hk_ hs_ => (hk_.2) hs_)) (fun k_ hk_ => ⟨hk_.1.1.1, hk_.1.1.2⟩)); have n1_ := Aside0.mk (Kd.R_mono (ok' := n2 (.slice Ao49 t653.length co49) (.slice Ao60 t668.length co60)) (Kd.R_keptB ((Kd.R_mono (ok' := fun k_ => (some k_ ≠ (.slice Ao49 t653.length co49 : Value).ownBlock ∧ some k_ ≠ (.slice Ao60 t668.length co60 : Value).ownBlock) ∧ ¬ (((((((((some k_ ≠ (.slice Ao41 t638.length co41 : Value).ownBlock ∧ (some k_ ≠ (.slice Ao52 t644.length co52 : Value).ownBlock ∧ (some k_ ≠ (.slice Ao51 t656.length co51 : Value).ownBlock ∧ some k_ ≠ (.slice Ao57 t664.length co57 : Value).ownBlock))) ∧ some k_ ≠ (.slice Ao40 t635.length co40 : Value).ownBlock) ∧ some k_ ≠ (.slice Ao42 t641.length co42 : Value).ownBlock) ∧ some k_ ≠ (.slice Ao47 t647.length co47 : Value).ownBlock) ∧ some k_ ≠ (.slice Ao49 t653.length co49 : Value).ownBlock) ∧ some k_ ≠ (.slice Ao54 t660.length co54 : Value).ownBlock) ∧ some k_ ≠ (.slice Ao60 t668.length co60 : Value).ownBlock)) ∧ w.heap.size ≤ k_)) (Kd.R_tight2 rfl HO643.out) (fun k_ hk => ⟨hk.2, fun hs_ => (hs_.1.1.1.1.1.2) hk.1⟩))) hkp (fun k_ hk_ hs_ => (hk_.2) hs_)) (fun k_ hk_ => ⟨hk_.1.1.1, hk_.1.1.2⟩)); have n2_ := Aside0.mk (Kd.R_mono (ok' := n1 (.slice Ao51 t656.length co51)) (Kd.R_keptB ((Kd.R_mono (ok' := fun k_ => some k_ ≠ (.slice Ao51 t656.length co51 : Value).ownBlock ∧ ¬ (((((((((some k_ ≠ (.slice Ao41 t638.length co41 : Value).ownBlock ∧ (some k_ ≠ (.slice Ao52 t644.length co52 : Value).ownBlock ∧ (some k_ ≠ (.slice Ao51 t656.length co51 : Value).ownBlock ∧ some k_ ≠ (.slice Ao57 t664.length co57 : Value).ownBlock))) ∧ some k_ ≠ (.slice Ao40 t635.length co40 : Value).ownBlock) ∧ some k_ ≠ (.slice Ao42 t641.length co42 : Value).ownBlock) ∧ some k_ ≠ (.slice Ao47 t647.length co47 : Value).ownBlock) ∧ some k_ ≠ (.slice Ao49 t653.length co49 : Value).ownBlock) ∧ some k_ ≠ (.slice Ao54 t660.length co54 : Value).ownBlock) ∧ some k_ ≠ (.slice Ao60 t668.length co60 : Value).ownBlock)) ∧ w.heap.size ≤ k_)) (Kd.R_tight2 rfl HO646.out) (fun k_ hk => ⟨hk.2, fun hs_ => (hs_.1.1.1.1.1.1.1.2.1) hk.1⟩))) hkp (fun k_ hk_ hs_ => (hk_.2) hs_)) (fun k_ hk_ => hk_.1.1)); have n3_ := Aside0.mk (Kd.R_mono (ok' := n2 (.slice Ao40 t635.length co40) (.slice Ao54 t660.length co54)) (Kd.R_keptB ((Kd.R_mono (ok' := fun k_ => ((True ∧ some k_ ≠ (.slice Ao40 t635.length co40 : Value).ownBlock) ∧ some k_ ≠ (.slice Ao54 t660.length co54 : Value).ownBlock) ∧ ¬ (((((((((some k_ ≠ (.slice Ao41 t638.length co41 : Value).ownBlock ∧ (some k_ ≠ (.slice Ao52 t644.length co52 : Value).ownBlock ∧ (some k_ ≠ (.slice Ao51 t656.length co51 : Value).ownBlock ∧ some k_ ≠ (.slice Ao57 t664.length co57 : Value).ownBlock))) ∧ some k_ ≠ (.slice Ao40 t635.length co40 : Value).ownBlock) ∧ some k_ ≠ (.slice Ao42 t641.length co42 : Value).ownBlock) ∧ some k_ ≠ (.slice Ao47 t647.length co47 : Value).ownBlock) ∧ some k_ ≠ (.slice Ao49 t653.length co49 : Value).ownBlock) ∧ some k_ ≠ (.slice Ao54 t660.length co54 : Value).ownBlock) ∧ some k_ ≠ (.slice Ao60 t668.length co60 : Value).ownBlock)) ∧ w.heap.size ≤ k_)) (Kd.R_tight2 rfl HO649.out) (fun k_ hk => ⟨hk.2, fun hs_ => (hs_.1.1.1.1.2) hk.1⟩))) hkp (fun k_ hk_ hs_ => (hk_.2) hs_)) (fun k_ hk_ => ⟨hk_.1.1.1.2, hk_.1.1.2⟩)); have n4_ := Aside0.mk (Kd.S_mono (ok' := fun k_ => (some k_ ≠ (.slice Ao41 t638.length co41 : Value).ownBlock ∧ (some k_ ≠ (.slice Ao52 t644.length co52 : Value).ownBlock ∧ (some k_ ≠ (.slice Ao51 t656.length co51 : Value).ownBlock ∧ some k_ ≠ (.slice Ao57 t664.length co57 : Value).ownBlock)))) hy0 (fun k_ hk_ => ⟨(Or.elim hk_ (fun hs_ => hs_.1.1.1.1.1.1.1.1) (fun hn_ => fun e_ => Nat.not_le.2 (Kd.S_lt (sK HO640) k_ e_.symm) hn_)), ⟨(Or.elim hk_ (fun hs_ => hs_.1.1.1.1.1.1.1.2.1) (fun hn_ => fun e_ => Nat.not_le.2 (Kd.R_lt (rK HO646) k_ e_.symm) hn_)), ⟨(Or.elim hk_ (fun hs_ => hs_.1.1.1.1.1.1.1.2.2.1) (fun hn_ => fun e_ => Nat.not_le.2 (Kd.R_lt (rK HO658) k_ e_.symm) hn_)), (Or.elim hk_ (fun hs_ => hs_.1.1.1.1.1.1.1.2.2.2) (fun hn_ => fun e_ => Nat.not_le.2 (Kd.S_lt (sK HO666) k_ e_.symm) hn_))⟩⟩⟩)); have n5_ := Aside0.mk (Kd.R_mono (ok' := n2 (.slice Ao42 t641.length co42) (.slice Ao60 t668.length co60)) (Kd.R_keptB ((Kd.R_mono (ok' := fun k_ => (some k_ ≠ (.slice Ao42 t641.length co42 : Value).ownBlock ∧ some k_ ≠ (.slice Ao60 t668.length co60 : Value).ownBlock) ∧ ¬ (((((((((some k_ ≠ (.slice Ao41 t638.length co41 : Value).ownBlock ∧ (some k_ ≠ (.slice Ao52 t644.length co52 : Value).ownBlock ∧ (some k_ ≠ (.slice Ao51 t656.length co51 : Value).ownBlock ∧ some k_ ≠ (.slice Ao57 t664.length co57 : Value).ownBlock))) ∧ some k_ ≠ (.slice Ao40 t635.length co40 : Value).ownBlock) ∧ some k_ ≠ (.slice Ao42 t641.length co42 : Value).ownBlock) ∧ some k_ ≠ (.slice Ao47 t647.length co47 : Value).ownBlock) ∧ some k_ ≠ (.slice Ao49 t653.length co49 : Value).ownBlock) ∧ some k_ ≠ (.slice Ao54 t660.length co54 : Value).ownBlock) ∧ some k_ ≠ (.slice Ao60 t668.length co60 : Value).ownBlock)) ∧ w.heap.size ≤ k_)) (Kd.R_tight2 rfl HO655.out) (fun k_ hk => ⟨hk.2, fun hs_ => (hs_.1.1.1.2) hk.1⟩))) hkp (fun k_ hk_ hs_ => (hk_.2) hs_)) (fun k_ hk_ => ⟨hk_.1.1.1, hk_.1.1.2⟩)); have n6_ := Aside0.mk (Kd.R_mono (ok' := n1 (.slice Ao52 t644.length co52)) (Kd.R_keptB ((Kd.R_mono (ok' := fun k_ => some k_ ≠ (.slice Ao52 t644.length co52 : Value).ownBlock ∧ ¬ (((((((((some k_ ≠ (.slice Ao41 t638.length co41 : Value).ownBlock ∧ (some k_ ≠ (.slice Ao52 t644.length co52 : Value).ownBlock ∧ (some k_ ≠ (.slice Ao51 t656.length co51 : Value).ownBlock ∧ some k_ ≠ (.slice Ao57 t664.length co57 : Value).ownBlock))) ∧ some k_ ≠ (.slice Ao40 t635.length co40 : Value).ownBlock) ∧ some k_ ≠ (.slice Ao42 t641.length co42 : Value).ownBlock) ∧ some k_ ≠ (.slice Ao47 t647.length co47 : Value).ownBlock) ∧ some k_ ≠ (.slice Ao49 t653.length co49 : Value).ownBlock) ∧ some k_ ≠ (.slice Ao54 t660.length co54 : Value).ownBlock) ∧ some k_ ≠ (.slice Ao60 t668.length co60 : Value).ownBlock)) ∧ w.heap.size ≤ k_)) (Kd.R_tight2 rfl HO658.out) (fun k_ hk => ⟨hk.2, fun hs_ => (hs_.1.1.1.1.1.1.1.2.2.1) hk.1⟩))) hkp (fun k_ hk_ hs_ => (hk_.2) hs_)) (fun k_ hk_ => hk_.1.1)); have n7_ := Aside0.mk (Kd.R_mono (ok' := n2 (.slice Ao40 t635.length co40) (.slice Ao47 t647.length co47)) (Kd.R_keptB ((Kd.R_mono (ok' := fun k_ => (some k_ ≠ (.slice Ao40 t635.length co40 : Value).ownBlock ∧ some k_ ≠ (.slice Ao47 t647.length co47 : Value).ownBlock) ∧ ¬ (((((((((some k_ ≠ (.slice Ao41 t638.length co41 : Value).ownBlock ∧ (some k_ ≠ (.slice Ao52 t644.length co52 : Value).ownBlock ∧ (some k_ ≠ (.slice Ao51 t656.length co51 : Value).ownBlock ∧ some k_ ≠ (.slice Ao57 t664.length co57 : Value).ownBlock))) ∧ some k_ ≠ (.slice Ao40 t635.length co40 : Value).ownBlock) ∧ some k_ ≠ (.slice Ao42 t641.length co42 : Value).ownBlock) ∧ some k_ ≠ (.slice Ao47 t647.length co47 : Value).ownBlock) ∧ some k_ ≠ (.slice Ao49 t653.length co49 : Value).ownBlock) ∧ some k_ ≠ (.slice Ao54 t660.length co54 : Value).ownBlock) ∧ some k_ ≠ (.slice Ao60 t668.length co60 : Value).ownBlock)) ∧ w.heap.size ≤ k_)) (Kd.R_tight2 rfl HO662.out) (fun k_ hk => ⟨hk.2, fun hs_ => (hs_.1.1.2) hk.1⟩))) hkp (fun k_ hk_ hs_ => (hk_.2) hs_)) (fun k_ hk_ => ⟨hk_.1.1.1, hk_.1.1.2⟩)); have n8_ := Aside0.mk (Kd.R_mono (ok' := n2 (.slice Ao42 t641.length co42) (.slice Ao49 t653.length co49)) (Kd.R_keptB ((Kd.R_mono (ok' := fun k_ => (some k_ ≠ (.slice Ao42 t641.length co42 : Value).ownBlock ∧ some k_ ≠ (.slice Ao49 t653.length co49 : Value).ownBlock) ∧ ¬ (((((((((some k_ ≠ (.slice Ao41 t638.length co41 : Value).ownBlock ∧ (some k_ ≠ (.slice Ao52 t644.length co52 : Value).ownBlock ∧ (some k_ ≠ (.slice Ao51 t656.length co51 : Value).ownBlock ∧ some k_ ≠ (.slice Ao57 t664.length co57 : Value).ownBlock))) ∧ some k_ ≠ (.slice Ao40 t635.length co40 : Value).ownBlock) ∧ some k_ ≠ (.slice Ao42 t641.length co42 : Value).ownBlock) ∧ some k_ ≠ (.slice Ao47 t647.length co47 : Value).ownBlock) ∧ some k_ ≠ (.slice Ao49 t653.length co49 : Value).ownBlock) ∧ some k_ ≠ (.slice Ao54 t660.length co54 : Value).ownBlock) ∧ some k_ ≠ (.slice Ao60 t668.length co60 : Value).ownBlock)) ∧ w.heap.size ≤ k_)) (Kd.R_tight2 rfl HO670.out) (fun k_ hk => ⟨hk.2, fun hs_ => (hs_.1.2) hk.1⟩))) hkp (fun k_ hk_ hs_ => (hk_.2) hs_)) (fun k_ hk_ => ⟨hk_.1.1.1, hk_.1.1.2⟩)); have n9_ := Aside0.mk (hb); clear HO637; clear HO643; clear HO646; clear HO649; clear HO652; clear HO655; clear HO658; clear HO662; clear HO670; clear HB; clear HO640; clear HO666; have HO637 := n0_; have HO643 := n1_; have HO646 := n2_; have HO649 := n3_; have HO652 := n4_; have HO655 := n5_; have HO658 := n6_; have HO662 := n7_; have HO670 := n8_; have HB := n9_; clear n0_ n1_ n2_ n3_ n4_ n5_ n6_ n7_ n8_ n9_; (try clear hb); (try clear hkp); (try clear hy0)) | ((with_reducible refine gate_callee (f := 19) rfl ?_); refine gL (some 80) Tryz.func19 #[.slice Ao49 t653.length co49, .int .i64 t674] ?_; (with_reducible refine (laws_markCallS.calls k (fun k_ => some k_ = (.slice Ao49 t653.length co49 : Value).ownBlock) (.slice Ao49 t653.length co49) t653 t674 t676 t677 w _ ?_ ?_ A34.out).mono ?_); (focus repeat (first | (with_reducible first | exact HB.out | apply below_alloc | apply pw_below_drewN | apply below_drew1) | exact HB.out)); exact Kd.R_tight rfl HO655.out; rintro e w64 ⟨rfl, hy0, hb, hkp⟩; refine ⟨_, rfl, ?_⟩; replace HO637 := Aside0.mk (Kd.R_mono (ok' := n2 (.slice Ao47 t647.length co47) (.slice Ao54 t660.length co54)) (Kd.R_keptB ((Kd.R_apart' HO637.out (Kd.R_typed HO655.out) (by decide))) hkp (fun k_ hk_ hs_ => (hk_.2) hs_)) (fun k_ hk_ => ⟨hk_.1.1.1, hk_.1.1.2⟩)); replace HO643 := Aside0.mk (Kd.R_kept HO643.out hkp (fun k_ hk_ hs_ => (hk_.1) hs_)); replace HO646 := Aside0.mk (Kd.R_mono (ok' := n1 (.slice Ao51 t656.length co51)) (Kd.R_keptB ((Kd.R_apart' HO646.out (Kd.R_typed HO655.out) (by decide))) hkp (fun k_ hk_ hs_ => (hk_.2) hs_)) (fun k_ hk_ => hk_.1.1)); replace HO649 := Aside0.mk (Kd.R_mono (ok' := n2 (.slice Ao40 t635.length co40) (.slice Ao54 t660.length co54)) (Kd.R_keptB ((Kd.R_apart' HO649.out (Kd.R_typed HO655.out) (by decide))) hkp (fun k_ hk_ hs_ => (hk_.2) hs_)) (fun k_ hk_ => ⟨hk_.1.1.1, hk_.1.1.2⟩)); replace HO652 := Aside0.mk (Kd.S_mono (ok' := n2 (.slice Ao52 t644.length co52) (.slice Ao51 t656.length co51)) (Kd.S_keptB ((Kd.S_apart' HO652.out (Kd.R_typed HO655.out) (by decide))) hkp (fun k_ hk_ hs_ => (hk_.2) hs_)) (fun k_ hk_ => ⟨hk_.1.1.2.1, hk_.1.1.2.2.1⟩)); replace HO658 := Aside0.mk (Kd.R_mono (ok' := n1 (.slice Ao52 t644.length co52)) (Kd.R_keptB ((Kd.R_apart' HO658.out (Kd.R_typed HO655.out) (by decide))) hkp (fun k_ hk_ hs_ => (hk_.2) hs_)) (fun k_ hk_ => hk_.1.1)); replace HO662 := Aside0.mk (Kd.R_mono (ok' := n2 (.slice Ao40 t635.length co40) (.slice Ao47 t647.length co47)) (Kd.R_keptB ((Kd.R_apart' HO662.out (Kd.R_typed HO655.out) (by decide))) hkp (fun k_ hk_ hs_ => (hk_.2) hs_)) (fun k_ hk_ => ⟨hk_.1.1.1, hk_.1.1.2⟩)); replace HO655 := Aside0.mk (Kd.R_reok rfl hy0 (fun k_ e_ => HO655.out.1 k_ e_)); replace HO670 := Aside0.mk (Kd.R_kept HO670.out hkp (fun k_ hk_ hs_ => (hk_.2) hs_)); replace HB := Aside0.mk (hb); (try clear hb); (try clear hkp); (try clear hy0)))
 (try simp only [Act.put, List.setIfInBounds_toArray, List.set_cons_zero, List.set_cons_succ])
 go_cut [88] (fun v88 wc => ∃ (kq : Nat) (x88_34 : Bool), v88 = .bool x88_34 ∧ Aside0 (laws_FnExactWaitingAt.j0 kq l0 l1 l2 a3 t644 t656 x88_34 = some r) ∧ Aside0 (kq ≤ k) ∧ Aside0 (Kd.R (Kd.int .i64) 3 wc w.heap.size (n1 (.slice Ao51 t656.length co51)) (.slice Ao52 t644.length co52) t644) ∧ Aside0 (Kd.R (Kd.int .i64) 3 wc w.heap.size (n1 (.slice Ao52 t644.length co52)) (.slice Ao51 t656.length co51) t656) ∧ Aside0 (Below w.heap.size w wc))
 case first =>
  have H := HC35.out
  clear HC35
  by_cases c65 : t676 < 0
  ·
   rw [if_pos c65] at H
   have c65b0 := decide_eq_true c65
   clear c65
   (first | rw [c65b0] | (simp only [i64_w, i32_w]; rw [c65b0]) | skip)
   have H' := Aside0.mk H
   clear H
   go_wp2
   go_meet
   case rel => exact ⟨_, (true), rS, H', ⟨oL⟩, ⟨rK HO646⟩, ⟨rK HO658⟩, ⟨bA⟩⟩
  rw [if_neg c65] at H
  have c65b0 := decide_eq_false c65
  clear c65
  (first | rw [c65b0] | (simp only [i64_w, i32_w]; rw [c65b0]) | skip)
  obtain ⟨t678, A66, H⟩ := bindE H
  try dsimp only at H
  have H' := Aside0.mk H
  clear H
  go_wp2_with (first | (go_at_call 13; (with_reducible refine (laws_eqIntS.calls k _ _ t656 _ _ t644 t678 _ ?_ ?_ ?_ ?_ A66.out).mono ?_); exact cO ⟨(Kd.R_reads' HO658.out).2.2⟩; exact (Kd.R_reads' HO658.out).2.1; exact cO ⟨(Kd.R_reads' HO646.out).2.2⟩; exact (Kd.R_reads' HO646.out).2.1; rintro e w' ⟨rfl, ⟨nd, rfl⟩⟩))
  go_meet
  case rel => exact ⟨_, (!t678), rS, H', ⟨oL⟩, ⟨rK HO646⟩, ⟨rK HO658⟩, ⟨bA⟩⟩
 case rest =>
  clear HC35
  obtain ⟨kq, x88_34, rfl, HA, HJ34, HO_10, HO_14, HB⟩ := hcut
  cases kq with
  | zero => exact absurd HA.out (by simp [laws_FnExactWaitingAt.j0])
  | succ kj34 =>
   have H := HA.out
   clear HA
   simp only [laws_FnExactWaitingAt.j0] at H
   have c67 := ifN' H
   replace H := ifT' H
   replace c67 := Bool.eq_false_iff.mpr c67
   subst c67
   obtain ⟨⟨t679, t680⟩, A68, H⟩ := bindE H
   try dsimp only at H
   obtain ⟨t681, A69, H⟩ := bindE H
   try dsimp only at H
   have c70 : ¬ (t681 < 0) := ifN' H
   replace H := ifT' H
   have c70b0 := decide_eq_false c70
   clear c70
   have c71 : t681 = t679 := ifN H
   replace H := ifT H
   have c71b0 : (t681 == t679) = true := beq_iff_eq.mpr c71
   have c71b1 : (t681 != t679) = false := bne_eq_false_iff_eq.mpr c71
   clear c71
   obtain ⟨t682, A72, H⟩ := bindE H
   try dsimp only at H
   obtain ⟨t685, A73, H⟩ := bindE H
   try dsimp only at H
   obtain ⟨t688, A74, H⟩ := bindE H
   try dsimp only at H
   obtain ⟨t691, A75, H⟩ := bindE H
   try dsimp only at H
   obtain ⟨t694, A76, H⟩ := bindE H
   try dsimp only at H
   have c77 := ifN H
   replace H := ifT H
   subst c77
   obtain ⟨t695, A78, H⟩ := bindE H
   try dsimp only at H
   have c79 : ¬ (t695 < 0) := ifN' H
   replace H := ifT' H
   have c79b0 := decide_eq_false c79
   clear c79
   have c80 : t695 = t679 := ifN H
   replace H := ifT H
   have c80b0 : (t695 == t679) = true := beq_iff_eq.mpr c80
   have c80b1 : (t695 != t679) = false := bne_eq_false_iff_eq.mpr c80
   clear c80
   obtain rfl := Option.some.inj H
   go_wp2_with (first | ((with_reducible refine gate_callee (f := 20) rfl ?_); refine gL (some 91) Tryz.func20 #[.slice Ao51 t656.length co51, .int .i64 1] ?_; (with_reducible refine (laws_markIntS.calls kj34 (fun k_ => some k_ = (.slice Ao51 t656.length co51 : Value).ownBlock) (.slice Ao51 t656.length co51) t656 1 t679 t680 w _ ?_ ?_ A68.out).mono ?_); (focus repeat (first | (with_reducible first | exact HB.out | apply below_alloc | apply pw_below_drewN | apply below_drew1) | exact HB.out)); exact Kd.R_tight rfl HO_14.out; rintro e w81 ⟨rfl, hy0, hb, hkp⟩; refine ⟨_, rfl, ?_⟩; replace HO_10 := Aside0.mk (Kd.R_kept HO_10.out hkp (fun k_ hk_ hs_ => (hk_) hs_)); replace HO_14 := Aside0.mk (Kd.R_reok rfl hy0 (fun k_ e_ => HO_14.out.1 k_ e_)); replace HB := Aside0.mk (hb); (try clear hb); (try clear hkp); (try clear hy0)) | ((with_reducible refine gate_callee (f := 21) rfl ?_); refine goesL_ (some 94) rfl rfl Tryz.func21 (by kernel_rfl) rfl #[.slice Ao51 t680.length co51, .int .i64 1] rfl (by (try simp only [List.map_toArray, List.map_cons, List.map_nil]); first | done | (rw [show t680.length = t656.length from (Kd.R_reads' HO_14.out).1.symm] <;> rfl) | rfl | (simp only [List.length_drop, List.length_take]; rfl)) ?_; (with_reducible refine (laws_heldIntS.calls kj34 _ _ t680 1 t681 _ ?_ ?_ A69.out).mono ?_); exact cO ⟨(Kd.R_reads' HO_14.out).2.2⟩; (focus rw [show t680.length = t656.length from (Kd.R_reads' HO_14.out).1.symm]; exact (Kd.R_reads' HO_14.out).2.1); rintro e w' ⟨rfl, ⟨nd, rfl⟩⟩; refine ⟨_, rfl, ?_⟩) | ((with_reducible refine gate_callee (f := 9) rfl ?_); refine gL (some 101) Tryz.func9 #[.slice A0 l0.length c0] ?_; (with_reducible refine (laws_toPathS.calls kj34 _ _ l0 t682 _ ?_ ?_ A72.out).mono ?_); exact cG HR0; exact HC0.out; rintro e w82 ⟨v683, rfl, ho0, hb⟩; refine ⟨_, rfl, ?_⟩; replace HO_10 := rb HO_10 hb; replace HO_14 := rb HO_14 hb; have HO684 := rl w ho0; replace HB := bs HB hb; (try clear hb); (try clear ho0)) | ((with_reducible refine gate_callee (f := 10) rfl ?_); refine gL (some 103) Tryz.func10 #[.slice A1 l1.length c1] ?_; (with_reducible refine (laws_toPartS.calls kj34 _ _ l1 t685 _ ?_ ?_ A73.out).mono ?_); exact cB HR1; exact HC1.out; rintro e w83 ⟨v686, rfl, ho0, hb⟩; refine ⟨_, rfl, ?_⟩; replace HO684 := rb HO684 hb; have HO687 := Aside0.mk (Kd.S_lower (Kd.S_new' (Kd.S_new' ho0 (Kd.R_lt (rK HO_10))) (Kd.R_lt (rK HO_14))) (below_size bA)); replace HO_10 := rb HO_10 hb; replace HO_14 := rb HO_14 hb; replace HB := bs HB hb; (try clear hb); (try clear ho0)) | ((with_reducible refine gate_callee (f := 11) rfl ?_); refine gL (some 105) Tryz.func11 #[.slice A2 l2.length c2] ?_; (with_reducible refine (laws_toCallS.calls kj34 _ _ l2 t688 _ ?_ ?_ A74.out).mono ?_); exact cB HR2; exact HC2.out; rintro e w84 ⟨v689, rfl, ho0, hb⟩; refine ⟨_, rfl, ?_⟩; replace HO_10 := rb HO_10 hb; replace HO_14 := rb HO_14 hb; replace HO684 := rb HO684 hb; replace HO687 := sb HO687 hb; have HO690 := rl w ho0; replace HB := bs HB hb; (try clear hb); (try clear ho0); obtain ⟨Ao85, co85, eo85⟩ := Kd.R_slice HO684.out; subst eo85; obtain ⟨Ao86, co86, eo86⟩ := Kd.S_slice HO687.out; subst eo86; obtain ⟨Ao87, co87, eo87⟩ := Kd.R_slice HO690.out; subst eo87) | ((with_reducible refine gate_callee (f := 12) rfl ?_); refine gL (some 107) Tryz.func12 #[.slice Ao85 t682.length co85, .slice Ao86 t685.length co86, .slice Ao87 t688.length co87, .int .i64 a3] ?_; (with_reducible refine (impl_WaitingAt.calls kj34 _ _ t682 _ _ t685 _ _ t688 a3 t691 _ ?_ ?_ ?_ ?_ ?_ ?_ A75.out).mono ?_); exact cO ⟨(Kd.R_reads' HO684.out).2.2⟩; exact (Kd.R_reads' HO684.out).2.1; (focus repeat (first | exact (Kd.S_reads' HO687.out).2.2 | (with_reducible refine Kd.C_alloc ?_ _) | (with_reducible refine Kd.C_drewN ?_ _) | (with_reducible refine Kd.C_drew ?_))); exact (Kd.S_reads' HO687.out).2.1; exact cO ⟨(Kd.R_reads' HO690.out).2.2⟩; exact (Kd.R_reads' HO690.out).2.1; rintro e w88 ⟨v692, rfl, ho0, hb⟩; refine ⟨_, rfl, ?_⟩; replace HO684 := rb HO684 hb; replace HO687 := se HO687 ho0 hb; replace HO690 := rb HO690 hb; have HO693 := rl w (rn (rn ho0 HO_10) HO_14); replace HO_10 := re HO_10 ho0 hb; replace HO_14 := re HO_14 ho0 hb; replace HB := bs HB hb; (try clear hb); (try clear ho0); obtain ⟨Ao89, co89, eo89⟩ := Kd.R_slice HO693.out; subst eo89) | ((with_reducible refine gate_callee (f := 13) rfl ?_); refine gL (some 110) Tryz.func13 #[.slice Ao89 t691.length co89, .slice Ao52 t644.length co52] ?_; (with_reducible refine (laws_eqIntS.calls kj34 _ _ t691 _ _ t644 true _ ?_ ?_ ?_ ?_ A76.out).mono ?_); exact cO ⟨(Kd.R_reads' HO693.out).2.2⟩; exact (Kd.R_reads' HO693.out).2.1; exact cO ⟨(Kd.R_reads' HO_10.out).2.2⟩; exact (Kd.R_reads' HO_10.out).2.1; rintro e w' ⟨rfl, ⟨nd, rfl⟩⟩; refine ⟨_, rfl, ?_⟩) | ((with_reducible refine gate_callee (f := 21) rfl ?_); refine goesL_ (some 114) rfl rfl Tryz.func21 (by kernel_rfl) rfl #[.slice Ao51 t680.length co51, .int .i64 1] rfl (by (try simp only [List.map_toArray, List.map_cons, List.map_nil]); first | done | (rw [show t680.length = t656.length from (Kd.R_reads' HO_14.out).1.symm] <;> rfl) | rfl | (simp only [List.length_drop, List.length_take]; rfl)) ?_; (with_reducible refine (laws_heldIntS.calls kj34 _ _ t680 1 t695 _ ?_ ?_ A78.out).mono ?_); exact cO ⟨(Kd.R_reads' HO_14.out).2.2⟩; (focus rw [show t680.length = t656.length from (Kd.R_reads' HO_14.out).1.symm]; exact (Kd.R_reads' HO_14.out).2.1); rintro e w' ⟨rfl, ⟨nd, rfl⟩⟩; refine ⟨_, rfl, ?_⟩))
   go_ret
   exact ⟨rA, bA⟩

end Go.Proofs.YtdkmmefmhfbgkaaGreat.P
