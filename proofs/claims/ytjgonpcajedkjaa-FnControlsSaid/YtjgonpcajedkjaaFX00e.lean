/- Printed by myprint.py (wip/tools) over the kit's print: what Go's functions compute, and that they do. Lean checks it. -/
import Derived.Test.YtjgonpcajedkjaaF0
import Derived.Test.YtjgonpcajedkjaaFX00
import Derived.Test.YtjgonpcajedkjaaFX00c
import Derived.Test.YtjgonpcajedkjaaFX00d
namespace Go.Proofs.Ytjgonpcajedkjaa.P
open Go.RowKit Go.Proofs.YtjgonpcajedkjaaW.PrintWords Go.Proofs.YtjgonpcajedkjaaW.PrintLast Go.Proofs.YtjgonpcajedkjaaW.PrintMore Go.Proofs.Ytjgonpcajedkjaa.Sq
attribute [local go_sem] max2_int min2_int max_two min_two max_three min_three max_four min_four
set_option linter.unusedVariables false
set_option linter.unusedSimpArgs false

/-! ### impl_IsSafeLights: function 49 -/
mutual
def impl_IsSafeLights.j0 : Nat → List (S50) → List Int → Bool → Option (Bool)
 | 0, _, _, _ => none
 | k + 1, x0, x1, x18 => if x18 = true then (some false) else (impl_IsSafeLights.l0 k x0 x1 x0 (x0.length : Int) 0)
def impl_IsSafeLights.l0 : Nat → List (S50) → List Int → List (S50) → Int → Int → Option (Bool)
 | 0, _, _, _, _, _ => none
 | k + 1, x0, x1, x19, x20, x21 => if x21 < x20 then (if 0 ≤ x21 then (if x21 < (x19.length : Int) then (if x21 < (x1.length : Int) then ((impl_InRange.f (rd x1 x21) 0 2).bind fun t692 => (if t692 = true then (if x21 ≤ (x0.length : Int) then ((some (x0.take (x21 : Int).toNat : List (S50))).bind fun y693 => (impl_IsSafeLights.l1 k x0 x1 x21 x19 x20 x21 y693 (y693.length : Int) 0 ((rd_T50 x19 x21).f0) ((rd_T50 x19 x21).f1) ((rd_T50 x19 x21).f2) ((rd_T50 x19 x21).f3))) else (none)) else (some false))) else (none)) else (none)) else (none)) else (some true)
def impl_IsSafeLights.l1 : Nat → List (S50) → List Int → Int → List (S50) → Int → Int → List (S50) → Int → Int → Int → Int → Int → Int → Option (Bool)
 | 0, _, _, _, _, _, _, _, _, _, _, _, _, _ => none
 | k + 1, x0, x1, x5, x19, x20, x21, x34, x35, x36, x691000, x691001, x691002, x691003 => if x36 < x35 then (if 0 ≤ x36 then (if x36 < (x34.length : Int) then ((impl_Conflict.f k x691000 x691001 x691002 x691003 ((rd_T50 x34 x36).f0) ((rd_T50 x34 x36).f1) ((rd_T50 x34 x36).f2) ((rd_T50 x34 x36).f3)).bind fun t699 => (if t699 = true then (if 0 ≤ x5 then (if x5 < (x1.length : Int) then (if (rd x1 x5) = 0 then (impl_IsSafeLights.l1 k x0 x1 x5 x19 x20 x21 x34 x35 (wrap64 (x36 + 1)) x691000 x691001 x691002 x691003) else (if x36 < (x1.length : Int) then (if (rd x1 x36) = 0 then (impl_IsSafeLights.l1 k x0 x1 x5 x19 x20 x21 x34 x35 (wrap64 (x36 + 1)) x691000 x691001 x691002 x691003) else (some false)) else (none))) else (none)) else (none)) else (impl_IsSafeLights.l1 k x0 x1 x5 x19 x20 x21 x34 x35 (wrap64 (x36 + 1)) x691000 x691001 x691002 x691003))) else (none)) else (none)) else (impl_IsSafeLights.l0 k x0 x1 x19 x20 (wrap64 (x21 + 1)))
end
def impl_IsSafeLights.f (k : Nat) (l0 : List (S50)) (l1 : List Int) : Option (Bool) := (impl_ArePaths.f k l0).bind fun t688 => (if t688 = true then (impl_IsSafeLights.j0 k l0 l1 ((l1.length : Int) != (l0.length : Int))) else (impl_IsSafeLights.j0 k l0 l1 true))
theorem impl_IsSafeLights.mono_l : ∀ k, (∀ y0 y1 y2, LeO (impl_IsSafeLights.j0 k y0 y1 y2) (impl_IsSafeLights.j0 (k + 1) y0 y1 y2)) ∧ (∀ y0 y1 y2 y3 y4, LeO (impl_IsSafeLights.l0 k y0 y1 y2 y3 y4) (impl_IsSafeLights.l0 (k + 1) y0 y1 y2 y3 y4)) ∧ (∀ y0 y1 y2 y3 y4 y5 y6 y7 y8 y9 y10 y11 y12, LeO (impl_IsSafeLights.l1 k y0 y1 y2 y3 y4 y5 y6 y7 y8 y9 y10 y11 y12) (impl_IsSafeLights.l1 (k + 1) y0 y1 y2 y3 y4 y5 y6 y7 y8 y9 y10 y11 y12))
 | 0 => ⟨fun _ _ _ r h => by simp [impl_IsSafeLights.j0] at h, fun _ _ _ _ _ r h => by simp [impl_IsSafeLights.l0] at h, fun _ _ _ _ _ _ _ _ _ _ _ _ _ r h => by simp [impl_IsSafeLights.l1] at h⟩
 | k + 1 => by
  obtain ⟨ih0, ih1, ih2⟩ := impl_IsSafeLights.mono_l k
  refine ⟨?_, ?_, ?_⟩
  ·
   intro y0 y1 y2
   unfold impl_IsSafeLights.j0
   exact mz5 ih0 ih1 ih2 impl_ArePaths.mono impl_Conflict.mono
  ·
   intro y0 y1 y2 y3 y4
   unfold impl_IsSafeLights.l0
   exact mz5 ih0 ih1 ih2 impl_ArePaths.mono impl_Conflict.mono
  ·
   intro y0 y1 y2 y3 y4 y5 y6 y7 y8 y9 y10 y11 y12
   unfold impl_IsSafeLights.l1
   exact mz5 ih0 ih1 ih2 impl_ArePaths.mono impl_Conflict.mono
theorem impl_IsSafeLights.mono : ∀ a0 a1 k, LeO (impl_IsSafeLights.f k a0 a1) (impl_IsSafeLights.f (k + 1) a0 a1) := by
 intro a0 a1 k
 obtain ⟨ih0, ih1, ih2⟩ := impl_IsSafeLights.mono_l k
 unfold impl_IsSafeLights.f
 exact mz5 ih0 ih1 ih2 impl_ArePaths.mono impl_Conflict.mono
set_option maxHeartbeats 8000000 in
set_option maxRecDepth 100000 in
theorem impl_IsSafeLights.calls (k : Nat) (A0 : Option Addr) (c0 : Nat) (l0 : List (S50)) (A1 : Option Addr) (c1 : Nat) (l1 : List Int) (r : Bool) (w : World) (hr0 : Kd.C k50 w A0 l0.length l0) (hc0 : l0.length ≤ c0) (hr1 : Kd.C (Kd.int .i64) w A1 l1.length l1) (hc1 : l1.length ≤ c1) (h : impl_IsSafeLights.f k l0 l1 = some r) :
  Calls Try.prog 49 #[.slice A0 l0.length c0, .slice A1 l1.length c1] w fun e w' => e = .returned (.bool r) ∧ Below w.heap.size w w' := by
 have hu50 := Try.underlying50
 have HR0 := Aside0.mk hr0
 have HC0 := Aside0.mk hc0
 clear hr0 hc0
 have HR1 := Aside0.mk hr1
 have HC1 := Aside0.mk hc1
 clear hr1 hc1
 have HB := Aside0.mk (Below.refl w.heap.size w)
 have H : ((impl_ArePaths.f k l0).bind fun t688 => (if t688 = true then (impl_IsSafeLights.j0 k l0 l1 ((l1.length : Int) != (l0.length : Int))) else (impl_IsSafeLights.j0 k l0 l1 true))) = some r := h
 clear h
 have HC3 := Aside0.mk H
 clear H
 go_enter Try.func49, Try.ntmps49
 go_upto_region 1 with (fail)
 go_cut [18] (fun v18 wc => ∃ (kq : Nat) (x18_2 : Bool), v18 = .bool x18_2 ∧ Aside0 (impl_IsSafeLights.j0 kq l0 l1 x18_2 = some r) ∧ Aside0 (kq ≤ k) ∧ Aside0 (Below w.heap.size w wc))
 case first =>
  have H := HC3.out
  clear HC3
  obtain ⟨t688, A4, H⟩ := bindE H
  try dsimp only at H
  by_cases c5 : t688 = true
  ·
   subst c5
   have H1 : (impl_IsSafeLights.j0 k l0 l1 ((l1.length : Int) != (l0.length : Int))) = some r := by rw [if_pos rfl] at H; exact H
   clear H
   have H := H1
   clear H1
   have H' := Aside0.mk H
   clear H
   go_wp2_with (first | ((with_reducible refine gate_callee (f := 32) rfl ?_); refine gL (some 10) Try.func32 #[.slice A0 l0.length c0] ?_; (with_reducible refine (impl_ArePaths.calls k _ _ l0 true _ ?_ ?_ A4.out).mono ?_); exact cB HR0; exact HC0.out; rintro e w6 ⟨rfl, hb⟩; refine ⟨_, rfl, ?_⟩; replace HB := bs HB hb; (try clear hb)))
   go_meet
   case rel => exact ⟨_, (((l1.length : Int) != (l0.length : Int))), rS, H', ⟨oL⟩, ⟨bA⟩⟩
  replace c5 := Bool.eq_false_iff.mpr c5
  subst c5
  have H1 : (impl_IsSafeLights.j0 k l0 l1 true) = some r := by rw [if_neg (show ¬ (false = true) by decide)] at H; exact H
  clear H
  have H := H1
  clear H1
  have H' := Aside0.mk H
  clear H
  go_wp2_with (first | ((with_reducible refine gate_callee (f := 32) rfl ?_); refine gL (some 10) Try.func32 #[.slice A0 l0.length c0] ?_; (with_reducible refine (impl_ArePaths.calls k _ _ l0 false _ ?_ ?_ A4.out).mono ?_); exact cB HR0; exact HC0.out; rintro e w7 ⟨rfl, hb⟩; refine ⟨_, rfl, ?_⟩; replace HB := bs HB hb; (try clear hb)))
  go_meet
  case rel => exact ⟨_, (true), rS, H', ⟨oL⟩, ⟨bA⟩⟩
 case rest =>
  clear HC3
  obtain ⟨kq, x18_2, rfl, HA, HJ2, HB⟩ := hcut
  cases kq with
  | zero => exact absurd HA.out (by simp [impl_IsSafeLights.j0])
  | succ kj2 =>
   have H := HA.out
   clear HA
   simp only [impl_IsSafeLights.j0] at H
   by_cases c8 : x18_2 = true
   ·
    subst c8
    have H1 : (some false) = some r := by rw [if_pos rfl] at H; exact H
    clear H
    have H := H1
    clear H1
    obtain rfl := Option.some.inj H
    go_wp2
    go_ret
    exact ⟨rA, bA⟩
   replace c8 := Bool.eq_false_iff.mpr c8
   subst c8
   have H1 : (impl_IsSafeLights.l0 kj2 l0 l1 l0 (l0.length : Int) 0) = some r := by rw [if_neg (show ¬ (false = true) by decide)] at H; exact H
   clear H
   have H := H1
   clear H1
   have H' := Aside0.mk H
   clear H
   go_wp2
   go_loopg [21] kj2 (fun kq v21 w' => ∃ (x21_2 : Int), v21 = .int .i64 x21_2 ∧ Aside0 (impl_IsSafeLights.l0 kq l0 l1 l0 (l0.length : Int) x21_2 = some r) ∧ Aside0 (kq ≤ kj2) ∧ Aside0 (Below w.heap.size w w'))
   case atStart => exact ⟨(0), rS, H', ⟨Nat.le_refl _⟩, ⟨bA⟩⟩
   case round =>
    clear H'
    obtain ⟨x21_2, rfl, HA, HK2, HB⟩ := hrel
    cases gk with
    | zero => exact absurd HA.out (by simp [impl_IsSafeLights.l0])
    | succ k2 =>
     have H := HA.out
     clear HA
     simp only [impl_IsSafeLights.l0] at H
     by_cases c9 : x21_2 < (l0.length : Int)
     ·
      rw [if_pos c9] at H
      have c9b0 := decide_eq_true c9
      clear c9
      have c10 : 0 ≤ x21_2 := ifN H
      replace H := ifT H
      have c10b0 := decide_eq_true c10
      clear c10
      have c11 : x21_2 < (l0.length : Int) := ifN H
      replace H := ifT H
      have c11b0 := decide_eq_true c11
      clear c11
      have c12 : x21_2 < (l1.length : Int) := ifN H
      replace H := ifT H
      have c12b0 := decide_eq_true c12
      clear c12
      obtain ⟨t692, A13, H⟩ := bindE H
      try dsimp only at H
      by_cases c14 : t692 = true
      ·
       subst c14
       have H1 : (if x21_2 ≤ (l0.length : Int) then ((some (l0.take (x21_2 : Int).toNat : List (S50))).bind fun y693 => (impl_IsSafeLights.l1 k2 l0 l1 x21_2 l0 (l0.length : Int) x21_2 y693 (y693.length : Int) 0 ((rd_T50 l0 x21_2).f0) ((rd_T50 l0 x21_2).f1) ((rd_T50 l0 x21_2).f2) ((rd_T50 l0 x21_2).f3))) else (none)) = some r := by rw [if_pos rfl] at H; exact H
       clear H
       have H := H1
       clear H1
       have c15b0 := eq_true (dA : 0 ≤ x21_2)
       have c16 : x21_2 ≤ (l0.length : Int) := ifN H
       replace H := ifT H
       have c16b0 := eq_true c16
       have c16b1 := decide_eq_true c16
       clear c16
       obtain ⟨y693, hy693⟩ : ∃ y_ : List (S50), y_ = (l0.take (x21_2 : Int).toNat) := ⟨_, rfl⟩
       replace H : (impl_IsSafeLights.l1 k2 l0 l1 x21_2 l0 (l0.length : Int) x21_2 y693 (y693.length : Int) 0 ((rd_T50 l0 x21_2).f0) ((rd_T50 l0 x21_2).f1) ((rd_T50 l0 x21_2).f2) ((rd_T50 l0 x21_2).f3)) = some r := rH H hy693
       have Ny693 := Aside0.mk hy693
       clear hy693
       have H' := Aside0.mk H
       clear H
       obtain ⟨p689, q689⟩ : 0 ≤ (x21_2 : Int) ∧ x21_2 < (l0.length : Int) := ⟨dA, dA⟩
       obtain ⟨ad689, e689, hx689_0, hx689_1, hx689_2, hx689_3⟩ := at_T50 (Kd.C_below HR0.out HB.out) x21_2 p689 q689
       cases e689
       obtain ⟨p689, q689⟩ := eT p689 q689
       go_wp2_with (first | ((with_reducible refine gate_dst (N := 6) rfl ?_); (try (refine gate_guard (by rfl) ?_; dsimp only)); refine bE (N := 6) (cs := #[.int .i64 0, .int .i64 0, .int .i64 0, .int .i64 0]) (t := 50) ?_; intro gb690 hg w17 hbox hb; have BK690 := Aside0.mk (hbox); have GW690 := gw w hg; have GE690 := gw w hg; replace HB := bs HB hb; clear hb hbox hg; obtain ⟨_, _, _, _, _, _, _, _⟩ := blkc4 BK690) | ((with_reducible refine gate_store (t := 50) (p := 6) rfl ?_); refine store_event (t := 50) (p := 6) (v := ?vo_w19) (w1 := ((((w17.setCell ⟨gb690, 0, none⟩ (.int .i64 ((rd_T50 l0 x21_2).f0))).setCell ⟨gb690, 1, none⟩ (.int .i64 ((rd_T50 l0 x21_2).f1))).setCell ⟨gb690, 2, none⟩ (.int .i64 ((rd_T50 l0 x21_2).f2))).setCell ⟨gb690, 3, none⟩ (.int .i64 ((rd_T50 l0 x21_2).f3)))) ?hg ?ho ?hn ?hr ?_; (case ho => rfl); (case hg => rfl); (case hn => rfl); (case hr => first | (go_simp; done) | (go_simp; rfl)); intro w19 hw; have n0_ : Aside0 (w19.heap[gb690]? = some (.cells #[.int .i64 ((rd_T50 l0 x21_2).f0), .int .i64 ((rd_T50 l0 x21_2).f1), .int .i64 ((rd_T50 l0 x21_2).f2), .int .i64 ((rd_T50 l0 x21_2).f3)] 50 (0, 0))) := ⟨(by rw [hw]; exact (kp BK690))⟩; have n1_ : Aside0 (Below w.heap.size w w19) := ⟨(by rw [hw]; exact bG)⟩; clear hw; clear BK690; clear HB; have BK690 := n0_; have HB := n1_; clear n0_ n1_; have p691 : 0 ≤ (x21_2 : Int) := dA; have q691 : x21_2 < (l1.length : Int) := dA; obtain ⟨ad691, e691, hx691_0⟩ := Kd.at_int HR1.out x21_2 p691 q691; cases e691; replace hx691_0 := hC HB hx691_0; replace p691 := eq_true p691; replace q691 := eq_true q691) | ((with_reducible refine gate_callee (f := 75) rfl ?_); refine gL (some 30) Try.func75 #[.int .i64 (rd l1 x21_2), .int .i64 0, .int .i64 2] ?_; (with_reducible refine (impl_InRange.calls (rd l1 x21_2) 0 2 true _ A13.out).mono ?_); rintro e w' ⟨rfl, ⟨nd, rfl⟩⟩; refine ⟨_, rfl, ?_⟩; have q20 : (x21_2 : Int) ≤ ((l0.length : Int) : Int) := dA; obtain ⟨i020, hi020, _, hsz20, _⟩ := info_parts info50; have hroom20 : l0.length ≤ c0 := HC0.out; have hC20 : Kd.C k50 _ (some ad689) l0.length l0 := HR0.out; have hcut20 := cut_to (P := Try.prog) 24 50 .i64 Try.underlying24 hi020 (some ad689) l0.length c0 x21_2 (dA) q20 hroom20; have hr20 := Kd.C_take (m := (x21_2 : Int).toNat) hC20 (by omega); have hy20 : y693.length = (x21_2 : Int).toNat := (by rw [Ny693.out, List.length_take]; omega); rw [← Ny693.out] at hr20; rw [← hy20] at hcut20; have HR696 := Aside0.mk hr20; have HC696 := Aside0.mk (show y693.length ≤ c0 from by omega); clear hr20 hC20 hroom20 hi020 hsz20; have KY20 := Aside0.mk hy20; clear hy20; replace q20 := eq_true q20))
       go_loopg [36] k2 (fun kq v36 w' => ∃ (x36_3 : Int), v36 = .int .i64 x36_3 ∧ Aside0 (impl_IsSafeLights.l1 kq l0 l1 x21_2 l0 (l0.length : Int) x21_2 y693 (y693.length : Int) x36_3 ((rd_T50 l0 x21_2).f0) ((rd_T50 l0 x21_2).f1) ((rd_T50 l0 x21_2).f2) ((rd_T50 l0 x21_2).f3) = some r) ∧ Aside0 (kq ≤ k2) ∧ Aside0 (w'.heap[gb690]? = some (.cells #[.int .i64 ((rd_T50 l0 x21_2).f0), .int .i64 ((rd_T50 l0 x21_2).f1), .int .i64 ((rd_T50 l0 x21_2).f2), .int .i64 ((rd_T50 l0 x21_2).f3)] 50 (0, 0))) ∧ Aside0 (Below w.heap.size w w'))
       case atStart => exact ⟨(0), rS, H', ⟨Nat.le_refl _⟩, ⟨bK BK690⟩, ⟨bG⟩⟩
       case round =>
        clear H'
        obtain ⟨x36_3, rfl, HA, HK3, BK690, HB⟩ := hrel
        cases gk with
        | zero => exact absurd HA.out (by simp [impl_IsSafeLights.l1])
        | succ k3 =>
         have H := HA.out
         clear HA
         simp only [impl_IsSafeLights.l1] at H
         by_cases c21 : x36_3 < (y693.length : Int)
         ·
          rw [if_pos c21] at H
          have c21b0 := decide_eq_true c21
          clear c21
          have c22 : 0 ≤ x36_3 := ifN H
          replace H := ifT H
          have c22b0 := decide_eq_true c22
          clear c22
          have c23 : x36_3 < (y693.length : Int) := ifN H
          replace H := ifT H
          have c23b0 := decide_eq_true c23
          clear c23
          obtain ⟨t699, A24, H⟩ := bindE H
          try dsimp only at H
          by_cases c25 : t699 = true
          ·
           subst c25
           have H1 : (if 0 ≤ x21_2 then (if x21_2 < (l1.length : Int) then (if (rd l1 x21_2) = 0 then (impl_IsSafeLights.l1 k3 l0 l1 x21_2 l0 (l0.length : Int) x21_2 y693 (y693.length : Int) (wrap64 (x36_3 + 1)) ((rd_T50 l0 x21_2).f0) ((rd_T50 l0 x21_2).f1) ((rd_T50 l0 x21_2).f2) ((rd_T50 l0 x21_2).f3)) else (if x36_3 < (l1.length : Int) then (if (rd l1 x36_3) = 0 then (impl_IsSafeLights.l1 k3 l0 l1 x21_2 l0 (l0.length : Int) x21_2 y693 (y693.length : Int) (wrap64 (x36_3 + 1)) ((rd_T50 l0 x21_2).f0) ((rd_T50 l0 x21_2).f1) ((rd_T50 l0 x21_2).f2) ((rd_T50 l0 x21_2).f3)) else (some false)) else (none))) else (none)) else (none)) = some r := by rw [if_pos rfl] at H; exact H
           clear H
           have H := H1
           clear H1
           have c26 : 0 ≤ x21_2 := ifN H
           replace H := ifT H
           have c26b0 := decide_eq_true c26
           clear c26
           have c27 : x21_2 < (l1.length : Int) := ifN H
           replace H := ifT H
           have c27b0 := decide_eq_true c27
           clear c27
           by_cases c28 : (rd l1 x21_2) = 0
           ·
            rw [if_pos c28] at H
            have c28b0 : ((rd l1 x21_2) == 0) = true := beq_iff_eq.mpr c28
            have c28b1 : ((rd l1 x21_2) != 0) = false := bne_eq_false_iff_eq.mpr c28
            clear c28
            have H' := Aside0.mk H
            clear H
            obtain ⟨p697, q697⟩ : 0 ≤ (x36_3 : Int) ∧ x36_3 < (y693.length : Int) := ⟨dA, dA⟩
            obtain ⟨ad697, e697, hx697_0, hx697_1, hx697_2, hx697_3⟩ := at_T50 (Kd.C_below HR696.out HB.out) x36_3 p697 q697
            obtain rfl : ad689 = ad697 := (by injection e697)
            obtain ⟨p697, q697⟩ := eT p697 q697
            go_wp2_with (first | ((with_reducible refine gate_dst (N := 8) rfl ?_); (try (refine gate_guard (by rfl) ?_; dsimp only)); refine bE (N := 8) (cs := #[.int .i64 0, .int .i64 0, .int .i64 0, .int .i64 0]) (t := 50) ?_; intro gb698 hg w29 hbox hb; have BK698 := Aside0.mk (hbox); have GW698 := gw w hg; have GE698 := gw w hg; replace HB := bs HB hb; have NB690_698 := nl BK690 hg; have NB698_690 := nr BK690 hg; replace BK690 := kb BK690 hb; clear hb hbox hg; have hnb30 := NB698_690.out; have hnc30 := NB690_698.out; obtain ⟨_, _, _, _, _, _, _, _⟩ := blkc4 BK698; obtain ⟨_, _, _, _, _, _, _, _⟩ := blkc4 BK690) | ((with_reducible refine gate_callee (f := 101) rfl ?_); refine gL (some 43) Try.func101 #[.agg #[.int .i64 ((rd_T50 l0 x21_2).f0), .int .i64 ((rd_T50 l0 x21_2).f1), .int .i64 ((rd_T50 l0 x21_2).f2), .int .i64 ((rd_T50 l0 x21_2).f3)], .agg #[.int .i64 ((rd_T50 y693 x36_3).f0), .int .i64 ((rd_T50 y693 x36_3).f1), .int .i64 ((rd_T50 y693 x36_3).f2), .int .i64 ((rd_T50 y693 x36_3).f3)]] ?_; (with_reducible refine (impl_Conflict.calls k3 ((rd_T50 l0 x21_2).f0) ((rd_T50 l0 x21_2).f1) ((rd_T50 l0 x21_2).f2) ((rd_T50 l0 x21_2).f3) ((rd_T50 y693 x36_3).f0) ((rd_T50 y693 x36_3).f1) ((rd_T50 y693 x36_3).f2) ((rd_T50 y693 x36_3).f3) true _ A24.out).mono ?_); rintro e w33 ⟨rfl, hb⟩; refine ⟨_, rfl, ?_⟩; replace BK690 := kc (kf BK690 NB690_698) hb; replace BK698 := kc (o := .cells #[.int .i64 ((rd_T50 y693 x36_3).f0), .int .i64 ((rd_T50 y693 x36_3).f1), .int .i64 ((rd_T50 y693 x36_3).f2), .int .i64 ((rd_T50 y693 x36_3).f3)] 50 (0, 0)) (kp BK698) hb; replace HB := bs HB hb; (try clear hb); have p700 : 0 ≤ (x21_2 : Int) := dA; have q700 : x21_2 < (l1.length : Int) := dA; obtain ⟨ad700, e700, hx700_0⟩ := Kd.at_int HR1.out x21_2 p700 q700; obtain rfl : ad691 = ad700 := (by injection e700); replace hx700_0 := hC HB hx700_0; replace p700 := eq_true p700; replace q700 := eq_true q700))
            go_roundg k3
            case measure => have := HJ2.out; have := HK2.out; have := HK3.out; omega
            case rel => exact ⟨(wrap64 (x36_3 + 1)), rS, H', ⟨by have := HJ2.out; have := HK2.out; have := HK3.out; omega⟩, ⟨bK BK690⟩, ⟨bG⟩⟩
           rw [if_neg c28] at H
           have c28b0 : ((rd l1 x21_2) == 0) = false := beq_eq_false_iff_ne.mpr c28
           have c28b1 : ((rd l1 x21_2) != 0) = true := bne_iff_ne.mpr c28
           have c34 : x36_3 < (l1.length : Int) := ifN H
           replace H := ifT H
           have c34b0 := decide_eq_true c34
           clear c34
           by_cases c35 : (rd l1 x36_3) = 0
           ·
            rw [if_pos c35] at H
            have c35b0 : ((rd l1 x36_3) == 0) = true := beq_iff_eq.mpr c35
            have c35b1 : ((rd l1 x36_3) != 0) = false := bne_eq_false_iff_eq.mpr c35
            clear c35
            have H' := Aside0.mk H
            clear H
            obtain ⟨p697, q697⟩ : 0 ≤ (x36_3 : Int) ∧ x36_3 < (y693.length : Int) := ⟨dA, dA⟩
            obtain ⟨ad697, e697, hx697_0, hx697_1, hx697_2, hx697_3⟩ := at_T50 (Kd.C_below HR696.out HB.out) x36_3 p697 q697
            obtain rfl : ad689 = ad697 := (by injection e697)
            obtain ⟨p697, q697⟩ := eT p697 q697
            go_wp2_with (first | ((with_reducible refine gate_dst (N := 8) rfl ?_); (try (refine gate_guard (by rfl) ?_; dsimp only)); refine bE (N := 8) (cs := #[.int .i64 0, .int .i64 0, .int .i64 0, .int .i64 0]) (t := 50) ?_; intro gb698 hg w36 hbox hb; have BK698 := Aside0.mk (hbox); have GW698 := gw w hg; have GE698 := gw w hg; replace HB := bs HB hb; have NB690_698 := nl BK690 hg; have NB698_690 := nr BK690 hg; replace BK690 := kb BK690 hb; clear hb hbox hg; have hnb37 := NB698_690.out; have hnc37 := NB690_698.out; obtain ⟨_, _, _, _, _, _, _, _⟩ := blkc4 BK698; obtain ⟨_, _, _, _, _, _, _, _⟩ := blkc4 BK690) | ((with_reducible refine gate_callee (f := 101) rfl ?_); refine gL (some 43) Try.func101 #[.agg #[.int .i64 ((rd_T50 l0 x21_2).f0), .int .i64 ((rd_T50 l0 x21_2).f1), .int .i64 ((rd_T50 l0 x21_2).f2), .int .i64 ((rd_T50 l0 x21_2).f3)], .agg #[.int .i64 ((rd_T50 y693 x36_3).f0), .int .i64 ((rd_T50 y693 x36_3).f1), .int .i64 ((rd_T50 y693 x36_3).f2), .int .i64 ((rd_T50 y693 x36_3).f3)]] ?_; (with_reducible refine (impl_Conflict.calls k3 ((rd_T50 l0 x21_2).f0) ((rd_T50 l0 x21_2).f1) ((rd_T50 l0 x21_2).f2) ((rd_T50 l0 x21_2).f3) ((rd_T50 y693 x36_3).f0) ((rd_T50 y693 x36_3).f1) ((rd_T50 y693 x36_3).f2) ((rd_T50 y693 x36_3).f3) true _ A24.out).mono ?_); rintro e w40 ⟨rfl, hb⟩; refine ⟨_, rfl, ?_⟩; replace BK690 := kc (kf BK690 NB690_698) hb; replace BK698 := kc (o := .cells #[.int .i64 ((rd_T50 y693 x36_3).f0), .int .i64 ((rd_T50 y693 x36_3).f1), .int .i64 ((rd_T50 y693 x36_3).f2), .int .i64 ((rd_T50 y693 x36_3).f3)] 50 (0, 0)) (kp BK698) hb; replace HB := bs HB hb; (try clear hb); have p700 : 0 ≤ (x21_2 : Int) := dA; have q700 : x21_2 < (l1.length : Int) := dA; obtain ⟨ad700, e700, hx700_0⟩ := Kd.at_int HR1.out x21_2 p700 q700; obtain rfl : ad691 = ad700 := (by injection e700); replace hx700_0 := hC HB hx700_0; replace p700 := eq_true p700; replace q700 := eq_true q700; have p701 : 0 ≤ (x36_3 : Int) := dA; have q701 : x36_3 < (l1.length : Int) := dA; obtain ⟨ad701, e701, hx701_0⟩ := Kd.at_int HR1.out x36_3 p701 q701; obtain rfl : ad691 = ad701 := (by injection e701); replace hx701_0 := hC HB hx701_0; replace p701 := eq_true p701; replace q701 := eq_true q701))
            go_roundg k3
            case measure => have := HJ2.out; have := HK2.out; have := HK3.out; omega
            case rel => exact ⟨(wrap64 (x36_3 + 1)), rS, H', ⟨by have := HJ2.out; have := HK2.out; have := HK3.out; omega⟩, ⟨bK BK690⟩, ⟨bG⟩⟩
           rw [if_neg c35] at H
           have c35b0 : ((rd l1 x36_3) == 0) = false := beq_eq_false_iff_ne.mpr c35
           have c35b1 : ((rd l1 x36_3) != 0) = true := bne_iff_ne.mpr c35
           obtain rfl := Option.some.inj H
           obtain ⟨p697, q697⟩ : 0 ≤ (x36_3 : Int) ∧ x36_3 < (y693.length : Int) := ⟨dA, dA⟩
           obtain ⟨ad697, e697, hx697_0, hx697_1, hx697_2, hx697_3⟩ := at_T50 (Kd.C_below HR696.out HB.out) x36_3 p697 q697
           obtain rfl : ad689 = ad697 := (by injection e697)
           obtain ⟨p697, q697⟩ := eT p697 q697
           go_wp2_with (first | ((with_reducible refine gate_dst (N := 8) rfl ?_); (try (refine gate_guard (by rfl) ?_; dsimp only)); refine bE (N := 8) (cs := #[.int .i64 0, .int .i64 0, .int .i64 0, .int .i64 0]) (t := 50) ?_; intro gb698 hg w41 hbox hb; have BK698 := Aside0.mk (hbox); have GW698 := gw w hg; have GE698 := gw w hg; replace HB := bs HB hb; have NB690_698 := nl BK690 hg; have NB698_690 := nr BK690 hg; replace BK690 := kb BK690 hb; clear hb hbox hg; have hnb42 := NB698_690.out; have hnc42 := NB690_698.out; obtain ⟨_, _, _, _, _, _, _, _⟩ := blkc4 BK698; obtain ⟨_, _, _, _, _, _, _, _⟩ := blkc4 BK690) | ((with_reducible refine gate_callee (f := 101) rfl ?_); refine gL (some 43) Try.func101 #[.agg #[.int .i64 ((rd_T50 l0 x21_2).f0), .int .i64 ((rd_T50 l0 x21_2).f1), .int .i64 ((rd_T50 l0 x21_2).f2), .int .i64 ((rd_T50 l0 x21_2).f3)], .agg #[.int .i64 ((rd_T50 y693 x36_3).f0), .int .i64 ((rd_T50 y693 x36_3).f1), .int .i64 ((rd_T50 y693 x36_3).f2), .int .i64 ((rd_T50 y693 x36_3).f3)]] ?_; (with_reducible refine (impl_Conflict.calls k3 ((rd_T50 l0 x21_2).f0) ((rd_T50 l0 x21_2).f1) ((rd_T50 l0 x21_2).f2) ((rd_T50 l0 x21_2).f3) ((rd_T50 y693 x36_3).f0) ((rd_T50 y693 x36_3).f1) ((rd_T50 y693 x36_3).f2) ((rd_T50 y693 x36_3).f3) true _ A24.out).mono ?_); rintro e w45 ⟨rfl, hb⟩; refine ⟨_, rfl, ?_⟩; replace BK690 := kc (kf BK690 NB690_698) hb; replace BK698 := kc (o := .cells #[.int .i64 ((rd_T50 y693 x36_3).f0), .int .i64 ((rd_T50 y693 x36_3).f1), .int .i64 ((rd_T50 y693 x36_3).f2), .int .i64 ((rd_T50 y693 x36_3).f3)] 50 (0, 0)) (kp BK698) hb; replace HB := bs HB hb; (try clear hb); have p700 : 0 ≤ (x21_2 : Int) := dA; have q700 : x21_2 < (l1.length : Int) := dA; obtain ⟨ad700, e700, hx700_0⟩ := Kd.at_int HR1.out x21_2 p700 q700; obtain rfl : ad691 = ad700 := (by injection e700); replace hx700_0 := hC HB hx700_0; replace p700 := eq_true p700; replace q700 := eq_true q700; have p701 : 0 ≤ (x36_3 : Int) := dA; have q701 : x36_3 < (l1.length : Int) := dA; obtain ⟨ad701, e701, hx701_0⟩ := Kd.at_int HR1.out x36_3 p701 q701; obtain rfl : ad691 = ad701 := (by injection e701); replace hx701_0 := hC HB hx701_0; replace p701 := eq_true p701; replace q701 := eq_true q701))
           go_ret
           exact ⟨rA, bG⟩
          replace c25 := Bool.eq_false_iff.mpr c25
          subst c25
          have H1 : (impl_IsSafeLights.l1 k3 l0 l1 x21_2 l0 (l0.length : Int) x21_2 y693 (y693.length : Int) (wrap64 (x36_3 + 1)) ((rd_T50 l0 x21_2).f0) ((rd_T50 l0 x21_2).f1) ((rd_T50 l0 x21_2).f2) ((rd_T50 l0 x21_2).f3)) = some r := by rw [if_neg (show ¬ (false = true) by decide)] at H; exact H
          clear H
          have H := H1
          clear H1
          have H' := Aside0.mk H
          clear H
          obtain ⟨p697, q697⟩ : 0 ≤ (x36_3 : Int) ∧ x36_3 < (y693.length : Int) := ⟨dA, dA⟩
          obtain ⟨ad697, e697, hx697_0, hx697_1, hx697_2, hx697_3⟩ := at_T50 (Kd.C_below HR696.out HB.out) x36_3 p697 q697
          obtain rfl : ad689 = ad697 := (by injection e697)
          obtain ⟨p697, q697⟩ := eT p697 q697
          go_wp2_with (first | ((with_reducible refine gate_dst (N := 8) rfl ?_); (try (refine gate_guard (by rfl) ?_; dsimp only)); refine bE (N := 8) (cs := #[.int .i64 0, .int .i64 0, .int .i64 0, .int .i64 0]) (t := 50) ?_; intro gb698 hg w46 hbox hb; have BK698 := Aside0.mk (hbox); have GW698 := gw w hg; have GE698 := gw w hg; replace HB := bs HB hb; have NB690_698 := nl BK690 hg; have NB698_690 := nr BK690 hg; replace BK690 := kb BK690 hb; clear hb hbox hg; have hnb47 := NB698_690.out; have hnc47 := NB690_698.out; obtain ⟨_, _, _, _, _, _, _, _⟩ := blkc4 BK698; obtain ⟨_, _, _, _, _, _, _, _⟩ := blkc4 BK690) | ((with_reducible refine gate_callee (f := 101) rfl ?_); refine gL (some 43) Try.func101 #[.agg #[.int .i64 ((rd_T50 l0 x21_2).f0), .int .i64 ((rd_T50 l0 x21_2).f1), .int .i64 ((rd_T50 l0 x21_2).f2), .int .i64 ((rd_T50 l0 x21_2).f3)], .agg #[.int .i64 ((rd_T50 y693 x36_3).f0), .int .i64 ((rd_T50 y693 x36_3).f1), .int .i64 ((rd_T50 y693 x36_3).f2), .int .i64 ((rd_T50 y693 x36_3).f3)]] ?_; (with_reducible refine (impl_Conflict.calls k3 ((rd_T50 l0 x21_2).f0) ((rd_T50 l0 x21_2).f1) ((rd_T50 l0 x21_2).f2) ((rd_T50 l0 x21_2).f3) ((rd_T50 y693 x36_3).f0) ((rd_T50 y693 x36_3).f1) ((rd_T50 y693 x36_3).f2) ((rd_T50 y693 x36_3).f3) false _ A24.out).mono ?_); rintro e w50 ⟨rfl, hb⟩; refine ⟨_, rfl, ?_⟩; replace BK690 := kc (kf BK690 NB690_698) hb; replace BK698 := kc (o := .cells #[.int .i64 ((rd_T50 y693 x36_3).f0), .int .i64 ((rd_T50 y693 x36_3).f1), .int .i64 ((rd_T50 y693 x36_3).f2), .int .i64 ((rd_T50 y693 x36_3).f3)] 50 (0, 0)) (kp BK698) hb; replace HB := bs HB hb; (try clear hb)))
          go_roundg k3
          case measure => have := HJ2.out; have := HK2.out; have := HK3.out; omega
          case rel => exact ⟨(wrap64 (x36_3 + 1)), rS, H', ⟨by have := HJ2.out; have := HK2.out; have := HK3.out; omega⟩, ⟨bK BK690⟩, ⟨bG⟩⟩
         rw [if_neg c21] at H
         have c21b0 := decide_eq_false c21
         clear c21
         have H' := Aside0.mk H
         clear H
         go_wp2
         go_roundg k3
         case measure => have := HJ2.out; have := HK2.out; have := HK3.out; omega
         case rel => exact ⟨(wrap64 (x21_2 + 1)), rS, H', ⟨by have := HJ2.out; have := HK2.out; have := HK3.out; omega⟩, ⟨bG⟩⟩
      replace c14 := Bool.eq_false_iff.mpr c14
      subst c14
      have H1 : (some false) = some r := by rw [if_neg (show ¬ (false = true) by decide)] at H; exact H
      clear H
      have H := H1
      clear H1
      obtain rfl := Option.some.inj H
      obtain ⟨p689, q689⟩ : 0 ≤ (x21_2 : Int) ∧ x21_2 < (l0.length : Int) := ⟨dA, dA⟩
      obtain ⟨ad689, e689, hx689_0, hx689_1, hx689_2, hx689_3⟩ := at_T50 (Kd.C_below HR0.out HB.out) x21_2 p689 q689
      cases e689
      obtain ⟨p689, q689⟩ := eT p689 q689
      go_wp2_with (first | ((with_reducible refine gate_dst (N := 6) rfl ?_); (try (refine gate_guard (by rfl) ?_; dsimp only)); refine bE (N := 6) (cs := #[.int .i64 0, .int .i64 0, .int .i64 0, .int .i64 0]) (t := 50) ?_; intro gb690 hg w51 hbox hb; have BK690 := Aside0.mk (hbox); have GW690 := gw w hg; have GE690 := gw w hg; replace HB := bs HB hb; clear hb hbox hg; obtain ⟨_, _, _, _, _, _, _, _⟩ := blkc4 BK690; have p691 : 0 ≤ (x21_2 : Int) := dA; have q691 : x21_2 < (l1.length : Int) := dA; obtain ⟨ad691, e691, hx691_0⟩ := Kd.at_int HR1.out x21_2 p691 q691; cases e691; have hn691_0 : ad691.block ≠ gb690 := Nat.ne_of_lt (Nat.lt_of_lt_of_le (by have := World.block_lt_of_cell? _ _ hx691_0; first | rwa [add_block] at this | exact this) GW690.out); have hn691_1 : ad691.block ≠ gb690 := Nat.ne_of_lt (Nat.lt_of_lt_of_le (by have := World.block_lt_of_cell? _ _ hx691_0; first | rwa [add_block] at this | exact this) GW690.out); have hn691_2 : ad691.block ≠ gb690 := Nat.ne_of_lt (Nat.lt_of_lt_of_le (by have := World.block_lt_of_cell? _ _ hx691_0; first | rwa [add_block] at this | exact this) GW690.out); have hn691_3 : ad691.block ≠ gb690 := Nat.ne_of_lt (Nat.lt_of_lt_of_le (by have := World.block_lt_of_cell? _ _ hx691_0; first | rwa [add_block] at this | exact this) GW690.out); replace hx691_0 := hC HB hx691_0; replace hx691_0 := (cell_far (p := ⟨gb690, 0, none⟩) (by first | (rw [add_block]; exact hn691_0) | (show (Addr.add _ _).block ≠ _; rw [add_block]; exact hn691_0) | exact hn691_0) (.int .i64 ((rd_T50 l0 x21_2).f0))).trans hx691_0; replace hx691_0 := (cell_far (p := ⟨gb690, 1, none⟩) (by first | (rw [add_block]; exact hn691_1) | (show (Addr.add _ _).block ≠ _; rw [add_block]; exact hn691_1) | exact hn691_1) (.int .i64 ((rd_T50 l0 x21_2).f1))).trans hx691_0; replace hx691_0 := (cell_far (p := ⟨gb690, 2, none⟩) (by first | (rw [add_block]; exact hn691_2) | (show (Addr.add _ _).block ≠ _; rw [add_block]; exact hn691_2) | exact hn691_2) (.int .i64 ((rd_T50 l0 x21_2).f2))).trans hx691_0; replace hx691_0 := (cell_far (p := ⟨gb690, 3, none⟩) (by first | (rw [add_block]; exact hn691_3) | (show (Addr.add _ _).block ≠ _; rw [add_block]; exact hn691_3) | exact hn691_3) (.int .i64 ((rd_T50 l0 x21_2).f3))).trans hx691_0; clear hn691_0; clear hn691_1; clear hn691_2; clear hn691_3; replace p691 := eq_true p691; replace q691 := eq_true q691) | ((with_reducible refine gate_callee (f := 75) rfl ?_); refine gL (some 30) Try.func75 #[.int .i64 (rd l1 x21_2), .int .i64 0, .int .i64 2] ?_; (with_reducible refine (impl_InRange.calls (rd l1 x21_2) 0 2 false _ A13.out).mono ?_); rintro e w' ⟨rfl, ⟨nd, rfl⟩⟩; refine ⟨_, rfl, ?_⟩))
      go_ret
      exact ⟨rA, bG⟩
     rw [if_neg c9] at H
     have c9b0 := decide_eq_false c9
     clear c9
     obtain rfl := Option.some.inj H
     go_wp2
     go_ret
     exact ⟨rA, bA⟩

/-! ### impl_LightsOf: function 50 -/
def impl_LightsOf.l0 : Nat → List Int → List (S50) → Int → Int → List Int → Int → List Int → Int → Option (List Int)
 | 0, _, _, _, _, _, _, _, _ => none
 | k + 1, x5, x15, x16, x17, x703000, x703001, x703002, x703003 => if x17 < x16 then (if 0 ≤ x17 then (if x17 < (x15.length : Int) then ((slices_Contains_int_int.f k x703000 ((rd_T50 x15 x17).f0)).bind fun t709 => (if t709 = true then (if (x703002.length : Int) > 0 then ((slices_Contains_int_int.f k x703002 ((rd_T50 x15 x17).f0)).bind fun t710 => (if t710 = true then (if x5.length < 17592186044416 then (impl_LightsOf.l0 k (x5 ++ [1]) x15 x16 (wrap64 (x17 + 1)) x703000 x703001 x703002 x703003) else (none)) else (if x5.length < 17592186044416 then (impl_LightsOf.l0 k (x5 ++ [2]) x15 x16 (wrap64 (x17 + 1)) x703000 x703001 x703002 x703003) else (none)))) else (if x5.length < 17592186044416 then (impl_LightsOf.l0 k (x5 ++ [1]) x15 x16 (wrap64 (x17 + 1)) x703000 x703001 x703002 x703003) else (none))) else (if x5.length < 17592186044416 then (impl_LightsOf.l0 k (x5 ++ [0]) x15 x16 (wrap64 (x17 + 1)) x703000 x703001 x703002 x703003) else (none)))) else (none)) else (none)) else (some x5)
def impl_LightsOf.f (k : Nat) (l0 : List (S50)) (l1_0 : List Int) (a1_1 : Int) (l1_2 : List Int) (a1_3 : Int) : Option (List Int) := (some (([] : List Int) : List Int)).bind fun y703 => ((impl_IsControl.f k l0 l1_0 a1_1 l1_2 a1_3).bind fun t706 => (if t706 = true then (impl_LightsOf.l0 k y703 l0 (l0.length : Int) 0 l1_0 a1_1 l1_2 a1_3) else (some y703)))
theorem impl_LightsOf.mono_l : ∀ k, (∀ y0 y1 y2 y3 y4 y5 y6 y7, LeO (impl_LightsOf.l0 k y0 y1 y2 y3 y4 y5 y6 y7) (impl_LightsOf.l0 (k + 1) y0 y1 y2 y3 y4 y5 y6 y7))
 | 0 => fun _ _ _ _ _ _ _ _ r h => by simp [impl_LightsOf.l0] at h
 | k + 1 => by
  have ih0 := impl_LightsOf.mono_l k
  ·
   intro y0 y1 y2 y3 y4 y5 y6 y7
   unfold impl_LightsOf.l0
   exact mz3 ih0 impl_IsControl.mono slices_Contains_int_int.mono
theorem impl_LightsOf.mono : ∀ a0 a1 a2 a3 a4 k, LeO (impl_LightsOf.f k a0 a1 a2 a3 a4) (impl_LightsOf.f (k + 1) a0 a1 a2 a3 a4) := by
 intro a0 a1 a2 a3 a4 k
 have ih0 := impl_LightsOf.mono_l k
 unfold impl_LightsOf.f
 exact mz3 ih0 impl_IsControl.mono slices_Contains_int_int.mono
set_option maxHeartbeats 8000000 in
set_option maxRecDepth 100000 in
theorem impl_LightsOf.calls (k : Nat) (A0 : Option Addr) (c0 : Nat) (l0 : List (S50)) (A1_0 : Option Addr) (c1_0 : Nat) (l1_0 : List Int) (a1_1 : Int) (A1_2 : Option Addr) (c1_2 : Nat) (l1_2 : List Int) (a1_3 : Int) (r : List Int) (w : World) (hr0 : Kd.C k50 w A0 l0.length l0) (hc0 : l0.length ≤ c0) (hr1_0 : Kd.C (Kd.int .i64) w A1_0 l1_0.length l1_0) (hc1_0 : l1_0.length ≤ c1_0) (hr1_2 : Kd.C (Kd.int .i64) w A1_2 l1_2.length l1_2) (hc1_2 : l1_2.length ≤ c1_2) (h : impl_LightsOf.f k l0 l1_0 a1_1 l1_2 a1_3 = some r) :
  Calls Try.prog 50 #[.slice A0 l0.length c0, .agg #[.slice A1_0 l1_0.length c1_0, .int .i64 a1_1, .slice A1_2 l1_2.length c1_2, .int .i64 a1_3]] w fun e w' => ∃ v0_ : Value, e = .returned (v0_) ∧ Kd.R (Kd.int .i64) 3 w' w.heap.size (fun _ => True) v0_ r ∧ Below w.heap.size w w' := by
 have hu66 := Try.underlying66
 have hu50 := Try.underlying50
 have HR0 := Aside0.mk hr0
 have HC0 := Aside0.mk hc0
 clear hr0 hc0
 have HR1_0 := Aside0.mk hr1_0
 have HC1_0 := Aside0.mk hc1_0
 clear hr1_0 hc1_0
 have HR1_2 := Aside0.mk hr1_2
 have HC1_2 := Aside0.mk hc1_2
 clear hr1_2 hc1_2
 have HB := Aside0.mk (Below.refl w.heap.size w)
 have H : ((some (([] : List Int) : List Int)).bind fun y703 => ((impl_IsControl.f k l0 l1_0 a1_1 l1_2 a1_3).bind fun t706 => (if t706 = true then (impl_LightsOf.l0 k y703 l0 (l0.length : Int) 0 l1_0 a1_1 l1_2 a1_3) else (some y703)))) = some r := h
 clear h
 obtain ⟨y703, hy703⟩ : ∃ y_ : List Int, y_ = (([] : List Int)) := ⟨_, rfl⟩
 replace H : ((impl_IsControl.f k l0 l1_0 a1_1 l1_2 a1_3).bind fun t706 => (if t706 = true then (impl_LightsOf.l0 k y703 l0 (l0.length : Int) 0 l1_0 a1_1 l1_2 a1_3) else (some y703))) = some r := rH H hy703
 have Ny703 := Aside0.mk hy703
 clear hy703
 obtain ⟨t706, A3, H⟩ := bindE H
 try dsimp only at H
 by_cases c4 : t706 = true
 ·
  subst c4
  have H1 : (impl_LightsOf.l0 k y703 l0 (l0.length : Int) 0 l1_0 a1_1 l1_2 a1_3) = some r := by rw [if_pos rfl] at H; exact H
  clear H
  have H := H1
  clear H1
  have H' := Aside0.mk H
  clear H
  go_enter Try.func50, Try.ntmps50
  go_wp2_with (first | ((with_reducible refine gate_dst (N := 3) rfl ?_); refine bE (N := 3) (cs := #[.slice A1_0 l1_0.length c1_0, .int .i64 a1_1, .slice A1_2 l1_2.length c1_2, .int .i64 a1_3]) (t := 66) ?_; intro gb702 hg w5 hbox hb; have BK702 := Aside0.mk (hbox); have GW702 := gw w hg; have GE702 := gw w hg; replace HB := bs HB hb; clear hb hbox hg) | ((with_reducible refine gate_dst (N := 9) rfl ?_); refine Kd.R_lit (Kd.int .i64) _ 3 ?hg (N := 9) ?hd (xs := ([] : List Int)) (inner := []) (ok := fun _ => True) (okp := fun _ => True) ?hr ?hp (fun _ hk => hk) trivial (Below.refl _ _) (Nat.le_refl _) (by simp) ?_; (case hd => rfl); (case hg => rfl); (case hr => first | (go_simp; done) | (go_simp; rfl)); (case hp => exact (Reps.none _ _)); intro v704 w6 ho7 hb hg_ hnew_; clear hg_ hnew_; (first | rw [← Ny703.out] at ho7 | (simp only [Int.reduceToNat] at ho7; rw [← Ny703.out] at ho7)); have HO705 := rl w ho7; replace BK702 := kb BK702 hb; replace HB := bs HB hb; clear hb ho7; obtain ⟨_, _, _, _, _, _, _, _⟩ := blkc4 BK702) | ((with_reducible refine gate_callee (f := 44) rfl ?_); refine gL (some 12) Try.func44 #[.slice A0 l0.length c0, .agg #[.slice A1_0 l1_0.length c1_0, .int .i64 a1_1, .slice A1_2 l1_2.length c1_2, .int .i64 a1_3]] ?_; (with_reducible refine (impl_IsControl.calls k _ _ l0 _ _ l1_0 a1_1 _ _ l1_2 a1_3 true _ ?_ ?_ ?_ ?_ ?_ ?_ A3.out).mono ?_); exact cB HR0; exact HC0.out; exact cB HR1_0; exact HC1_0.out; exact cB HR1_2; exact HC1_2.out; rintro e w9 ⟨rfl, hb⟩; refine ⟨_, rfl, ?_⟩; replace HO705 := rb HO705 hb; replace BK702 := kb BK702 hb; replace HB := bs HB hb; (try clear hb)))
  go_loopg [5, 17] k (fun kq v5 v17 w' => ∃ (x5_1 : List Int) (x17_1 : Int), v17 = .int .i64 x17_1 ∧ Aside0 (impl_LightsOf.l0 kq x5_1 l0 (l0.length : Int) x17_1 l1_0 a1_1 l1_2 a1_3 = some r) ∧ Aside0 (kq ≤ k) ∧ Aside0 (Kd.R (Kd.int .i64) 3 w' w.heap.size (fun _ => True) v5 x5_1) ∧ Aside0 (w'.heap[gb702]? = some (.cells #[(.slice A1_0 l1_0.length c1_0), .int .i64 a1_1, (.slice A1_2 l1_2.length c1_2), .int .i64 a1_3] 66 (0, 0))) ∧ Aside0 (Below w.heap.size w w'))
  case atStart => exact ⟨(y703), (0), rS, H', ⟨Nat.le_refl _⟩, ⟨rK HO705⟩, ⟨bK BK702⟩, ⟨bG⟩⟩
  case round =>
   clear H'
   obtain ⟨x5_1, x17_1, rfl, HA, HK1, HO_5, BK702, HB⟩ := hrel
   cases gk with
   | zero => exact absurd HA.out (by simp [impl_LightsOf.l0])
   | succ k1 =>
    have H := HA.out
    clear HA
    simp only [impl_LightsOf.l0] at H
    by_cases c10 : x17_1 < (l0.length : Int)
    ·
     rw [if_pos c10] at H
     have c10b0 := decide_eq_true c10
     clear c10
     have c11 : 0 ≤ x17_1 := ifN H
     replace H := ifT H
     have c11b0 := decide_eq_true c11
     clear c11
     have c12 : x17_1 < (l0.length : Int) := ifN H
     replace H := ifT H
     have c12b0 := decide_eq_true c12
     clear c12
     obtain ⟨t709, A13, H⟩ := bindE H
     try dsimp only at H
     by_cases c14 : t709 = true
     ·
      subst c14
      have H1 : (if (l1_2.length : Int) > 0 then ((slices_Contains_int_int.f k1 l1_2 ((rd_T50 l0 x17_1).f0)).bind fun t710 => (if t710 = true then (if x5_1.length < 17592186044416 then (impl_LightsOf.l0 k1 (x5_1 ++ [1]) l0 (l0.length : Int) (wrap64 (x17_1 + 1)) l1_0 a1_1 l1_2 a1_3) else (none)) else (if x5_1.length < 17592186044416 then (impl_LightsOf.l0 k1 (x5_1 ++ [2]) l0 (l0.length : Int) (wrap64 (x17_1 + 1)) l1_0 a1_1 l1_2 a1_3) else (none)))) else (if x5_1.length < 17592186044416 then (impl_LightsOf.l0 k1 (x5_1 ++ [1]) l0 (l0.length : Int) (wrap64 (x17_1 + 1)) l1_0 a1_1 l1_2 a1_3) else (none))) = some r := by rw [if_pos rfl] at H; exact H
      clear H
      have H := H1
      clear H1
      by_cases c15 : (l1_2.length : Int) > 0
      ·
       rw [if_pos c15] at H
       have c15b0 := decide_eq_true c15
       have c15b1 : decide (0 < l1_2.length) = true := decide_eq_true (by omega)
       clear c15
       obtain ⟨t710, A16, H⟩ := bindE H
       try dsimp only at H
       by_cases c17 : t710 = true
       ·
        subst c17
        have H1 : (if x5_1.length < 17592186044416 then (impl_LightsOf.l0 k1 (x5_1 ++ [1]) l0 (l0.length : Int) (wrap64 (x17_1 + 1)) l1_0 a1_1 l1_2 a1_3) else (none)) = some r := by rw [if_pos rfl] at H; exact H
        clear H
        have H := H1
        clear H1
        have c18 : x5_1.length < 17592186044416 := ifN H
        replace H := ifT H
        have LMc18 := Aside0.mk c18
        clear c18
        obtain ⟨y711, hy711⟩ : ∃ y_ : List Int, y_ = (x5_1 ++ [1]) := ⟨_, rfl⟩
        replace H : (impl_LightsOf.l0 k1 y711 l0 (l0.length : Int) (wrap64 (x17_1 + 1)) l1_0 a1_1 l1_2 a1_3) = some r := rH H hy711
        have Ny711 := Aside0.mk hy711
        clear hy711
        have H' := Aside0.mk H
        clear H
        obtain ⟨p707, q707⟩ : 0 ≤ (x17_1 : Int) ∧ x17_1 < (l0.length : Int) := ⟨dA, dA⟩
        obtain ⟨ad707, e707, hx707_0, hx707_1, hx707_2, hx707_3⟩ := at_T50 (Kd.C_below HR0.out HB.out) x17_1 p707 q707
        cases e707
        obtain ⟨p707, q707⟩ := eT p707 q707
        go_wp2_with (first | ((with_reducible refine gate_dst (N := 7) rfl ?_); refine bE (N := 7) (cs := #[.int .i64 0, .int .i64 0, .int .i64 0, .int .i64 0]) (t := 50) ?_; intro gb708 hg w19 hbox hb; replace HO_5 := rb HO_5 hb; have BK708 := Aside0.mk (hbox); have GW708 := gw w hg; have GE708 := gw w hg; replace HB := bs HB hb; have NB702_708 := nl BK702 hg; have NB708_702 := nr BK702 hg; replace BK702 := kb BK702 hb; clear hb hbox hg; have hnb20 := NB708_702.out; have hnc20 := NB702_708.out; obtain ⟨_, _, _, _, _, _, _, _⟩ := blkc4 BK708; obtain ⟨_, _, _, _, _, _, _, _⟩ := blkc4 BK702) | ((with_reducible refine gate_callee (f := 102) rfl ?_); refine gL (some 25) Try.func102 #[.slice A1_0 l1_0.length c1_0, .int .i64 ((rd_T50 l0 x17_1).f0)] ?_; (with_reducible refine (slices_Contains_int_int.calls k1 _ _ l1_0 ((rd_T50 l0 x17_1).f0) true _ ?_ ?_ A13.out).mono ?_); exact Kd.C_below HR1_0.out bG; exact HC1_0.out; rintro e w' ⟨rfl, ⟨nd, rfl⟩⟩; refine ⟨_, rfl, ?_⟩) | (go_at_call 102; (with_reducible refine (slices_Contains_int_int.calls k1 _ _ l1_2 ((rd_T50 l0 x17_1).f0) true _ ?_ ?_ A16.out).mono ?_); exact Kd.C_below HR1_2.out bG; exact HC1_2.out; rintro e w' ⟨rfl, ⟨nd, rfl⟩⟩) | ((with_reducible refine gate_builtin (b := .append) (xs := #[.tmp 38, .tmp 40]) rfl ?_); at_builtin; refine Kd.R_append (Kd.int .i64) (w0 := w) w.heap.size rfl (.tmp 38) (.tmp 40) 35 3 (.int .i64 0) 8 rfl Try.underlying35 info3 rfl (by decide) (by omega) u5 x5_1 1 [.int .i64 1] (fun _ => True) (fun _ => False) rfl (by first | (go_simp; done) | (go_simp; rfl)) ?aP (fun _ hk => hk.elim) ?aF ?aO ?aB ?aS ?aL ?_; (case aP => exact rfl); (case aB => exact bG); (case aF => exact (fun _ _ => trivial)); (case aO => exact (Kd.R_mono (rf HO_5 BK708) (fun _ hk => trivial))); (case aS => exact (below_size bG)); (case aL => have := LMc18.out; omega); intro v712 w23 ho hb hg hat; rw [← Ny711.out] at ho; have n0_ := Aside0.mk (blk_grown (g := gb702) (o := .cells #[.slice A1_0 l1_0.length c1_0, .int .i64 a1_1, .slice A1_2 l1_2.length c1_2, .int .i64 a1_3] 66 (0, 0)) (kf BK702 NB702_708) hg (Kd.R_ne HO_5.out BK702.out (by decide))); have n1_ := Aside0.mk (blk_grown (g := gb708) (o := .cells #[.int .i64 ((rd_T50 l0 x17_1).f0), .int .i64 ((rd_T50 l0 x17_1).f1), .int .i64 ((rd_T50 l0 x17_1).f2), .int .i64 ((rd_T50 l0 x17_1).f3)] 50 (0, 0)) (kp BK708) hg (Kd.R_ne HO_5.out BK708.out (by decide))); have n2_ := Aside0.mk (hb); have n3_ := Aside0.mk (ho); clear BK702; clear BK708; clear HB; clear HO_5; have BK702 := n0_; have BK708 := n1_; have HB := n2_; have HO713 := n3_; clear n0_ n1_ n2_ n3_; clear ho hb hg hat))
        go_roundg k1
        case measure => have := HK1.out; omega
        case rel => exact ⟨(y711), (wrap64 (x17_1 + 1)), rS, H', ⟨by have := HK1.out; omega⟩, ⟨rK HO713⟩, ⟨bK BK702⟩, ⟨bG⟩⟩
       replace c17 := Bool.eq_false_iff.mpr c17
       subst c17
       have H1 : (if x5_1.length < 17592186044416 then (impl_LightsOf.l0 k1 (x5_1 ++ [2]) l0 (l0.length : Int) (wrap64 (x17_1 + 1)) l1_0 a1_1 l1_2 a1_3) else (none)) = some r := by rw [if_neg (show ¬ (false = true) by decide)] at H; exact H
       clear H
       have H := H1
       clear H1
       have c24 : x5_1.length < 17592186044416 := ifN H
       replace H := ifT H
       have LMc24 := Aside0.mk c24
       clear c24
       obtain ⟨y714, hy714⟩ : ∃ y_ : List Int, y_ = (x5_1 ++ [2]) := ⟨_, rfl⟩
       replace H : (impl_LightsOf.l0 k1 y714 l0 (l0.length : Int) (wrap64 (x17_1 + 1)) l1_0 a1_1 l1_2 a1_3) = some r := rH H hy714
       have Ny714 := Aside0.mk hy714
       clear hy714
       have H' := Aside0.mk H
       clear H
       obtain ⟨p707, q707⟩ : 0 ≤ (x17_1 : Int) ∧ x17_1 < (l0.length : Int) := ⟨dA, dA⟩
       obtain ⟨ad707, e707, hx707_0, hx707_1, hx707_2, hx707_3⟩ := at_T50 (Kd.C_below HR0.out HB.out) x17_1 p707 q707
       cases e707
       obtain ⟨p707, q707⟩ := eT p707 q707
       go_wp2_with (first | ((with_reducible refine gate_dst (N := 7) rfl ?_); refine bE (N := 7) (cs := #[.int .i64 0, .int .i64 0, .int .i64 0, .int .i64 0]) (t := 50) ?_; intro gb708 hg w25 hbox hb; replace HO_5 := rb HO_5 hb; have BK708 := Aside0.mk (hbox); have GW708 := gw w hg; have GE708 := gw w hg; replace HB := bs HB hb; have NB702_708 := nl BK702 hg; have NB708_702 := nr BK702 hg; replace BK702 := kb BK702 hb; clear hb hbox hg; have hnb26 := NB708_702.out; have hnc26 := NB702_708.out; obtain ⟨_, _, _, _, _, _, _, _⟩ := blkc4 BK708; obtain ⟨_, _, _, _, _, _, _, _⟩ := blkc4 BK702) | ((with_reducible refine gate_callee (f := 102) rfl ?_); refine gL (some 25) Try.func102 #[.slice A1_0 l1_0.length c1_0, .int .i64 ((rd_T50 l0 x17_1).f0)] ?_; (with_reducible refine (slices_Contains_int_int.calls k1 _ _ l1_0 ((rd_T50 l0 x17_1).f0) true _ ?_ ?_ A13.out).mono ?_); exact Kd.C_below HR1_0.out bG; exact HC1_0.out; rintro e w' ⟨rfl, ⟨nd, rfl⟩⟩; refine ⟨_, rfl, ?_⟩) | (go_at_call 102; (with_reducible refine (slices_Contains_int_int.calls k1 _ _ l1_2 ((rd_T50 l0 x17_1).f0) false _ ?_ ?_ A16.out).mono ?_); exact Kd.C_below HR1_2.out bG; exact HC1_2.out; rintro e w' ⟨rfl, ⟨nd, rfl⟩⟩) | ((with_reducible refine gate_builtin (b := .append) (xs := #[.tmp 38, .tmp 40]) rfl ?_); at_builtin; refine Kd.R_append (Kd.int .i64) (w0 := w) w.heap.size rfl (.tmp 38) (.tmp 40) 35 3 (.int .i64 0) 8 rfl Try.underlying35 info3 rfl (by decide) (by omega) u5 x5_1 2 [.int .i64 2] (fun _ => True) (fun _ => False) rfl (by first | (go_simp; done) | (go_simp; rfl)) ?aP (fun _ hk => hk.elim) ?aF ?aO ?aB ?aS ?aL ?_; (case aP => exact rfl); (case aB => exact bG); (case aF => exact (fun _ _ => trivial)); (case aO => exact (Kd.R_mono (rf HO_5 BK708) (fun _ hk => trivial))); (case aS => exact (below_size bG)); (case aL => have := LMc24.out; omega); intro v715 w29 ho hb hg hat; rw [← Ny714.out] at ho; have n0_ := Aside0.mk (blk_grown (g := gb702) (o := .cells #[.slice A1_0 l1_0.length c1_0, .int .i64 a1_1, .slice A1_2 l1_2.length c1_2, .int .i64 a1_3] 66 (0, 0)) (kf BK702 NB702_708) hg (Kd.R_ne HO_5.out BK702.out (by decide))); have n1_ := Aside0.mk (blk_grown (g := gb708) (o := .cells #[.int .i64 ((rd_T50 l0 x17_1).f0), .int .i64 ((rd_T50 l0 x17_1).f1), .int .i64 ((rd_T50 l0 x17_1).f2), .int .i64 ((rd_T50 l0 x17_1).f3)] 50 (0, 0)) (kp BK708) hg (Kd.R_ne HO_5.out BK708.out (by decide))); have n2_ := Aside0.mk (hb); have n3_ := Aside0.mk (ho); clear BK702; clear BK708; clear HB; clear HO_5; have BK702 := n0_; have BK708 := n1_; have HB := n2_; have HO716 := n3_; clear n0_ n1_ n2_ n3_; clear ho hb hg hat))
       go_roundg k1
       case measure => have := HK1.out; omega
       case rel => exact ⟨(y714), (wrap64 (x17_1 + 1)), rS, H', ⟨by have := HK1.out; omega⟩, ⟨rK HO716⟩, ⟨bK BK702⟩, ⟨bG⟩⟩
      rw [if_neg c15] at H
      have c15b0 := decide_eq_false c15
      have c15b1 : decide (0 < l1_2.length) = false := decide_eq_false (by omega)
      clear c15
      have c30 : x5_1.length < 17592186044416 := ifN H
      replace H := ifT H
      have LMc30 := Aside0.mk c30
      clear c30
      obtain ⟨y717, hy717⟩ : ∃ y_ : List Int, y_ = (x5_1 ++ [1]) := ⟨_, rfl⟩
      replace H : (impl_LightsOf.l0 k1 y717 l0 (l0.length : Int) (wrap64 (x17_1 + 1)) l1_0 a1_1 l1_2 a1_3) = some r := rH H hy717
      have Ny717 := Aside0.mk hy717
      clear hy717
      have H' := Aside0.mk H
      clear H
      obtain ⟨p707, q707⟩ : 0 ≤ (x17_1 : Int) ∧ x17_1 < (l0.length : Int) := ⟨dA, dA⟩
      obtain ⟨ad707, e707, hx707_0, hx707_1, hx707_2, hx707_3⟩ := at_T50 (Kd.C_below HR0.out HB.out) x17_1 p707 q707
      cases e707
      obtain ⟨p707, q707⟩ := eT p707 q707
      go_wp2_with (first | ((with_reducible refine gate_dst (N := 7) rfl ?_); refine bE (N := 7) (cs := #[.int .i64 0, .int .i64 0, .int .i64 0, .int .i64 0]) (t := 50) ?_; intro gb708 hg w31 hbox hb; replace HO_5 := rb HO_5 hb; have BK708 := Aside0.mk (hbox); have GW708 := gw w hg; have GE708 := gw w hg; replace HB := bs HB hb; have NB702_708 := nl BK702 hg; have NB708_702 := nr BK702 hg; replace BK702 := kb BK702 hb; clear hb hbox hg; have hnb32 := NB708_702.out; have hnc32 := NB702_708.out; obtain ⟨_, _, _, _, _, _, _, _⟩ := blkc4 BK708; obtain ⟨_, _, _, _, _, _, _, _⟩ := blkc4 BK702) | ((with_reducible refine gate_callee (f := 102) rfl ?_); refine gL (some 25) Try.func102 #[.slice A1_0 l1_0.length c1_0, .int .i64 ((rd_T50 l0 x17_1).f0)] ?_; (with_reducible refine (slices_Contains_int_int.calls k1 _ _ l1_0 ((rd_T50 l0 x17_1).f0) true _ ?_ ?_ A13.out).mono ?_); exact Kd.C_below HR1_0.out bG; exact HC1_0.out; rintro e w' ⟨rfl, ⟨nd, rfl⟩⟩; refine ⟨_, rfl, ?_⟩) | ((with_reducible refine gate_builtin (b := .append) (xs := #[.tmp 38, .tmp 40]) rfl ?_); at_builtin; refine Kd.R_append (Kd.int .i64) (w0 := w) w.heap.size rfl (.tmp 38) (.tmp 40) 35 3 (.int .i64 0) 8 rfl Try.underlying35 info3 rfl (by decide) (by omega) u5 x5_1 1 [.int .i64 1] (fun _ => True) (fun _ => False) rfl (by first | (go_simp; done) | (go_simp; rfl)) ?aP (fun _ hk => hk.elim) ?aF ?aO ?aB ?aS ?aL ?_; (case aP => exact rfl); (case aB => exact bG); (case aF => exact (fun _ _ => trivial)); (case aO => exact (Kd.R_mono (rf HO_5 BK708) (fun _ hk => trivial))); (case aS => exact (below_size bG)); (case aL => have := LMc30.out; omega); intro v718 w35 ho hb hg hat; rw [← Ny717.out] at ho; have n0_ := Aside0.mk (blk_grown (g := gb702) (o := .cells #[.slice A1_0 l1_0.length c1_0, .int .i64 a1_1, .slice A1_2 l1_2.length c1_2, .int .i64 a1_3] 66 (0, 0)) (kf BK702 NB702_708) hg (Kd.R_ne HO_5.out BK702.out (by decide))); have n1_ := Aside0.mk (blk_grown (g := gb708) (o := .cells #[.int .i64 ((rd_T50 l0 x17_1).f0), .int .i64 ((rd_T50 l0 x17_1).f1), .int .i64 ((rd_T50 l0 x17_1).f2), .int .i64 ((rd_T50 l0 x17_1).f3)] 50 (0, 0)) (kp BK708) hg (Kd.R_ne HO_5.out BK708.out (by decide))); have n2_ := Aside0.mk (hb); have n3_ := Aside0.mk (ho); clear BK702; clear BK708; clear HB; clear HO_5; have BK702 := n0_; have BK708 := n1_; have HB := n2_; have HO719 := n3_; clear n0_ n1_ n2_ n3_; clear ho hb hg hat))
      go_roundg k1
      case measure => have := HK1.out; omega
      case rel => exact ⟨(y717), (wrap64 (x17_1 + 1)), rS, H', ⟨by have := HK1.out; omega⟩, ⟨rK HO719⟩, ⟨bK BK702⟩, ⟨bG⟩⟩
     replace c14 := Bool.eq_false_iff.mpr c14
     subst c14
     have H1 : (if x5_1.length < 17592186044416 then (impl_LightsOf.l0 k1 (x5_1 ++ [0]) l0 (l0.length : Int) (wrap64 (x17_1 + 1)) l1_0 a1_1 l1_2 a1_3) else (none)) = some r := by rw [if_neg (show ¬ (false = true) by decide)] at H; exact H
     clear H
     have H := H1
     clear H1
     have c36 : x5_1.length < 17592186044416 := ifN H
     replace H := ifT H
     have LMc36 := Aside0.mk c36
     clear c36
     obtain ⟨y720, hy720⟩ : ∃ y_ : List Int, y_ = (x5_1 ++ [0]) := ⟨_, rfl⟩
     replace H : (impl_LightsOf.l0 k1 y720 l0 (l0.length : Int) (wrap64 (x17_1 + 1)) l1_0 a1_1 l1_2 a1_3) = some r := rH H hy720
     have Ny720 := Aside0.mk hy720
     clear hy720
     have H' := Aside0.mk H
     clear H
     obtain ⟨p707, q707⟩ : 0 ≤ (x17_1 : Int) ∧ x17_1 < (l0.length : Int) := ⟨dA, dA⟩
     obtain ⟨ad707, e707, hx707_0, hx707_1, hx707_2, hx707_3⟩ := at_T50 (Kd.C_below HR0.out HB.out) x17_1 p707 q707
     cases e707
     obtain ⟨p707, q707⟩ := eT p707 q707
     go_wp2_with (first | ((with_reducible refine gate_dst (N := 7) rfl ?_); refine bE (N := 7) (cs := #[.int .i64 0, .int .i64 0, .int .i64 0, .int .i64 0]) (t := 50) ?_; intro gb708 hg w37 hbox hb; replace HO_5 := rb HO_5 hb; have BK708 := Aside0.mk (hbox); have GW708 := gw w hg; have GE708 := gw w hg; replace HB := bs HB hb; have NB702_708 := nl BK702 hg; have NB708_702 := nr BK702 hg; replace BK702 := kb BK702 hb; clear hb hbox hg; have hnb38 := NB708_702.out; have hnc38 := NB702_708.out; obtain ⟨_, _, _, _, _, _, _, _⟩ := blkc4 BK708; obtain ⟨_, _, _, _, _, _, _, _⟩ := blkc4 BK702) | ((with_reducible refine gate_callee (f := 102) rfl ?_); refine gL (some 25) Try.func102 #[.slice A1_0 l1_0.length c1_0, .int .i64 ((rd_T50 l0 x17_1).f0)] ?_; (with_reducible refine (slices_Contains_int_int.calls k1 _ _ l1_0 ((rd_T50 l0 x17_1).f0) false _ ?_ ?_ A13.out).mono ?_); exact Kd.C_below HR1_0.out bG; exact HC1_0.out; rintro e w' ⟨rfl, ⟨nd, rfl⟩⟩; refine ⟨_, rfl, ?_⟩) | ((with_reducible refine gate_builtin (b := .append) (xs := #[.tmp 38, .tmp 40]) rfl ?_); at_builtin; refine Kd.R_append (Kd.int .i64) (w0 := w) w.heap.size rfl (.tmp 38) (.tmp 40) 35 3 (.int .i64 0) 8 rfl Try.underlying35 info3 rfl (by decide) (by omega) u5 x5_1 0 [.int .i64 0] (fun _ => True) (fun _ => False) rfl (by first | (go_simp; done) | (go_simp; rfl)) ?aP (fun _ hk => hk.elim) ?aF ?aO ?aB ?aS ?aL ?_; (case aP => exact rfl); (case aB => exact bG); (case aF => exact (fun _ _ => trivial)); (case aO => exact (Kd.R_mono (rf HO_5 BK708) (fun _ hk => trivial))); (case aS => exact (below_size bG)); (case aL => have := LMc36.out; omega); intro v721 w41 ho hb hg hat; rw [← Ny720.out] at ho; have n0_ := Aside0.mk (blk_grown (g := gb702) (o := .cells #[.slice A1_0 l1_0.length c1_0, .int .i64 a1_1, .slice A1_2 l1_2.length c1_2, .int .i64 a1_3] 66 (0, 0)) (kf BK702 NB702_708) hg (Kd.R_ne HO_5.out BK702.out (by decide))); have n1_ := Aside0.mk (blk_grown (g := gb708) (o := .cells #[.int .i64 ((rd_T50 l0 x17_1).f0), .int .i64 ((rd_T50 l0 x17_1).f1), .int .i64 ((rd_T50 l0 x17_1).f2), .int .i64 ((rd_T50 l0 x17_1).f3)] 50 (0, 0)) (kp BK708) hg (Kd.R_ne HO_5.out BK708.out (by decide))); have n2_ := Aside0.mk (hb); have n3_ := Aside0.mk (ho); clear BK702; clear BK708; clear HB; clear HO_5; have BK702 := n0_; have BK708 := n1_; have HB := n2_; have HO722 := n3_; clear n0_ n1_ n2_ n3_; clear ho hb hg hat))
     go_roundg k1
     case measure => have := HK1.out; omega
     case rel => exact ⟨(y720), (wrap64 (x17_1 + 1)), rS, H', ⟨by have := HK1.out; omega⟩, ⟨rK HO722⟩, ⟨bK BK702⟩, ⟨bG⟩⟩
    rw [if_neg c10] at H
    have c10b0 := decide_eq_false c10
    clear c10
    obtain rfl := Option.some.inj H
    go_wp2
    go_ret
    exact ⟨_, rA, rK HO_5, bG⟩
 replace c4 := Bool.eq_false_iff.mpr c4
 subst c4
 have H1 : (some y703) = some r := by rw [if_neg (show ¬ (false = true) by decide)] at H; exact H
 clear H
 have H := H1
 clear H1
 obtain rfl := Option.some.inj H
 go_enter Try.func50, Try.ntmps50
 go_wp2_with (first | ((with_reducible refine gate_dst (N := 3) rfl ?_); refine bE (N := 3) (cs := #[.slice A1_0 l1_0.length c1_0, .int .i64 a1_1, .slice A1_2 l1_2.length c1_2, .int .i64 a1_3]) (t := 66) ?_; intro gb702 hg w42 hbox hb; have BK702 := Aside0.mk (hbox); have GW702 := gw w hg; have GE702 := gw w hg; replace HB := bs HB hb; clear hb hbox hg) | ((with_reducible refine gate_dst (N := 9) rfl ?_); refine Kd.R_lit (Kd.int .i64) _ 3 ?hg (N := 9) ?hd (xs := ([] : List Int)) (inner := []) (ok := fun _ => True) (okp := fun _ => True) ?hr ?hp (fun _ hk => hk) trivial (Below.refl _ _) (Nat.le_refl _) (by simp) ?_; (case hd => rfl); (case hg => rfl); (case hr => first | (go_simp; done) | (go_simp; rfl)); (case hp => exact (Reps.none _ _)); intro v704 w43 ho44 hb hg_ hnew_; clear hg_ hnew_; (first | rw [← Ny703.out] at ho44 | (simp only [Int.reduceToNat] at ho44; rw [← Ny703.out] at ho44)); have HO705 := rl w ho44; replace BK702 := kb BK702 hb; replace HB := bs HB hb; clear hb ho44; obtain ⟨_, _, _, _, _, _, _, _⟩ := blkc4 BK702) | ((with_reducible refine gate_callee (f := 44) rfl ?_); refine gL (some 12) Try.func44 #[.slice A0 l0.length c0, .agg #[.slice A1_0 l1_0.length c1_0, .int .i64 a1_1, .slice A1_2 l1_2.length c1_2, .int .i64 a1_3]] ?_; (with_reducible refine (impl_IsControl.calls k _ _ l0 _ _ l1_0 a1_1 _ _ l1_2 a1_3 false _ ?_ ?_ ?_ ?_ ?_ ?_ A3.out).mono ?_); exact cB HR0; exact HC0.out; exact cB HR1_0; exact HC1_0.out; exact cB HR1_2; exact HC1_2.out; rintro e w46 ⟨rfl, hb⟩; refine ⟨_, rfl, ?_⟩; replace HO705 := rb HO705 hb; replace BK702 := kb BK702 hb; replace HB := bs HB hb; (try clear hb)))
 go_ret
 exact ⟨_, rA, rK HO705, bG⟩

/-! ### laws_FnControls: function 6 -/
mutual
def laws_FnControls.j0 : Nat → List Int → List (S50) → List Int → Bool → Bool → List Int → Int → List Int → Int → Option (Bool)
 | 0, _, _, _, _, _, _, _, _, _ => none
 | k + 1, x0, x3, x5, x7, x49, x749000, x749001, x749002, x749003 => if x49 = true then (none) else (if x7 = true then (laws_FnControls.l0 k x0 x3 x5 0 x749000 x749001 x749002 x749003) else (laws_FnControls.j2 k x0))
def laws_FnControls.j2 : Nat → List Int → Option (Bool)
 | 0, _ => none
 | k + 1, x0 => (spec_DrawTickControl.f k x0).bind fun bt762 => ((impl_TickControl.f k bt762.1 bt762.2.1 bt762.2.2.1 bt762.2.2.2.1 bt762.2.2.2.2).bind fun bt774 => ((impl_IsControl.f k bt762.1 bt762.2.1 bt762.2.2.1 bt762.2.2.2.1 bt762.2.2.2.2).bind fun t783 => (if t783 = true then ((impl_IsControl.f k bt762.1 bt774.1 bt774.2.1 bt774.2.2.1 bt774.2.2.2).bind fun t784 => (if t784 = true then ((impl_LightsOf.f k bt762.1 bt762.2.1 bt762.2.2.1 bt762.2.2.2.1 bt762.2.2.2.2).bind fun t785 => ((impl_IsSafeLights.f k bt762.1 t785).bind fun t788 => (if t788 = true then ((impl_LightsOf.f k bt762.1 bt774.1 bt774.2.1 bt774.2.2.1 bt774.2.2.2).bind fun t789 => ((impl_IsSafeLights.f k bt762.1 t789).bind fun t792 => (some t792))) else (none)))) else (none))) else ((impl_EqualControls.f k bt762.2.1 bt762.2.2.1 bt762.2.2.2.1 bt762.2.2.2.2 bt774.1 bt774.2.1 bt774.2.2.1 bt774.2.2.2).bind fun t793 => (if t793 = true then ((impl_LightsOf.f k bt762.1 bt762.2.1 bt762.2.2.1 bt762.2.2.2.1 bt762.2.2.2.2).bind fun t794 => (some ((t794.length : Int) == 0))) else (none))))))
def laws_FnControls.l0 : Nat → List Int → List (S50) → List Int → Int → List Int → Int → List Int → Int → Option (Bool)
 | 0, _, _, _, _, _, _, _, _ => none
 | k + 1, x0, x3, x5, x8, x749000, x749001, x749002, x749003 => if x8 < 6 then (if (x749002.length : Int) > 0 then ((impl_TickControl.f k x3 x749000 x749001 x749002 x749003).bind fun bt752 => (laws_FnControls.l0 k x0 x3 x5 (wrap64 (x8 + 1)) bt752.1 bt752.2.1 bt752.2.2.1 bt752.2.2.2)) else ((laws_sameInts.f k x749000 x5).bind fun t760 => (if t760 = true then (if x749001 = 0 then (laws_FnControls.j2 k x0) else (none)) else (none)))) else ((laws_sameInts.f k x749000 x5).bind fun t761 => (if t761 = true then (if x749001 = 0 then (if (x749002.length : Int) > 0 then (none) else (laws_FnControls.j2 k x0)) else (none)) else (none)))
end
def laws_FnControls.f (k : Nat) (l0 : List Int) : Option (Bool) := (laws_big.f l0).bind fun t723 => (if t723 = true then (some true) else ((spec_DrawAskStage.f k l0).bind fun bt724 => ((impl_AskStage.f k bt724.1 bt724.2.1 bt724.2.2.1 bt724.2.2.2.1 bt724.2.2.2.2.1 bt724.2.2.2.2.2).bind fun bt739 => (if bt739.2.2.2.2 = true then ((impl_CanEnd.f k bt724.1 bt724.2.1 bt724.2.2.1 bt724.2.2.2.1 bt724.2.2.2.2.1).bind fun t749 => (if t749 = true then ((impl_IsControl.f k bt724.1 bt739.1 bt739.2.1 bt739.2.2.1 bt739.2.2.2.1).bind fun t750 => (if t750 = true then (laws_FnControls.j0 k l0 bt724.1 bt724.2.2.2.2.2 bt739.2.2.2.2 false bt739.1 bt739.2.1 bt739.2.2.1 bt739.2.2.2.1) else (laws_FnControls.j0 k l0 bt724.1 bt724.2.2.2.2.2 bt739.2.2.2.2 true bt739.1 bt739.2.1 bt739.2.2.1 bt739.2.2.2.1))) else (laws_FnControls.j0 k l0 bt724.1 bt724.2.2.2.2.2 bt739.2.2.2.2 true bt739.1 bt739.2.1 bt739.2.2.1 bt739.2.2.2.1))) else ((impl_EqualControls.f k bt724.2.1 bt724.2.2.1 bt724.2.2.2.1 bt724.2.2.2.2.1 bt739.1 bt739.2.1 bt739.2.2.1 bt739.2.2.2.1).bind fun t751 => (laws_FnControls.j0 k l0 bt724.1 bt724.2.2.2.2.2 bt739.2.2.2.2 (!t751) bt739.1 bt739.2.1 bt739.2.2.1 bt739.2.2.2.1))))))
theorem laws_FnControls.mono_l : ∀ k, (∀ y0 y1 y2 y3 y4 y5 y6 y7 y8, LeO (laws_FnControls.j0 k y0 y1 y2 y3 y4 y5 y6 y7 y8) (laws_FnControls.j0 (k + 1) y0 y1 y2 y3 y4 y5 y6 y7 y8)) ∧ (∀ y0, LeO (laws_FnControls.j2 k y0) (laws_FnControls.j2 (k + 1) y0)) ∧ (∀ y0 y1 y2 y3 y4 y5 y6 y7, LeO (laws_FnControls.l0 k y0 y1 y2 y3 y4 y5 y6 y7) (laws_FnControls.l0 (k + 1) y0 y1 y2 y3 y4 y5 y6 y7))
 | 0 => ⟨fun _ _ _ _ _ _ _ _ _ r h => by simp [laws_FnControls.j0] at h, fun _ r h => by simp [laws_FnControls.j2] at h, fun _ _ _ _ _ _ _ _ r h => by simp [laws_FnControls.l0] at h⟩
 | k + 1 => by
  obtain ⟨ih0, ih1, ih2⟩ := laws_FnControls.mono_l k
  refine ⟨?_, ?_, ?_⟩
  ·
   intro y0 y1 y2 y3 y4 y5 y6 y7 y8
   unfold laws_FnControls.j0
   repeat' first | (with_reducible first | exact LeO.refl _ | exact LeO.none _ | refine LeO.ite ?_ ?_ | refine LeO.bind ?_ (fun _ => ?_) | exact ih0 _ _ _ _ _ _ _ _ _ | exact ih1 _ | exact ih2 _ _ _ _ _ _ _ _ | exact impl_AskStage.mono _ _ _ _ _ _ _ | exact impl_CanEnd.mono _ _ _ _ _ _ | exact impl_EqualControls.mono _ _ _ _ _ _ _ _ _ | exact impl_IsControl.mono _ _ _ _ _ _ | exact impl_IsSafeLights.mono _ _ _ | exact impl_LightsOf.mono _ _ _ _ _ _ | exact impl_TickControl.mono _ _ _ _ _ _ | exact laws_sameInts.mono _ _ _ | exact spec_DrawAskStage.mono _ _ | exact spec_DrawTickControl.mono _ _)
  ·
   intro y0
   unfold laws_FnControls.j2
   repeat' first | (with_reducible first | exact LeO.refl _ | exact LeO.none _ | refine LeO.ite ?_ ?_ | refine LeO.bind ?_ (fun _ => ?_) | exact ih0 _ _ _ _ _ _ _ _ _ | exact ih1 _ | exact ih2 _ _ _ _ _ _ _ _ | exact impl_AskStage.mono _ _ _ _ _ _ _ | exact impl_CanEnd.mono _ _ _ _ _ _ | exact impl_EqualControls.mono _ _ _ _ _ _ _ _ _ | exact impl_IsControl.mono _ _ _ _ _ _ | exact impl_IsSafeLights.mono _ _ _ | exact impl_LightsOf.mono _ _ _ _ _ _ | exact impl_TickControl.mono _ _ _ _ _ _ | exact laws_sameInts.mono _ _ _ | exact spec_DrawAskStage.mono _ _ | exact spec_DrawTickControl.mono _ _)
  ·
   intro y0 y1 y2 y3 y4 y5 y6 y7
   unfold laws_FnControls.l0
   repeat' first | (with_reducible first | exact LeO.refl _ | exact LeO.none _ | refine LeO.ite ?_ ?_ | refine LeO.bind ?_ (fun _ => ?_) | exact ih0 _ _ _ _ _ _ _ _ _ | exact ih1 _ | exact ih2 _ _ _ _ _ _ _ _ | exact impl_AskStage.mono _ _ _ _ _ _ _ | exact impl_CanEnd.mono _ _ _ _ _ _ | exact impl_EqualControls.mono _ _ _ _ _ _ _ _ _ | exact impl_IsControl.mono _ _ _ _ _ _ | exact impl_IsSafeLights.mono _ _ _ | exact impl_LightsOf.mono _ _ _ _ _ _ | exact impl_TickControl.mono _ _ _ _ _ _ | exact laws_sameInts.mono _ _ _ | exact spec_DrawAskStage.mono _ _ | exact spec_DrawTickControl.mono _ _)
theorem laws_FnControls.mono : ∀ a0 k, LeO (laws_FnControls.f k a0) (laws_FnControls.f (k + 1) a0) := by
 intro a0 k
 obtain ⟨ih0, ih1, ih2⟩ := laws_FnControls.mono_l k
 unfold laws_FnControls.f
 repeat' first | (with_reducible first | exact LeO.refl _ | exact LeO.none _ | refine LeO.ite ?_ ?_ | refine LeO.bind ?_ (fun _ => ?_) | exact ih0 _ _ _ _ _ _ _ _ _ | exact ih1 _ | exact ih2 _ _ _ _ _ _ _ _ | exact impl_AskStage.mono _ _ _ _ _ _ _ | exact impl_CanEnd.mono _ _ _ _ _ _ | exact impl_EqualControls.mono _ _ _ _ _ _ _ _ _ | exact impl_IsControl.mono _ _ _ _ _ _ | exact impl_IsSafeLights.mono _ _ _ | exact impl_LightsOf.mono _ _ _ _ _ _ | exact impl_TickControl.mono _ _ _ _ _ _ | exact laws_sameInts.mono _ _ _ | exact spec_DrawAskStage.mono _ _ | exact spec_DrawTickControl.mono _ _)
set_option maxHeartbeats 8000000 in
set_option maxRecDepth 100000 in
theorem laws_FnControls.calls (k : Nat) (A0 : Option Addr) (c0 : Nat) (l0 : List Int) (r : Bool) (w : World) (hr0 : Kd.C (Kd.int .u8) w A0 l0.length l0) (hc0 : l0.length ≤ c0) (h : laws_FnControls.f k l0 = some r) :
  Calls Try.prog 6 #[.slice A0 l0.length c0] w fun e w' => e = .returned (.bool r) ∧ Below w.heap.size w w' := by
 have hu66 := Try.underlying66
 have HR0 := Aside0.mk hr0
 have HC0 := Aside0.mk hc0
 clear hr0 hc0
 have HB := Aside0.mk (Below.refl w.heap.size w)
 have H : ((laws_big.f l0).bind fun t723 => (if t723 = true then (some true) else ((spec_DrawAskStage.f k l0).bind fun bt724 => ((impl_AskStage.f k bt724.1 bt724.2.1 bt724.2.2.1 bt724.2.2.2.1 bt724.2.2.2.2.1 bt724.2.2.2.2.2).bind fun bt739 => (if bt739.2.2.2.2 = true then ((impl_CanEnd.f k bt724.1 bt724.2.1 bt724.2.2.1 bt724.2.2.2.1 bt724.2.2.2.2.1).bind fun t749 => (if t749 = true then ((impl_IsControl.f k bt724.1 bt739.1 bt739.2.1 bt739.2.2.1 bt739.2.2.2.1).bind fun t750 => (if t750 = true then (laws_FnControls.j0 k l0 bt724.1 bt724.2.2.2.2.2 bt739.2.2.2.2 false bt739.1 bt739.2.1 bt739.2.2.1 bt739.2.2.2.1) else (laws_FnControls.j0 k l0 bt724.1 bt724.2.2.2.2.2 bt739.2.2.2.2 true bt739.1 bt739.2.1 bt739.2.2.1 bt739.2.2.2.1))) else (laws_FnControls.j0 k l0 bt724.1 bt724.2.2.2.2.2 bt739.2.2.2.2 true bt739.1 bt739.2.1 bt739.2.2.1 bt739.2.2.2.1))) else ((impl_EqualControls.f k bt724.2.1 bt724.2.2.1 bt724.2.2.2.1 bt724.2.2.2.2.1 bt739.1 bt739.2.1 bt739.2.2.1 bt739.2.2.2.1).bind fun t751 => (laws_FnControls.j0 k l0 bt724.1 bt724.2.2.2.2.2 bt739.2.2.2.2 (!t751) bt739.1 bt739.2.1 bt739.2.2.1 bt739.2.2.2.1))))))) = some r := h
 clear h
 obtain ⟨t723, A2, H⟩ := bindE H
 try dsimp only at H
 by_cases c3 : t723 = true
 ·
  subst c3
  have H1 : (some true) = some r := by rw [if_pos rfl] at H; exact H
  clear H
  have H := H1
  clear H1
  obtain rfl := Option.some.inj H
  go_enter Try.func6, Try.ntmps6
  go_wp2_with (first | ((with_reducible refine gate_callee (f := 10) rfl ?_); refine gL (some 13) Try.func10 #[.slice A0 l0.length c0] ?_; (with_reducible refine (laws_big.calls _ _ l0 true _ ?_ ?_ A2.out).mono ?_); exact cO HR0; exact HC0.out; rintro e w' ⟨rfl, ⟨nd, rfl⟩⟩; refine ⟨_, rfl, ?_⟩))
  go_ret
  exact ⟨rA, bA⟩
 replace c3 := Bool.eq_false_iff.mpr c3
 subst c3
 have H1 : ((spec_DrawAskStage.f k l0).bind fun bt724 => ((impl_AskStage.f k bt724.1 bt724.2.1 bt724.2.2.1 bt724.2.2.2.1 bt724.2.2.2.2.1 bt724.2.2.2.2.2).bind fun bt739 => (if bt739.2.2.2.2 = true then ((impl_CanEnd.f k bt724.1 bt724.2.1 bt724.2.2.1 bt724.2.2.2.1 bt724.2.2.2.2.1).bind fun t749 => (if t749 = true then ((impl_IsControl.f k bt724.1 bt739.1 bt739.2.1 bt739.2.2.1 bt739.2.2.2.1).bind fun t750 => (if t750 = true then (laws_FnControls.j0 k l0 bt724.1 bt724.2.2.2.2.2 bt739.2.2.2.2 false bt739.1 bt739.2.1 bt739.2.2.1 bt739.2.2.2.1) else (laws_FnControls.j0 k l0 bt724.1 bt724.2.2.2.2.2 bt739.2.2.2.2 true bt739.1 bt739.2.1 bt739.2.2.1 bt739.2.2.2.1))) else (laws_FnControls.j0 k l0 bt724.1 bt724.2.2.2.2.2 bt739.2.2.2.2 true bt739.1 bt739.2.1 bt739.2.2.1 bt739.2.2.2.1))) else ((impl_EqualControls.f k bt724.2.1 bt724.2.2.1 bt724.2.2.2.1 bt724.2.2.2.2.1 bt739.1 bt739.2.1 bt739.2.2.1 bt739.2.2.2.1).bind fun t751 => (laws_FnControls.j0 k l0 bt724.1 bt724.2.2.2.2.2 bt739.2.2.2.2 (!t751) bt739.1 bt739.2.1 bt739.2.2.1 bt739.2.2.2.1))))) = some r := by rw [if_neg (show ¬ (false = true) by decide)] at H; exact H
 clear H
 have H := H1
 clear H1
 obtain ⟨⟨t724, t727, t730, t731, t734, t735⟩, A4, H⟩ := bindE H
 try dsimp only at H
 obtain ⟨⟨t739, t742, t743, t746, t747⟩, A5, H⟩ := bindE H
 try dsimp only at H
 have HC6 := Aside0.mk H
 clear H
 go_enter Try.func6, Try.ntmps6
 go_upto_region 5 with (first | ((with_reducible refine gate_callee (f := 10) rfl ?_); refine gL (some 13) Try.func10 #[.slice A0 l0.length c0] ?_; (with_reducible refine (laws_big.calls _ _ l0 false _ ?_ ?_ A2.out).mono ?_); exact cO HR0; exact HC0.out; rintro e w' ⟨rfl, ⟨nd, rfl⟩⟩; refine ⟨_, rfl, ?_⟩) | ((with_reducible refine gate_callee (f := 41) rfl ?_); refine gL (some 16) Try.func41 #[.slice A0 l0.length c0] ?_; (with_reducible refine (spec_DrawAskStage.calls k _ _ l0 t724 t727 t730 t731 t734 t735 _ ?_ ?_ A4.out).mono ?_); exact cO HR0; exact HC0.out; rintro e w7 ⟨v725, v728, v732, v736, rfl, ho0, ho1, ho2, ho3, hb⟩; refine ⟨_, rfl, ?_⟩; have HO726 := rl w ho0; have HO729 := rl w ho1; have HO733 := rl w ho2; have HO737 := rl w ho3; replace HB := bs HB hb; (try clear hb); (try clear ho0); (try clear ho1); (try clear ho2); (try clear ho3)) | ((with_reducible refine gate_dst (N := 4) rfl ?_); (try (refine gate_guard (by rfl) ?_; dsimp only)); refine bE (N := 4) (cs := #[.slice none 0 0, .int .i64 0, .slice none 0 0, .int .i64 0]) (t := 66) ?_; intro gb738 hg w8 hbox hb; replace HO726 := rb HO726 hb; replace HO729 := rb HO729 hb; replace HO733 := rb HO733 hb; replace HO737 := rb HO737 hb; have BK738 := Aside0.mk (hbox); have GW738 := gw w hg; have GE738 := gw w hg; replace HB := bs HB hb; clear hb hbox hg; obtain ⟨Ao9, co9, eo9⟩ := Kd.R_slice HO729.out; subst eo9; obtain ⟨_, _, _, _, _, _, _, _⟩ := blkc4 BK738; obtain ⟨Ao11, co11, eo11⟩ := Kd.R_slice HO733.out; subst eo11; obtain ⟨Ao12, co12, eo12⟩ := Kd.R_slice HO726.out; subst eo12; obtain ⟨Ao13, co13, eo13⟩ := Kd.R_slice HO737.out; subst eo13) | ((with_reducible refine gate_callee (f := 42) rfl ?_); refine gL (some 24) Try.func42 #[.slice Ao12 t724.length co12, .agg #[.slice Ao9 t727.length co9, .int .i64 t730, .slice Ao11 t731.length co11, .int .i64 t734], .slice Ao13 t735.length co13] ?_; (with_reducible refine (impl_AskStage.calls k _ _ t724 _ _ t727 t730 _ _ t731 t734 _ _ t735 t739 t742 t743 t746 t747 _ ?_ ?_ ?_ ?_ ?_ ?_ ?_ ?_ A5.out).mono ?_); (focus refine (Kd.R_reads' (e := 50) (base := w.heap.size) (ok := fun k_ => True) (n := t724.length) (c := co12) ?_).2.2; exact (rf HO726 BK738)); exact (Kd.R_reads' HO726.out).2.1; (focus refine (Kd.R_reads' (e := 3) (base := w.heap.size) (ok := fun k_ => (some k_ ≠ (.slice Ao11 t731.length co11 : Value).ownBlock ∧ some k_ ≠ (.slice Ao13 t735.length co13 : Value).ownBlock)) (n := t727.length) (c := co9) ?_).2.2; exact (rf HO729 BK738)); exact (Kd.R_reads' HO729.out).2.1; (focus refine (Kd.R_reads' (e := 3) (base := w.heap.size) (ok := fun k_ => (some k_ ≠ (.slice Ao9 t727.length co9 : Value).ownBlock ∧ some k_ ≠ (.slice Ao13 t735.length co13 : Value).ownBlock)) (n := t731.length) (c := co11) ?_).2.2; exact (rf HO733 BK738)); exact (Kd.R_reads' HO733.out).2.1; (focus refine (Kd.R_reads' (e := 3) (base := w.heap.size) (ok := fun k_ => (some k_ ≠ (.slice Ao9 t727.length co9 : Value).ownBlock ∧ some k_ ≠ (.slice Ao11 t731.length co11 : Value).ownBlock)) (n := t735.length) (c := co13) ?_).2.2; exact (rf HO737 BK738)); exact (Kd.R_reads' HO737.out).2.1; rintro e w14 ⟨v740, v744, rfl, ho0, ho1, hb⟩; refine ⟨_, rfl, ?_⟩; replace HO726 := Aside0.mk (Kd.R_below (rf HO726 BK738) hb); have HO741 := rl w (Kd.R_new' (Kd.R_new' (Kd.R_new' ho0 (Kd.R_lt (rf HO729 BK738))) (Kd.R_lt (rf HO733 BK738))) (Kd.R_lt (rf HO737 BK738))); have HO745 := rl w (Kd.R_new' (Kd.R_new' (Kd.R_new' ho1 (Kd.R_lt (rf HO729 BK738))) (Kd.R_lt (rf HO733 BK738))) (Kd.R_lt (rf HO737 BK738))); replace HO729 := Aside0.mk (Kd.R_mono (Kd.R_told (Kd.R_told (Kd.R_old (rf HO729 BK738) hb) (Kd.R_base ho0)) (Kd.R_base ho1)) (fun _ h_ => h_.1)); replace HO733 := Aside0.mk (Kd.R_mono (Kd.R_told (Kd.R_told (Kd.R_old (rf HO733 BK738) hb) (Kd.R_base ho0)) (Kd.R_base ho1)) (fun _ h_ => h_.1)); replace HO737 := Aside0.mk (Kd.R_mono (Kd.R_told (Kd.R_told (Kd.R_old (rf HO737 BK738) hb) (Kd.R_base ho0)) (Kd.R_base ho1)) (fun _ h_ => h_.1)); replace BK738 := kc (o := .cells #[.slice Ao9 t727.length co9, .int .i64 t730, .slice Ao11 t731.length co11, .int .i64 t734] 66 (0, 0)) (kp BK738) hb; replace HB := bs HB hb; (try clear hb); (try clear ho0); (try clear ho1)) | ((with_reducible refine gate_dst (N := 6) rfl ?_); (try (refine gate_guard (by rfl) ?_; dsimp only)); refine bE (N := 6) (cs := #[.slice none 0 0, .int .i64 0, .slice none 0 0, .int .i64 0]) (t := 66) ?_; intro gb748 hg w15 hbox hb; replace HO726 := rb HO726 hb; replace HO729 := rb HO729 hb; replace HO733 := rb HO733 hb; replace HO737 := rb HO737 hb; replace HO741 := rb HO741 hb; replace HO745 := rb HO745 hb; have BK748 := Aside0.mk (hbox); have GW748 := gw w hg; have GE748 := gw w hg; replace HB := bs HB hb; have NB738_748 := nl BK738 hg; have NB748_738 := nr BK738 hg; replace BK738 := kb BK738 hb; clear hb hbox hg; obtain ⟨Ao16, co16, eo16⟩ := Kd.R_slice HO741.out; subst eo16; have hnb17 := NB748_738.out; have hnc17 := NB738_748.out; obtain ⟨_, _, _, _, _, _, _, _⟩ := blkc4 BK748; obtain ⟨Ao19, co19, eo19⟩ := Kd.R_slice HO745.out; subst eo19))
 (try simp only [Act.put, List.setIfInBounds_toArray, List.set_cons_zero, List.set_cons_succ])
 go_cut [49] (fun v49 wc => ∃ (kq : Nat) (x49_5 : Bool), v49 = .bool x49_5 ∧ Aside0 (laws_FnControls.j0 kq l0 t724 t735 t747 x49_5 t739 t742 t743 t746 = some r) ∧ Aside0 (kq ≤ k) ∧ Aside0 (Kd.R k50 50 wc w.heap.size (fun _ => True) (.slice Ao12 t724.length co12) t724) ∧ Aside0 (Kd.R (Kd.int .i64) 3 wc w.heap.size (n4 (.slice Ao9 t727.length co9) (.slice Ao11 t731.length co11) (.slice Ao16 t739.length co16) (.slice Ao19 t743.length co19)) (.slice Ao13 t735.length co13) t735) ∧ Aside0 (Kd.R (Kd.int .i64) 3 wc w.heap.size (n4 (.slice Ao13 t735.length co13) (.slice Ao11 t731.length co11) (.slice Ao16 t739.length co16) (.slice Ao19 t743.length co19)) (.slice Ao9 t727.length co9) t727) ∧ Aside0 (Kd.R (Kd.int .i64) 3 wc w.heap.size (n4 (.slice Ao13 t735.length co13) (.slice Ao9 t727.length co9) (.slice Ao16 t739.length co16) (.slice Ao19 t743.length co19)) (.slice Ao11 t731.length co11) t731) ∧ Aside0 (Kd.R (Kd.int .i64) 3 wc w.heap.size (n4 (.slice Ao13 t735.length co13) (.slice Ao9 t727.length co9) (.slice Ao11 t731.length co11) (.slice Ao19 t743.length co19)) (.slice Ao16 t739.length co16) t739) ∧ Aside0 (Kd.R (Kd.int .i64) 3 wc w.heap.size (n4 (.slice Ao13 t735.length co13) (.slice Ao9 t727.length co9) (.slice Ao11 t731.length co11) (.slice Ao16 t739.length co16)) (.slice Ao19 t743.length co19) t743) ∧ Aside0 (wc.heap[gb738]? = some (.cells #[(.slice Ao9 t727.length co9), .int .i64 t730, (.slice Ao11 t731.length co11), .int .i64 t734] 66 (0, 0))) ∧ Aside0 (wc.heap[gb748]? = some (.cells #[(.slice Ao16 t739.length co16), .int .i64 t742, (.slice Ao19 t743.length co19), .int .i64 t746] 66 (0, 0))) ∧ Aside0 (Below w.heap.size w wc))
 case first =>
  have H := HC6.out
  clear HC6
  by_cases c20 : t747 = true
  ·
   subst c20
   have H1 : ((impl_CanEnd.f k t724 t727 t730 t731 t734).bind fun t749 => (if t749 = true then ((impl_IsControl.f k t724 t739 t742 t743 t746).bind fun t750 => (if t750 = true then (laws_FnControls.j0 k l0 t724 t735 true false t739 t742 t743 t746) else (laws_FnControls.j0 k l0 t724 t735 true true t739 t742 t743 t746))) else (laws_FnControls.j0 k l0 t724 t735 true true t739 t742 t743 t746))) = some r := by rw [if_pos rfl] at H; exact H
   clear H
   have H := H1
   clear H1
   obtain ⟨t749, A21, H⟩ := bindE H
   try dsimp only at H
   by_cases c22 : t749 = true
   ·
    subst c22
    have H1 : ((impl_IsControl.f k t724 t739 t742 t743 t746).bind fun t750 => (if t750 = true then (laws_FnControls.j0 k l0 t724 t735 true false t739 t742 t743 t746) else (laws_FnControls.j0 k l0 t724 t735 true true t739 t742 t743 t746))) = some r := by rw [if_pos rfl] at H; exact H
    clear H
    have H := H1
    clear H1
    obtain ⟨t750, A23, H⟩ := bindE H
    try dsimp only at H
    by_cases c24 : t750 = true
    ·
     subst c24
     have H1 : (laws_FnControls.j0 k l0 t724 t735 true false t739 t742 t743 t746) = some r := by rw [if_pos rfl] at H; exact H
     clear H
     have H := H1
     clear H1
     have H' := Aside0.mk H
     clear H
     have hnb25 := NB738_748.out
     have hnc25 := NB748_738.out
     obtain ⟨_, _, _, _, _, _, _, _⟩ := blkc4 BK738
     go_wp2_with (first | (go_at_call 43; (with_reducible refine (impl_CanEnd.calls k _ _ t724 _ _ t727 t730 _ _ t731 t734 true _ ?_ ?_ ?_ ?_ ?_ ?_ A21.out).mono ?_); (focus refine (Kd.R_reads' (e := 50) (base := w.heap.size) (ok := fun k_ => True) (n := t724.length) (c := co12) ?_).2.2; exact (rf HO726 BK748)); exact (Kd.R_reads' HO726.out).2.1; (focus refine (Kd.R_reads' (e := 3) (base := w.heap.size) (ok := fun k_ => (((some k_ ≠ (.slice Ao11 t731.length co11 : Value).ownBlock ∧ some k_ ≠ (.slice Ao13 t735.length co13 : Value).ownBlock) ∧ some k_ ≠ (.slice Ao16 t739.length co16 : Value).ownBlock) ∧ some k_ ≠ (.slice Ao19 t743.length co19 : Value).ownBlock)) (n := t727.length) (c := co9) ?_).2.2; exact (rf HO729 BK748)); exact (Kd.R_reads' HO729.out).2.1; (focus refine (Kd.R_reads' (e := 3) (base := w.heap.size) (ok := fun k_ => (((some k_ ≠ (.slice Ao9 t727.length co9 : Value).ownBlock ∧ some k_ ≠ (.slice Ao13 t735.length co13 : Value).ownBlock) ∧ some k_ ≠ (.slice Ao16 t739.length co16 : Value).ownBlock) ∧ some k_ ≠ (.slice Ao19 t743.length co19 : Value).ownBlock)) (n := t731.length) (c := co11) ?_).2.2; exact (rf HO733 BK748)); exact (Kd.R_reads' HO733.out).2.1; rintro e w27 ⟨rfl, hb⟩; replace HO726 := Aside0.mk (Kd.R_below (rf HO726 BK748) hb); replace HO729 := Aside0.mk (Kd.R_below (rf HO729 BK748) hb); replace HO733 := Aside0.mk (Kd.R_below (rf HO733 BK748) hb); replace HO737 := Aside0.mk (Kd.R_below (rf HO737 BK748) hb); replace HO741 := Aside0.mk (Kd.R_below (rf HO741 BK748) hb); replace HO745 := Aside0.mk (Kd.R_below (rf HO745 BK748) hb); replace BK738 := kc (kf BK738 NB738_748) hb; replace BK748 := kc (o := .cells #[.slice Ao16 t739.length co16, .int .i64 t742, .slice Ao19 t743.length co19, .int .i64 t746] 66 (0, 0)) (kp BK748) hb; replace HB := bs HB hb; (try clear hb); obtain ⟨_, _, _, _, _, _, _, _⟩ := blkc4 BK748) | (go_at_call 44; (with_reducible refine (impl_IsControl.calls k _ _ t724 _ _ t739 t742 _ _ t743 t746 true _ ?_ ?_ ?_ ?_ ?_ ?_ A23.out).mono ?_); exact cO ⟨(Kd.R_reads' HO726.out).2.2⟩; exact (Kd.R_reads' HO726.out).2.1; exact cO ⟨(Kd.R_reads' HO741.out).2.2⟩; exact (Kd.R_reads' HO741.out).2.1; exact cO ⟨(Kd.R_reads' HO745.out).2.2⟩; exact (Kd.R_reads' HO745.out).2.1; rintro e w29 ⟨rfl, hb⟩; replace HO726 := rb HO726 hb; replace HO729 := rb HO729 hb; replace HO733 := rb HO733 hb; replace HO737 := rb HO737 hb; replace HO741 := rb HO741 hb; replace HO745 := rb HO745 hb; replace BK738 := kb BK738 hb; replace BK748 := kb BK748 hb; replace HB := bs HB hb; (try clear hb)))
     go_meet
     case rel => exact ⟨_, (false), rS, H', ⟨oL⟩, ⟨rK HO726⟩, ⟨rm HO737 (fun _ hk => ⟨hk.1.1.1, ⟨hk.1.1.2, ⟨hk.1.2, hk.2⟩⟩⟩)⟩, ⟨rm HO729 (fun _ hk => ⟨hk.1.1.2, ⟨hk.1.1.1, ⟨hk.1.2, hk.2⟩⟩⟩)⟩, ⟨rm HO733 (fun _ hk => ⟨hk.1.1.2, ⟨hk.1.1.1, ⟨hk.1.2, hk.2⟩⟩⟩)⟩, ⟨rm HO741 (fun _ hk => ⟨hk.2, ⟨hk.1.1.2, ⟨hk.1.2, hk.1.1.1⟩⟩⟩)⟩, ⟨rm HO745 (fun _ hk => ⟨hk.2, ⟨hk.1.1.2, ⟨hk.1.2, hk.1.1.1⟩⟩⟩)⟩, ⟨bK BK738⟩, ⟨bK BK748⟩, ⟨bG⟩⟩
    replace c24 := Bool.eq_false_iff.mpr c24
    subst c24
    have H1 : (laws_FnControls.j0 k l0 t724 t735 true true t739 t742 t743 t746) = some r := by rw [if_neg (show ¬ (false = true) by decide)] at H; exact H
    clear H
    have H := H1
    clear H1
    have H' := Aside0.mk H
    clear H
    have hnb30 := NB738_748.out
    have hnc30 := NB748_738.out
    obtain ⟨_, _, _, _, _, _, _, _⟩ := blkc4 BK738
    go_wp2_with (first | (go_at_call 43; (with_reducible refine (impl_CanEnd.calls k _ _ t724 _ _ t727 t730 _ _ t731 t734 true _ ?_ ?_ ?_ ?_ ?_ ?_ A21.out).mono ?_); (focus refine (Kd.R_reads' (e := 50) (base := w.heap.size) (ok := fun k_ => True) (n := t724.length) (c := co12) ?_).2.2; exact (rf HO726 BK748)); exact (Kd.R_reads' HO726.out).2.1; (focus refine (Kd.R_reads' (e := 3) (base := w.heap.size) (ok := fun k_ => (((some k_ ≠ (.slice Ao11 t731.length co11 : Value).ownBlock ∧ some k_ ≠ (.slice Ao13 t735.length co13 : Value).ownBlock) ∧ some k_ ≠ (.slice Ao16 t739.length co16 : Value).ownBlock) ∧ some k_ ≠ (.slice Ao19 t743.length co19 : Value).ownBlock)) (n := t727.length) (c := co9) ?_).2.2; exact (rf HO729 BK748)); exact (Kd.R_reads' HO729.out).2.1; (focus refine (Kd.R_reads' (e := 3) (base := w.heap.size) (ok := fun k_ => (((some k_ ≠ (.slice Ao9 t727.length co9 : Value).ownBlock ∧ some k_ ≠ (.slice Ao13 t735.length co13 : Value).ownBlock) ∧ some k_ ≠ (.slice Ao16 t739.length co16 : Value).ownBlock) ∧ some k_ ≠ (.slice Ao19 t743.length co19 : Value).ownBlock)) (n := t731.length) (c := co11) ?_).2.2; exact (rf HO733 BK748)); exact (Kd.R_reads' HO733.out).2.1; rintro e w32 ⟨rfl, hb⟩; replace HO726 := Aside0.mk (Kd.R_below (rf HO726 BK748) hb); replace HO729 := Aside0.mk (Kd.R_below (rf HO729 BK748) hb); replace HO733 := Aside0.mk (Kd.R_below (rf HO733 BK748) hb); replace HO737 := Aside0.mk (Kd.R_below (rf HO737 BK748) hb); replace HO741 := Aside0.mk (Kd.R_below (rf HO741 BK748) hb); replace HO745 := Aside0.mk (Kd.R_below (rf HO745 BK748) hb); replace BK738 := kc (kf BK738 NB738_748) hb; replace BK748 := kc (o := .cells #[.slice Ao16 t739.length co16, .int .i64 t742, .slice Ao19 t743.length co19, .int .i64 t746] 66 (0, 0)) (kp BK748) hb; replace HB := bs HB hb; (try clear hb); obtain ⟨_, _, _, _, _, _, _, _⟩ := blkc4 BK748) | (go_at_call 44; (with_reducible refine (impl_IsControl.calls k _ _ t724 _ _ t739 t742 _ _ t743 t746 false _ ?_ ?_ ?_ ?_ ?_ ?_ A23.out).mono ?_); exact cO ⟨(Kd.R_reads' HO726.out).2.2⟩; exact (Kd.R_reads' HO726.out).2.1; exact cO ⟨(Kd.R_reads' HO741.out).2.2⟩; exact (Kd.R_reads' HO741.out).2.1; exact cO ⟨(Kd.R_reads' HO745.out).2.2⟩; exact (Kd.R_reads' HO745.out).2.1; rintro e w34 ⟨rfl, hb⟩; replace HO726 := rb HO726 hb; replace HO729 := rb HO729 hb; replace HO733 := rb HO733 hb; replace HO737 := rb HO737 hb; replace HO741 := rb HO741 hb; replace HO745 := rb HO745 hb; replace BK738 := kb BK738 hb; replace BK748 := kb BK748 hb; replace HB := bs HB hb; (try clear hb)))
    go_meet
    case rel => exact ⟨_, (true), rS, H', ⟨oL⟩, ⟨rK HO726⟩, ⟨rm HO737 (fun _ hk => ⟨hk.1.1.1, ⟨hk.1.1.2, ⟨hk.1.2, hk.2⟩⟩⟩)⟩, ⟨rm HO729 (fun _ hk => ⟨hk.1.1.2, ⟨hk.1.1.1, ⟨hk.1.2, hk.2⟩⟩⟩)⟩, ⟨rm HO733 (fun _ hk => ⟨hk.1.1.2, ⟨hk.1.1.1, ⟨hk.1.2, hk.2⟩⟩⟩)⟩, ⟨rm HO741 (fun _ hk => ⟨hk.2, ⟨hk.1.1.2, ⟨hk.1.2, hk.1.1.1⟩⟩⟩)⟩, ⟨rm HO745 (fun _ hk => ⟨hk.2, ⟨hk.1.1.2, ⟨hk.1.2, hk.1.1.1⟩⟩⟩)⟩, ⟨bK BK738⟩, ⟨bK BK748⟩, ⟨bG⟩⟩
   replace c22 := Bool.eq_false_iff.mpr c22
   subst c22
   have H1 : (laws_FnControls.j0 k l0 t724 t735 true true t739 t742 t743 t746) = some r := by rw [if_neg (show ¬ (false = true) by decide)] at H; exact H
   clear H
   have H := H1
   clear H1
   have H' := Aside0.mk H
   clear H
   have hnb35 := NB738_748.out
   have hnc35 := NB748_738.out
   obtain ⟨_, _, _, _, _, _, _, _⟩ := blkc4 BK738
   go_wp2_with (first | (go_at_call 43; (with_reducible refine (impl_CanEnd.calls k _ _ t724 _ _ t727 t730 _ _ t731 t734 false _ ?_ ?_ ?_ ?_ ?_ ?_ A21.out).mono ?_); (focus refine (Kd.R_reads' (e := 50) (base := w.heap.size) (ok := fun k_ => True) (n := t724.length) (c := co12) ?_).2.2; exact (rf HO726 BK748)); exact (Kd.R_reads' HO726.out).2.1; (focus refine (Kd.R_reads' (e := 3) (base := w.heap.size) (ok := fun k_ => (((some k_ ≠ (.slice Ao11 t731.length co11 : Value).ownBlock ∧ some k_ ≠ (.slice Ao13 t735.length co13 : Value).ownBlock) ∧ some k_ ≠ (.slice Ao16 t739.length co16 : Value).ownBlock) ∧ some k_ ≠ (.slice Ao19 t743.length co19 : Value).ownBlock)) (n := t727.length) (c := co9) ?_).2.2; exact (rf HO729 BK748)); exact (Kd.R_reads' HO729.out).2.1; (focus refine (Kd.R_reads' (e := 3) (base := w.heap.size) (ok := fun k_ => (((some k_ ≠ (.slice Ao9 t727.length co9 : Value).ownBlock ∧ some k_ ≠ (.slice Ao13 t735.length co13 : Value).ownBlock) ∧ some k_ ≠ (.slice Ao16 t739.length co16 : Value).ownBlock) ∧ some k_ ≠ (.slice Ao19 t743.length co19 : Value).ownBlock)) (n := t731.length) (c := co11) ?_).2.2; exact (rf HO733 BK748)); exact (Kd.R_reads' HO733.out).2.1; rintro e w37 ⟨rfl, hb⟩; replace HO726 := Aside0.mk (Kd.R_below (rf HO726 BK748) hb); replace HO729 := Aside0.mk (Kd.R_below (rf HO729 BK748) hb); replace HO733 := Aside0.mk (Kd.R_below (rf HO733 BK748) hb); replace HO737 := Aside0.mk (Kd.R_below (rf HO737 BK748) hb); replace HO741 := Aside0.mk (Kd.R_below (rf HO741 BK748) hb); replace HO745 := Aside0.mk (Kd.R_below (rf HO745 BK748) hb); replace BK738 := kc (kf BK738 NB738_748) hb; replace BK748 := kc (o := .cells #[.slice Ao16 t739.length co16, .int .i64 t742, .slice Ao19 t743.length co19, .int .i64 t746] 66 (0, 0)) (kp BK748) hb; replace HB := bs HB hb; (try clear hb)))
   go_meet
   case rel => exact ⟨_, (true), rS, H', ⟨oL⟩, ⟨rK HO726⟩, ⟨rm HO737 (fun _ hk => ⟨hk.1.1.1, ⟨hk.1.1.2, ⟨hk.1.2, hk.2⟩⟩⟩)⟩, ⟨rm HO729 (fun _ hk => ⟨hk.1.1.2, ⟨hk.1.1.1, ⟨hk.1.2, hk.2⟩⟩⟩)⟩, ⟨rm HO733 (fun _ hk => ⟨hk.1.1.2, ⟨hk.1.1.1, ⟨hk.1.2, hk.2⟩⟩⟩)⟩, ⟨rm HO741 (fun _ hk => ⟨hk.2, ⟨hk.1.1.2, ⟨hk.1.2, hk.1.1.1⟩⟩⟩)⟩, ⟨rm HO745 (fun _ hk => ⟨hk.2, ⟨hk.1.1.2, ⟨hk.1.2, hk.1.1.1⟩⟩⟩)⟩, ⟨bK BK738⟩, ⟨bK BK748⟩, ⟨bG⟩⟩
  replace c20 := Bool.eq_false_iff.mpr c20
  subst c20
  have H1 : ((impl_EqualControls.f k t727 t730 t731 t734 t739 t742 t743 t746).bind fun t751 => (laws_FnControls.j0 k l0 t724 t735 false (!t751) t739 t742 t743 t746)) = some r := by rw [if_neg (show ¬ (false = true) by decide)] at H; exact H
  clear H
  have H := H1
  clear H1
  obtain ⟨t751, A38, H⟩ := bindE H
  try dsimp only at H
  have H' := Aside0.mk H
  clear H
  have hnb39 := NB738_748.out
  have hnc39 := NB748_738.out
  obtain ⟨_, _, _, _, _, _, _, _⟩ := blkc4 BK738
  obtain ⟨_, _, _, _, _, _, _, _⟩ := blkc4 BK748
  go_wp2_with (first | (go_at_call 45; (with_reducible refine (impl_EqualControls.calls k _ _ t727 t730 _ _ t731 t734 _ _ t739 t742 _ _ t743 t746 t751 _ ?_ ?_ ?_ ?_ ?_ ?_ ?_ ?_ A38.out).mono ?_); (focus refine (Kd.R_reads' (e := 3) (base := w.heap.size) (ok := fun k_ => (((some k_ ≠ (.slice Ao11 t731.length co11 : Value).ownBlock ∧ some k_ ≠ (.slice Ao13 t735.length co13 : Value).ownBlock) ∧ some k_ ≠ (.slice Ao16 t739.length co16 : Value).ownBlock) ∧ some k_ ≠ (.slice Ao19 t743.length co19 : Value).ownBlock)) (n := t727.length) (c := co9) ?_).2.2; exact (rf HO729 BK748)); exact (Kd.R_reads' HO729.out).2.1; (focus refine (Kd.R_reads' (e := 3) (base := w.heap.size) (ok := fun k_ => (((some k_ ≠ (.slice Ao9 t727.length co9 : Value).ownBlock ∧ some k_ ≠ (.slice Ao13 t735.length co13 : Value).ownBlock) ∧ some k_ ≠ (.slice Ao16 t739.length co16 : Value).ownBlock) ∧ some k_ ≠ (.slice Ao19 t743.length co19 : Value).ownBlock)) (n := t731.length) (c := co11) ?_).2.2; exact (rf HO733 BK748)); exact (Kd.R_reads' HO733.out).2.1; (focus refine (Kd.R_reads' (e := 3) (base := w.heap.size) (ok := fun k_ => (((some k_ ≠ (.slice Ao19 t743.length co19 : Value).ownBlock ∧ some k_ ≠ (.slice Ao9 t727.length co9 : Value).ownBlock) ∧ some k_ ≠ (.slice Ao11 t731.length co11 : Value).ownBlock) ∧ some k_ ≠ (.slice Ao13 t735.length co13 : Value).ownBlock)) (n := t739.length) (c := co16) ?_).2.2; exact (rf HO741 BK748)); exact (Kd.R_reads' HO741.out).2.1; (focus refine (Kd.R_reads' (e := 3) (base := w.heap.size) (ok := fun k_ => (((some k_ ≠ (.slice Ao16 t739.length co16 : Value).ownBlock ∧ some k_ ≠ (.slice Ao9 t727.length co9 : Value).ownBlock) ∧ some k_ ≠ (.slice Ao11 t731.length co11 : Value).ownBlock) ∧ some k_ ≠ (.slice Ao13 t735.length co13 : Value).ownBlock)) (n := t743.length) (c := co19) ?_).2.2; exact (rf HO745 BK748)); exact (Kd.R_reads' HO745.out).2.1; rintro e w42 ⟨rfl, hb⟩; replace HO726 := Aside0.mk (Kd.R_below (rf HO726 BK748) hb); replace HO729 := Aside0.mk (Kd.R_below (rf HO729 BK748) hb); replace HO733 := Aside0.mk (Kd.R_below (rf HO733 BK748) hb); replace HO737 := Aside0.mk (Kd.R_below (rf HO737 BK748) hb); replace HO741 := Aside0.mk (Kd.R_below (rf HO741 BK748) hb); replace HO745 := Aside0.mk (Kd.R_below (rf HO745 BK748) hb); replace BK738 := kc (kf BK738 NB738_748) hb; replace BK748 := kc (o := .cells #[.slice Ao16 t739.length co16, .int .i64 t742, .slice Ao19 t743.length co19, .int .i64 t746] 66 (0, 0)) (kp BK748) hb; replace HB := bs HB hb; (try clear hb)))
  go_meet
  case rel => exact ⟨_, (!t751), rS, H', ⟨oL⟩, ⟨rK HO726⟩, ⟨rm HO737 (fun _ hk => ⟨hk.1.1.1, ⟨hk.1.1.2, ⟨hk.1.2, hk.2⟩⟩⟩)⟩, ⟨rm HO729 (fun _ hk => ⟨hk.1.1.2, ⟨hk.1.1.1, ⟨hk.1.2, hk.2⟩⟩⟩)⟩, ⟨rm HO733 (fun _ hk => ⟨hk.1.1.2, ⟨hk.1.1.1, ⟨hk.1.2, hk.2⟩⟩⟩)⟩, ⟨rm HO741 (fun _ hk => ⟨hk.2, ⟨hk.1.1.2, ⟨hk.1.2, hk.1.1.1⟩⟩⟩)⟩, ⟨rm HO745 (fun _ hk => ⟨hk.2, ⟨hk.1.1.2, ⟨hk.1.2, hk.1.1.1⟩⟩⟩)⟩, ⟨bK BK738⟩, ⟨bK BK748⟩, ⟨bG⟩⟩
 case rest =>
  clear HC6
  obtain ⟨kq, x49_5, rfl, HA, HJ5, HO_3, HO_5, HO_739000, HO_739002, HO_749000, HO_749002, BK738, BK748, HB⟩ := hcut
  cases kq with
  | zero => exact absurd HA.out (by simp [laws_FnControls.j0])
  | succ kj5 =>
   have H := HA.out
   clear HA
   simp only [laws_FnControls.j0] at H
   have c43 := ifN' H
   replace H := ifT' H
   replace c43 := Bool.eq_false_iff.mpr c43
   subst c43
   have HC44 := Aside0.mk H
   clear H
   go_upto_if 50 with (fail)
   go_cut [] (fun wc => ∃ (kq : Nat) (x749000_43 : List Int) (x749001_43 : Int) (x749002_43 : List Int) (x749003_43 : Int) (u749000 : Value) (u749002 : Value), Aside0 (laws_FnControls.j2 kq l0 = some r) ∧ Aside0 (kq ≤ kj5) ∧ Aside0 (Kd.R (Kd.int .i64) 3 wc w.heap.size (n3 (.slice Ao11 t731.length co11) u749000 u749002) (.slice Ao9 t727.length co9) t727) ∧ Aside0 (Kd.R (Kd.int .i64) 3 wc w.heap.size (n3 (.slice Ao9 t727.length co9) u749000 u749002) (.slice Ao11 t731.length co11) t731) ∧ Aside0 (Kd.R (Kd.int .i64) 3 wc w.heap.size (n3 (.slice Ao9 t727.length co9) (.slice Ao11 t731.length co11) u749002) u749000 x749000_43) ∧ Aside0 (Kd.R (Kd.int .i64) 3 wc w.heap.size (n3 (.slice Ao9 t727.length co9) (.slice Ao11 t731.length co11) u749000) u749002 x749002_43) ∧ Aside0 (wc.heap[gb738]? = some (.cells #[(.slice Ao9 t727.length co9), .int .i64 t730, (.slice Ao11 t731.length co11), .int .i64 t734] 66 (0, 0))) ∧ Aside0 (wc.heap[gb748]? = some (.cells #[u749000, .int .i64 x749001_43, u749002, .int .i64 x749003_43] 66 (0, 0))) ∧ Aside0 (Below w.heap.size w wc))
   case first =>
    have H := HC44.out
    clear HC44
    by_cases c45 : t747 = true
    ·
     subst c45
     have H1 : (laws_FnControls.l0 kj5 l0 t724 t735 0 t739 t742 t743 t746) = some r := by rw [if_pos rfl] at H; exact H
     clear H
     have H := H1
     clear H1
     have H' := Aside0.mk H
     clear H
     go_wp2
     go_loopg [8] kj5 (fun kq v8 w' => ∃ (x8_2 : Int) (x749000_2 : List Int) (x749001_2 : Int) (x749002_2 : List Int) (x749003_2 : Int) (u749000 : Value) (u749002 : Value), v8 = .int .i64 x8_2 ∧ Aside0 (laws_FnControls.l0 kq l0 t724 t735 x8_2 x749000_2 x749001_2 x749002_2 x749003_2 = some r) ∧ Aside0 (kq ≤ kj5) ∧ Aside0 (Kd.R k50 50 w' w.heap.size (fun _ => True) (.slice Ao12 t724.length co12) t724) ∧ Aside0 (Kd.R (Kd.int .i64) 3 w' w.heap.size (n4 (.slice Ao9 t727.length co9) (.slice Ao11 t731.length co11) u749000 u749002) (.slice Ao13 t735.length co13) t735) ∧ Aside0 (Kd.R (Kd.int .i64) 3 w' w.heap.size (n4 (.slice Ao13 t735.length co13) (.slice Ao11 t731.length co11) u749000 u749002) (.slice Ao9 t727.length co9) t727) ∧ Aside0 (Kd.R (Kd.int .i64) 3 w' w.heap.size (n4 (.slice Ao13 t735.length co13) (.slice Ao9 t727.length co9) u749000 u749002) (.slice Ao11 t731.length co11) t731) ∧ Aside0 (Kd.R (Kd.int .i64) 3 w' w.heap.size (n4 (.slice Ao13 t735.length co13) (.slice Ao9 t727.length co9) (.slice Ao11 t731.length co11) u749002) u749000 x749000_2) ∧ Aside0 (Kd.R (Kd.int .i64) 3 w' w.heap.size (n4 (.slice Ao13 t735.length co13) (.slice Ao9 t727.length co9) (.slice Ao11 t731.length co11) u749000) u749002 x749002_2) ∧ Aside0 (w'.heap[gb738]? = some (.cells #[(.slice Ao9 t727.length co9), .int .i64 t730, (.slice Ao11 t731.length co11), .int .i64 t734] 66 (0, 0))) ∧ Aside0 (w'.heap[gb748]? = some (.cells #[u749000, .int .i64 x749001_2, u749002, .int .i64 x749003_2] 66 (0, 0))) ∧ Aside0 (Below w.heap.size w w'))
     case atStart => exact ⟨(0), (t739), (t742), (t743), (t746), (.slice Ao16 t739.length co16), (.slice Ao19 t743.length co19), rS, H', ⟨Nat.le_refl _⟩, ⟨rK HO_3⟩, ⟨rK HO_5⟩, ⟨rK HO_739000⟩, ⟨rK HO_739002⟩, ⟨rK HO_749000⟩, ⟨rK HO_749002⟩, ⟨bK BK738⟩, ⟨bK BK748⟩, ⟨bG⟩⟩
     case round =>
      clear H'
      obtain ⟨x8_2, x749000_2, x749001_2, x749002_2, x749003_2, u749000, u749002, rfl, HA, HK2, HO_3, HO_5, HO_739000, HO_739002, HO_749000, HO_749002, BK738, BK748, HB⟩ := hrel
      cases gk with
      | zero => exact absurd HA.out (by simp [laws_FnControls.l0])
      | succ k2 =>
       have H := HA.out
       clear HA
       simp only [laws_FnControls.l0] at H
       by_cases c46 : x8_2 < 6
       ·
        rw [if_pos c46] at H
        have c46b0 := decide_eq_true c46
        clear c46
        (first | rw [c46b0] | (simp only [i64_w, i32_w]; rw [c46b0]) | skip)
        by_cases c47 : (x749002_2.length : Int) > 0
        ·
         rw [if_pos c47] at H
         have c47b0 := decide_eq_true c47
         have c47b1 : decide (0 < x749002_2.length) = true := decide_eq_true (by omega)
         clear c47
         obtain ⟨⟨t752, t755, t756, t759⟩, A48, H⟩ := bindE H
         try dsimp only at H
         have H' := Aside0.mk H
         clear H
         have hnb49 := NB748_738.out
         have hnc49 := NB738_748.out
         obtain ⟨_, _, _, _, _, _, _, _⟩ := blkc4 BK748
         obtain ⟨Ao51, co51, eo51⟩ := Kd.R_slice HO_749002.out
         subst eo51
         obtain ⟨Ao52, co52, eo52⟩ := Kd.R_slice HO_749000.out
         subst eo52
         go_wp2_with (first | ((with_reducible refine gate_callee (f := 46) rfl ?_); refine gL (some 63) Try.func46 #[.slice Ao12 t724.length co12, .agg #[.slice Ao52 x749000_2.length co52, .int .i64 x749001_2, .slice Ao51 x749002_2.length co51, .int .i64 x749003_2]] ?_; (with_reducible refine (impl_TickControl.calls k2 _ _ t724 _ _ x749000_2 x749001_2 _ _ x749002_2 x749003_2 t752 t755 t756 t759 _ ?_ ?_ ?_ ?_ ?_ ?_ A48.out).mono ?_); exact cO ⟨(Kd.R_reads' HO_3.out).2.2⟩; exact (Kd.R_reads' HO_3.out).2.1; exact cO ⟨(Kd.R_reads' HO_749000.out).2.2⟩; exact (Kd.R_reads' HO_749000.out).2.1; exact cO ⟨(Kd.R_reads' HO_749002.out).2.2⟩; exact (Kd.R_reads' HO_749002.out).2.1; rintro e w53 ⟨v753, v757, rfl, ho0, ho1, hb⟩; refine ⟨_, rfl, ?_⟩; replace HO_3 := rb HO_3 hb; have HO754 := rl w (rn (rn (rn (rn (rn ho0 HO_5) HO_739000) HO_739002) HO_749000) HO_749002); have HO758 := rl w (rn (rn (rn (rn (rn ho1 HO_5) HO_739000) HO_739002) HO_749000) HO_749002); replace HO_5 := rt2 HO_5 hb ho0 ho1; replace HO_739000 := rt2 HO_739000 hb ho0 ho1; replace HO_739002 := rt2 HO_739002 hb ho0 ho1; replace HO_749000 := rt2 HO_749000 hb ho0 ho1; replace HO_749002 := rt2 HO_749002 hb ho0 ho1; replace BK738 := kb BK738 hb; replace BK748 := kb BK748 hb; replace HB := bs HB hb; (try clear hb); (try clear ho0); (try clear ho1); obtain ⟨Ao54, co54, eo54⟩ := Kd.R_slice HO754.out; subst eo54; obtain ⟨_, _, _, _, _, _, _, _⟩ := blkc4 BK748; obtain ⟨Ao56, co56, eo56⟩ := Kd.R_slice HO758.out; subst eo56))
         go_roundg k2
         case measure => have := HJ5.out; have := HK2.out; omega
         case rel => exact ⟨(wrap64 (x8_2 + 1)), (t752), (t755), (t756), (t759), (.slice Ao54 t752.length co54), (.slice Ao56 t756.length co56), rS, H', ⟨by have := HJ5.out; have := HK2.out; omega⟩, ⟨Kd.R_mono (rf HO_3 BK748) (fun _ hk => trivial)⟩, ⟨Kd.R_mono (rf HO_5 BK748) (fun _ hk => ⟨hk.1.1.1, ⟨hk.1.1.2.1, ⟨hk.1.2, hk.2⟩⟩⟩)⟩, ⟨Kd.R_mono (rf HO_739000 BK748) (fun _ hk => ⟨hk.1.1.1, ⟨hk.1.1.2.1, ⟨hk.1.2, hk.2⟩⟩⟩)⟩, ⟨Kd.R_mono (rf HO_739002 BK748) (fun _ hk => ⟨hk.1.1.1, ⟨hk.1.1.2.1, ⟨hk.1.2, hk.2⟩⟩⟩)⟩, ⟨Kd.R_mono (rf HO754 BK748) (fun _ hk => ⟨hk.1.1.1.1.2, ⟨hk.1.1.1.2, ⟨hk.1.1.2, hk.1.1.1.1.1⟩⟩⟩)⟩, ⟨Kd.R_mono (rf HO758 BK748) (fun _ hk => ⟨hk.1.1.1.1.2, ⟨hk.1.1.1.2, ⟨hk.1.1.2, hk.1.1.1.1.1⟩⟩⟩)⟩, ⟨kf BK738 NB738_748⟩, ⟨kp BK748⟩, ⟨bG⟩⟩
        rw [if_neg c47] at H
        have c47b0 := decide_eq_false c47
        have c47b1 : decide (0 < x749002_2.length) = false := decide_eq_false (by omega)
        clear c47
        obtain ⟨t760, A57, H⟩ := bindE H
        try dsimp only at H
        have c58 := ifN H
        replace H := ifT H
        subst c58
        have c59 : x749001_2 = 0 := ifN H
        replace H := ifT H
        have c59b0 : (x749001_2 == 0) = true := beq_iff_eq.mpr c59
        have c59b1 : (x749001_2 != 0) = false := bne_eq_false_iff_eq.mpr c59
        clear c59
        have H' := Aside0.mk H
        clear H
        have hnb60 := NB748_738.out
        have hnc60 := NB738_748.out
        obtain ⟨_, _, _, _, _, _, _, _⟩ := blkc4 BK748
        obtain ⟨Ao62, co62, eo62⟩ := Kd.R_slice HO_749002.out
        subst eo62
        obtain ⟨Ao63, co63, eo63⟩ := Kd.R_slice HO_749000.out
        subst eo63
        go_wp2_with (first | ((with_reducible refine gate_callee (f := 47) rfl ?_); refine gL (some 67) Try.func47 #[.slice Ao63 x749000_2.length co63, .slice Ao13 t735.length co13] ?_; (with_reducible refine (laws_sameInts.calls k2 _ _ x749000_2 _ _ t735 true _ ?_ ?_ ?_ ?_ A57.out).mono ?_); exact cO ⟨(Kd.R_reads' HO_749000.out).2.2⟩; exact (Kd.R_reads' HO_749000.out).2.1; exact cO ⟨(Kd.R_reads' HO_5.out).2.2⟩; exact (Kd.R_reads' HO_5.out).2.1; rintro e w' ⟨rfl, ⟨nd, rfl⟩⟩; refine ⟨_, rfl, ?_⟩))
        go_meet
        case rel => exact ⟨_, (x749000_2), (x749001_2), (x749002_2), (x749003_2), (.slice Ao63 x749000_2.length co63), (.slice Ao62 x749002_2.length co62), H', ⟨by have := HJ5.out; have := HK2.out; first | omega | exact Nat.le_refl _⟩, ⟨rm HO_739000 (fun _ hk => ⟨hk.2.1, ⟨hk.2.2.1, hk.2.2.2⟩⟩)⟩, ⟨rm HO_739002 (fun _ hk => ⟨hk.2.1, ⟨hk.2.2.1, hk.2.2.2⟩⟩)⟩, ⟨rm HO_749000 (fun _ hk => ⟨hk.2.1, ⟨hk.2.2.1, hk.2.2.2⟩⟩)⟩, ⟨rm HO_749002 (fun _ hk => ⟨hk.2.1, ⟨hk.2.2.1, hk.2.2.2⟩⟩)⟩, ⟨bK BK738⟩, ⟨bK BK748⟩, ⟨bG⟩⟩
       rw [if_neg c46] at H
       have c46b0 := decide_eq_false c46
       clear c46
       (first | rw [c46b0] | (simp only [i64_w, i32_w]; rw [c46b0]) | skip)
       obtain ⟨t761, A64, H⟩ := bindE H
       try dsimp only at H
       have c65 := ifN H
       replace H := ifT H
       subst c65
       have c66 : x749001_2 = 0 := ifN H
       replace H := ifT H
       have c66b0 : (x749001_2 == 0) = true := beq_iff_eq.mpr c66
       have c66b1 : (x749001_2 != 0) = false := bne_eq_false_iff_eq.mpr c66
       clear c66
       have c67 : ¬ ((x749002_2.length : Int) > 0) := ifN' H
       replace H := ifT' H
       have c67b0 := decide_eq_false c67
       have c67b1 : decide (0 < x749002_2.length) = false := decide_eq_false (by omega)
       clear c67
       have H' := Aside0.mk H
       clear H
       have hnb68 := NB748_738.out
       have hnc68 := NB738_748.out
       obtain ⟨_, _, _, _, _, _, _, _⟩ := blkc4 BK748
       obtain ⟨Ao70, co70, eo70⟩ := Kd.R_slice HO_749000.out
       subst eo70
       go_wp2_with (first | ((with_reducible refine gate_callee (f := 47) rfl ?_); refine gL (some 67) Try.func47 #[.slice Ao70 x749000_2.length co70, .slice Ao13 t735.length co13] ?_; (with_reducible refine (laws_sameInts.calls k2 _ _ x749000_2 _ _ t735 true _ ?_ ?_ ?_ ?_ A64.out).mono ?_); exact cO ⟨(Kd.R_reads' HO_749000.out).2.2⟩; exact (Kd.R_reads' HO_749000.out).2.1; exact cO ⟨(Kd.R_reads' HO_5.out).2.2⟩; exact (Kd.R_reads' HO_5.out).2.1; rintro e w' ⟨rfl, ⟨nd, rfl⟩⟩; refine ⟨_, rfl, ?_⟩; obtain ⟨Ao71, co71, eo71⟩ := Kd.R_slice HO_749002.out; subst eo71))
       go_meet
       case rel => exact ⟨_, (x749000_2), (x749001_2), (x749002_2), (x749003_2), (.slice Ao70 x749000_2.length co70), (.slice Ao71 x749002_2.length co71), H', ⟨by have := HJ5.out; have := HK2.out; first | omega | exact Nat.le_refl _⟩, ⟨rm HO_739000 (fun _ hk => ⟨hk.2.1, ⟨hk.2.2.1, hk.2.2.2⟩⟩)⟩, ⟨rm HO_739002 (fun _ hk => ⟨hk.2.1, ⟨hk.2.2.1, hk.2.2.2⟩⟩)⟩, ⟨rm HO_749000 (fun _ hk => ⟨hk.2.1, ⟨hk.2.2.1, hk.2.2.2⟩⟩)⟩, ⟨rm HO_749002 (fun _ hk => ⟨hk.2.1, ⟨hk.2.2.1, hk.2.2.2⟩⟩)⟩, ⟨bK BK738⟩, ⟨bK BK748⟩, ⟨bG⟩⟩
    replace c45 := Bool.eq_false_iff.mpr c45
    subst c45
    have H1 : (laws_FnControls.j2 kj5 l0) = some r := by rw [if_neg (show ¬ (false = true) by decide)] at H; exact H
    clear H
    have H := H1
    clear H1
    have H' := Aside0.mk H
    clear H
    go_wp2
    go_meet
    case rel => exact ⟨_, (t739), (t742), (t743), (t746), (.slice Ao16 t739.length co16), (.slice Ao19 t743.length co19), H', ⟨by have := HJ5.out; first | omega | exact Nat.le_refl _⟩, ⟨rm HO_739000 (fun _ hk => ⟨hk.2.1, ⟨hk.2.2.1, hk.2.2.2⟩⟩)⟩, ⟨rm HO_739002 (fun _ hk => ⟨hk.2.1, ⟨hk.2.2.1, hk.2.2.2⟩⟩)⟩, ⟨rm HO_749000 (fun _ hk => ⟨hk.2.1, ⟨hk.2.2.1, hk.2.2.2⟩⟩)⟩, ⟨rm HO_749002 (fun _ hk => ⟨hk.2.1, ⟨hk.2.2.1, hk.2.2.2⟩⟩)⟩, ⟨bK BK738⟩, ⟨bK BK748⟩, ⟨bG⟩⟩
   case rest =>
    clear HC44
    obtain ⟨kq, x749000_43, x749001_43, x749002_43, x749003_43, u749000, u749002, HA, HJ43, HO_739000, HO_739002, HO_749000, HO_749002, BK738, BK748, HB⟩ := hcut
    cases kq with
    | zero => exact absurd HA.out (by simp [laws_FnControls.j2])
    | succ kj43 =>
     have H := HA.out
     clear HA
     simp only [laws_FnControls.j2] at H
     obtain ⟨⟨t762, t765, t768, t769, t772⟩, A72, H⟩ := bindE H
     try dsimp only at H
     obtain ⟨⟨t774, t777, t778, t781⟩, A73, H⟩ := bindE H
     try dsimp only at H
     obtain ⟨t783, A74, H⟩ := bindE H
     try dsimp only at H
     by_cases c75 : t783 = true
     ·
      subst c75
      have H1 : ((impl_IsControl.f kj43 t762 t774 t777 t778 t781).bind fun t784 => (if t784 = true then ((impl_LightsOf.f kj43 t762 t765 t768 t769 t772).bind fun t785 => ((impl_IsSafeLights.f kj43 t762 t785).bind fun t788 => (if t788 = true then ((impl_LightsOf.f kj43 t762 t774 t777 t778 t781).bind fun t789 => ((impl_IsSafeLights.f kj43 t762 t789).bind fun t792 => (some t792))) else (none)))) else (none))) = some r := by rw [if_pos rfl] at H; exact H
      clear H
      have H := H1
      clear H1
      obtain ⟨t784, A76, H⟩ := bindE H
      try dsimp only at H
      have c77 := ifN H
      replace H := ifT H
      subst c77
      obtain ⟨t785, A78, H⟩ := bindE H
      try dsimp only at H
      obtain ⟨t788, A79, H⟩ := bindE H
      try dsimp only at H
      have c80 := ifN H
      replace H := ifT H
      subst c80
      obtain ⟨t789, A81, H⟩ := bindE H
      try dsimp only at H
      obtain ⟨t792, A82, H⟩ := bindE H
      try dsimp only at H
      obtain rfl := Option.some.inj H
      go_wp2_with (first | ((with_reducible refine gate_callee (f := 48) rfl ?_); refine gL (some 82) Try.func48 #[.slice A0 l0.length c0] ?_; (with_reducible refine (spec_DrawTickControl.calls kj43 _ _ l0 t762 t765 t768 t769 t772 _ ?_ ?_ A72.out).mono ?_); exact cB HR0; exact HC0.out; rintro e w83 ⟨v763, v766, v770, rfl, ho0, ho1, ho2, hb⟩; refine ⟨_, rfl, ?_⟩; have HO764 := rl w ho0; have HO767 := rl w (rn (rn (rn (rn ho1 HO_739000) HO_739002) HO_749000) HO_749002); have HO771 := rl w (rn (rn (rn (rn ho2 HO_739000) HO_739002) HO_749000) HO_749002); replace HO_739000 := rt2 HO_739000 hb ho1 ho2; replace HO_739002 := rt2 HO_739002 hb ho1 ho2; replace HO_749000 := rt2 HO_749000 hb ho1 ho2; replace HO_749002 := rt2 HO_749002 hb ho1 ho2; replace BK738 := kb BK738 hb; replace BK748 := kb BK748 hb; replace HB := bs HB hb; (try clear hb); (try clear ho0); (try clear ho1); (try clear ho2)) | ((with_reducible refine gate_dst (N := 10) rfl ?_); (try (refine gate_guard (by rfl) ?_; dsimp only)); refine bE (N := 10) (cs := #[.slice none 0 0, .int .i64 0, .slice none 0 0, .int .i64 0]) (t := 66) ?_; intro gb773 hg w84 hbox hb; replace HO_739000 := rb HO_739000 hb; replace HO_739002 := rb HO_739002 hb; replace HO_749000 := rb HO_749000 hb; replace HO_749002 := rb HO_749002 hb; replace HO764 := rb HO764 hb; replace HO767 := rb HO767 hb; replace HO771 := rb HO771 hb; have BK773 := Aside0.mk (hbox); have GW773 := gw w hg; have GE773 := gw w hg; replace HB := bs HB hb; have NB738_773 := nl BK738 hg; have NB773_738 := nr BK738 hg; replace BK738 := kb BK738 hb; have NB748_773 := nl BK748 hg; have NB773_748 := nr BK748 hg; replace BK748 := kb BK748 hb; clear hb hbox hg; obtain ⟨Ao85, co85, eo85⟩ := Kd.R_slice HO767.out; subst eo85; have hnb86 := NB773_738.out; have hnc86 := NB738_773.out; have hnb87 := NB773_748.out; have hnc87 := NB748_773.out; obtain ⟨_, _, _, _, _, _, _, _⟩ := blkc4 BK773; obtain ⟨Ao89, co89, eo89⟩ := Kd.R_slice HO771.out; subst eo89; obtain ⟨Ao90, co90, eo90⟩ := Kd.R_slice HO764.out; subst eo90) | ((with_reducible refine gate_callee (f := 46) rfl ?_); refine gL (some 87) Try.func46 #[.slice Ao90 t762.length co90, .agg #[.slice Ao85 t765.length co85, .int .i64 t768, .slice Ao89 t769.length co89, .int .i64 t772]] ?_; (with_reducible refine (impl_TickControl.calls kj43 _ _ t762 _ _ t765 t768 _ _ t769 t772 t774 t777 t778 t781 _ ?_ ?_ ?_ ?_ ?_ ?_ A73.out).mono ?_); (focus refine (Kd.R_reads' (e := 50) (base := w.heap.size) (ok := fun k_ => True) (n := t762.length) (c := co90) ?_).2.2; exact (rf HO764 BK773)); exact (Kd.R_reads' HO764.out).2.1; (focus refine (Kd.R_reads' (e := 3) (base := w.heap.size) (ok := fun k_ => ((((some k_ ≠ (.slice Ao89 t769.length co89 : Value).ownBlock ∧ some k_ ≠ (.slice Ao9 t727.length co9 : Value).ownBlock) ∧ some k_ ≠ (.slice Ao11 t731.length co11 : Value).ownBlock) ∧ some k_ ≠ (u749000 : Value).ownBlock) ∧ some k_ ≠ (u749002 : Value).ownBlock)) (n := t765.length) (c := co85) ?_).2.2; exact (rf HO767 BK773)); exact (Kd.R_reads' HO767.out).2.1; (focus refine (Kd.R_reads' (e := 3) (base := w.heap.size) (ok := fun k_ => ((((some k_ ≠ (.slice Ao85 t765.length co85 : Value).ownBlock ∧ some k_ ≠ (.slice Ao9 t727.length co9 : Value).ownBlock) ∧ some k_ ≠ (.slice Ao11 t731.length co11 : Value).ownBlock) ∧ some k_ ≠ (u749000 : Value).ownBlock) ∧ some k_ ≠ (u749002 : Value).ownBlock)) (n := t769.length) (c := co89) ?_).2.2; exact (rf HO771 BK773)); exact (Kd.R_reads' HO771.out).2.1; rintro e w91 ⟨v775, v779, rfl, ho0, ho1, hb⟩; refine ⟨_, rfl, ?_⟩; replace HO764 := Aside0.mk (Kd.R_below (rf HO764 BK773) hb); have HO776 := rl w (Kd.R_new' (Kd.R_new' (Kd.R_new' (Kd.R_new' (Kd.R_new' (Kd.R_new' ho0 (Kd.R_lt (rf HO_739000 BK773))) (Kd.R_lt (rf HO_739002 BK773))) (Kd.R_lt (rf HO_749000 BK773))) (Kd.R_lt (rf HO_749002 BK773))) (Kd.R_lt (rf HO767 BK773))) (Kd.R_lt (rf HO771 BK773))); have HO780 := rl w (Kd.R_new' (Kd.R_new' (Kd.R_new' (Kd.R_new' (Kd.R_new' (Kd.R_new' ho1 (Kd.R_lt (rf HO_739000 BK773))) (Kd.R_lt (rf HO_739002 BK773))) (Kd.R_lt (rf HO_749000 BK773))) (Kd.R_lt (rf HO_749002 BK773))) (Kd.R_lt (rf HO767 BK773))) (Kd.R_lt (rf HO771 BK773))); replace HO_739000 := Aside0.mk (Kd.R_mono (Kd.R_told (Kd.R_told (Kd.R_old (rf HO_739000 BK773) hb) (Kd.R_base ho0)) (Kd.R_base ho1)) (fun _ h_ => h_.1)); replace HO_739002 := Aside0.mk (Kd.R_mono (Kd.R_told (Kd.R_told (Kd.R_old (rf HO_739002 BK773) hb) (Kd.R_base ho0)) (Kd.R_base ho1)) (fun _ h_ => h_.1)); replace HO_749000 := Aside0.mk (Kd.R_mono (Kd.R_told (Kd.R_told (Kd.R_old (rf HO_749000 BK773) hb) (Kd.R_base ho0)) (Kd.R_base ho1)) (fun _ h_ => h_.1)); replace HO_749002 := Aside0.mk (Kd.R_mono (Kd.R_told (Kd.R_told (Kd.R_old (rf HO_749002 BK773) hb) (Kd.R_base ho0)) (Kd.R_base ho1)) (fun _ h_ => h_.1)); replace HO767 := Aside0.mk (Kd.R_mono (Kd.R_told (Kd.R_told (Kd.R_old (rf HO767 BK773) hb) (Kd.R_base ho0)) (Kd.R_base ho1)) (fun _ h_ => h_.1)); replace HO771 := Aside0.mk (Kd.R_mono (Kd.R_told (Kd.R_told (Kd.R_old (rf HO771 BK773) hb) (Kd.R_base ho0)) (Kd.R_base ho1)) (fun _ h_ => h_.1)); replace BK738 := kc (kf BK738 NB738_773) hb; replace BK748 := kc (kf BK748 NB748_773) hb; replace BK773 := kc (o := .cells #[.slice Ao85 t765.length co85, .int .i64 t768, .slice Ao89 t769.length co89, .int .i64 t772] 66 (0, 0)) (kp BK773) hb; replace HB := bs HB hb; (try clear hb); (try clear ho0); (try clear ho1)) | ((with_reducible refine gate_dst (N := 11) rfl ?_); (try (refine gate_guard (by rfl) ?_; dsimp only)); refine bE (N := 11) (cs := #[.slice none 0 0, .int .i64 0, .slice none 0 0, .int .i64 0]) (t := 66) ?_; intro gb782 hg w92 hbox hb; replace HO_739000 := rb HO_739000 hb; replace HO_739002 := rb HO_739002 hb; replace HO_749000 := rb HO_749000 hb; replace HO_749002 := rb HO_749002 hb; replace HO764 := rb HO764 hb; replace HO767 := rb HO767 hb; replace HO771 := rb HO771 hb; replace HO776 := rb HO776 hb; replace HO780 := rb HO780 hb; have BK782 := Aside0.mk (hbox); have GW782 := gw w hg; have GE782 := gw w hg; replace HB := bs HB hb; have NB738_782 := nl BK738 hg; have NB782_738 := nr BK738 hg; replace BK738 := kb BK738 hb; have NB748_782 := nl BK748 hg; have NB782_748 := nr BK748 hg; replace BK748 := kb BK748 hb; have NB773_782 := nl BK773 hg; have NB782_773 := nr BK773 hg; replace BK773 := kb BK773 hb; clear hb hbox hg; obtain ⟨Ao93, co93, eo93⟩ := Kd.R_slice HO776.out; subst eo93; have hnb94 := NB782_738.out; have hnc94 := NB738_782.out; have hnb95 := NB782_748.out; have hnc95 := NB748_782.out; have hnb96 := NB782_773.out; have hnc96 := NB773_782.out; obtain ⟨_, _, _, _, _, _, _, _⟩ := blkc4 BK782; obtain ⟨Ao98, co98, eo98⟩ := Kd.R_slice HO780.out; subst eo98; obtain ⟨_, _, _, _, _, _, _, _⟩ := blkc4 BK773) | ((with_reducible refine gate_callee (f := 44) rfl ?_); refine gL (some 90) Try.func44 #[.slice Ao90 t762.length co90, .agg #[.slice Ao85 t765.length co85, .int .i64 t768, .slice Ao89 t769.length co89, .int .i64 t772]] ?_; (with_reducible refine (impl_IsControl.calls kj43 _ _ t762 _ _ t765 t768 _ _ t769 t772 true _ ?_ ?_ ?_ ?_ ?_ ?_ A74.out).mono ?_); (focus refine (Kd.R_reads' (e := 50) (base := w.heap.size) (ok := fun k_ => True) (n := t762.length) (c := co90) ?_).2.2; exact (rf HO764 BK782)); exact (Kd.R_reads' HO764.out).2.1; (focus refine (Kd.R_reads' (e := 3) (base := w.heap.size) (ok := fun k_ => ((((((some k_ ≠ (.slice Ao89 t769.length co89 : Value).ownBlock ∧ some k_ ≠ (.slice Ao9 t727.length co9 : Value).ownBlock) ∧ some k_ ≠ (.slice Ao11 t731.length co11 : Value).ownBlock) ∧ some k_ ≠ (u749000 : Value).ownBlock) ∧ some k_ ≠ (u749002 : Value).ownBlock) ∧ some k_ ≠ (.slice Ao93 t774.length co93 : Value).ownBlock) ∧ some k_ ≠ (.slice Ao98 t778.length co98 : Value).ownBlock)) (n := t765.length) (c := co85) ?_).2.2; exact (rf HO767 BK782)); exact (Kd.R_reads' HO767.out).2.1; (focus refine (Kd.R_reads' (e := 3) (base := w.heap.size) (ok := fun k_ => ((((((some k_ ≠ (.slice Ao85 t765.length co85 : Value).ownBlock ∧ some k_ ≠ (.slice Ao9 t727.length co9 : Value).ownBlock) ∧ some k_ ≠ (.slice Ao11 t731.length co11 : Value).ownBlock) ∧ some k_ ≠ (u749000 : Value).ownBlock) ∧ some k_ ≠ (u749002 : Value).ownBlock) ∧ some k_ ≠ (.slice Ao93 t774.length co93 : Value).ownBlock) ∧ some k_ ≠ (.slice Ao98 t778.length co98 : Value).ownBlock)) (n := t769.length) (c := co89) ?_).2.2; exact (rf HO771 BK782)); exact (Kd.R_reads' HO771.out).2.1; rintro e w100 ⟨rfl, hb⟩; refine ⟨_, rfl, ?_⟩; replace HO_739000 := Aside0.mk (Kd.R_below (rf HO_739000 BK782) hb); replace HO_739002 := Aside0.mk (Kd.R_below (rf HO_739002 BK782) hb); replace HO_749000 := Aside0.mk (Kd.R_below (rf HO_749000 BK782) hb); replace HO_749002 := Aside0.mk (Kd.R_below (rf HO_749002 BK782) hb); replace HO764 := Aside0.mk (Kd.R_below (rf HO764 BK782) hb); replace HO767 := Aside0.mk (Kd.R_below (rf HO767 BK782) hb); replace HO771 := Aside0.mk (Kd.R_below (rf HO771 BK782) hb); replace HO776 := Aside0.mk (Kd.R_below (rf HO776 BK782) hb); replace HO780 := Aside0.mk (Kd.R_below (rf HO780 BK782) hb); replace BK738 := kc (kf BK738 NB738_782) hb; replace BK748 := kc (kf BK748 NB748_782) hb; replace BK773 := kc (kf BK773 NB773_782) hb; replace BK782 := kc (o := .cells #[.slice Ao93 t774.length co93, .int .i64 t777, .slice Ao98 t778.length co98, .int .i64 t781] 66 (0, 0)) (kp BK782) hb; replace HB := bs HB hb; (try clear hb); obtain ⟨_, _, _, _, _, _, _, _⟩ := blkc4 BK782) | ((with_reducible refine gate_callee (f := 44) rfl ?_); refine gL (some 93) Try.func44 #[.slice Ao90 t762.length co90, .agg #[.slice Ao93 t774.length co93, .int .i64 t777, .slice Ao98 t778.length co98, .int .i64 t781]] ?_; (with_reducible refine (impl_IsControl.calls kj43 _ _ t762 _ _ t774 t777 _ _ t778 t781 true _ ?_ ?_ ?_ ?_ ?_ ?_ A76.out).mono ?_); exact cO ⟨(Kd.R_reads' HO764.out).2.2⟩; exact (Kd.R_reads' HO764.out).2.1; exact cO ⟨(Kd.R_reads' HO776.out).2.2⟩; exact (Kd.R_reads' HO776.out).2.1; exact cO ⟨(Kd.R_reads' HO780.out).2.2⟩; exact (Kd.R_reads' HO780.out).2.1; rintro e w102 ⟨rfl, hb⟩; refine ⟨_, rfl, ?_⟩; replace HO_739000 := rb HO_739000 hb; replace HO_739002 := rb HO_739002 hb; replace HO_749000 := rb HO_749000 hb; replace HO_749002 := rb HO_749002 hb; replace HO764 := rb HO764 hb; replace HO767 := rb HO767 hb; replace HO771 := rb HO771 hb; replace HO776 := rb HO776 hb; replace HO780 := rb HO780 hb; replace BK738 := kb BK738 hb; replace BK748 := kb BK748 hb; replace BK773 := kb BK773 hb; replace BK782 := kb BK782 hb; replace HB := bs HB hb; (try clear hb); obtain ⟨_, _, _, _, _, _, _, _⟩ := blkc4 BK773) | (go_at_call 50; (with_reducible refine (impl_LightsOf.calls kj43 _ _ t762 _ _ t765 t768 _ _ t769 t772 t785 _ ?_ ?_ ?_ ?_ ?_ ?_ A78.out).mono ?_); exact cO ⟨(Kd.R_reads' HO764.out).2.2⟩; exact (Kd.R_reads' HO764.out).2.1; exact cO ⟨(Kd.R_reads' HO767.out).2.2⟩; exact (Kd.R_reads' HO767.out).2.1; exact cO ⟨(Kd.R_reads' HO771.out).2.2⟩; exact (Kd.R_reads' HO771.out).2.1; rintro e w104 ⟨v786, rfl, ho0, hb⟩; replace HO764 := rb HO764 hb; have HO787 := rl w (rn (rn (rn (rn (rn (rn (rn (rn ho0 HO_739000) HO_739002) HO_749000) HO_749002) HO767) HO771) HO776) HO780); replace HO_739000 := re HO_739000 ho0 hb; replace HO_739002 := re HO_739002 ho0 hb; replace HO_749000 := re HO_749000 ho0 hb; replace HO_749002 := re HO_749002 ho0 hb; replace HO767 := re HO767 ho0 hb; replace HO771 := re HO771 ho0 hb; replace HO776 := re HO776 ho0 hb; replace HO780 := re HO780 ho0 hb; replace BK738 := kb BK738 hb; replace BK748 := kb BK748 hb; replace BK773 := kb BK773 hb; replace BK782 := kb BK782 hb; replace HB := bs HB hb; (try clear hb); (try clear ho0); obtain ⟨Ao105, co105, eo105⟩ := Kd.R_slice HO787.out; subst eo105) | (go_at_call 49; (with_reducible refine (impl_IsSafeLights.calls kj43 _ _ t762 _ _ t785 true _ ?_ ?_ ?_ ?_ A79.out).mono ?_); exact cO ⟨(Kd.R_reads' HO764.out).2.2⟩; exact (Kd.R_reads' HO764.out).2.1; exact cO ⟨(Kd.R_reads' HO787.out).2.2⟩; exact (Kd.R_reads' HO787.out).2.1; rintro e w106 ⟨rfl, hb⟩; replace HO_739000 := rb HO_739000 hb; replace HO_739002 := rb HO_739002 hb; replace HO_749000 := rb HO_749000 hb; replace HO_749002 := rb HO_749002 hb; replace HO764 := rb HO764 hb; replace HO767 := rb HO767 hb; replace HO771 := rb HO771 hb; replace HO776 := rb HO776 hb; replace HO780 := rb HO780 hb; replace HO787 := rb HO787 hb; replace BK738 := kb BK738 hb; replace BK748 := kb BK748 hb; replace BK773 := kb BK773 hb; replace BK782 := kb BK782 hb; replace HB := bs HB hb; (try clear hb); obtain ⟨_, _, _, _, _, _, _, _⟩ := blkc4 BK782) | (go_at_call 50; (with_reducible refine (impl_LightsOf.calls kj43 _ _ t762 _ _ t774 t777 _ _ t778 t781 t789 _ ?_ ?_ ?_ ?_ ?_ ?_ A81.out).mono ?_); exact cO ⟨(Kd.R_reads' HO764.out).2.2⟩; exact (Kd.R_reads' HO764.out).2.1; exact cO ⟨(Kd.R_reads' HO776.out).2.2⟩; exact (Kd.R_reads' HO776.out).2.1; exact cO ⟨(Kd.R_reads' HO780.out).2.2⟩; exact (Kd.R_reads' HO780.out).2.1; rintro e w108 ⟨v790, rfl, ho0, hb⟩; replace HO764 := rb HO764 hb; have HO791 := rl w (rn (rn (rn (rn (rn (rn (rn (rn (rn ho0 HO_739000) HO_739002) HO_749000) HO_749002) HO767) HO771) HO776) HO780) HO787); replace HO_739000 := re HO_739000 ho0 hb; replace HO_739002 := re HO_739002 ho0 hb; replace HO_749000 := re HO_749000 ho0 hb; replace HO_749002 := re HO_749002 ho0 hb; replace HO767 := re HO767 ho0 hb; replace HO771 := re HO771 ho0 hb; replace HO776 := re HO776 ho0 hb; replace HO780 := re HO780 ho0 hb; replace HO787 := re HO787 ho0 hb; replace BK738 := kb BK738 hb; replace BK748 := kb BK748 hb; replace BK773 := kb BK773 hb; replace BK782 := kb BK782 hb; replace HB := bs HB hb; (try clear hb); (try clear ho0); obtain ⟨Ao109, co109, eo109⟩ := Kd.R_slice HO791.out; subst eo109) | (go_at_call 49; (with_reducible refine (impl_IsSafeLights.calls kj43 _ _ t762 _ _ t789 t792 _ ?_ ?_ ?_ ?_ A82.out).mono ?_); exact cO ⟨(Kd.R_reads' HO764.out).2.2⟩; exact (Kd.R_reads' HO764.out).2.1; exact cO ⟨(Kd.R_reads' HO791.out).2.2⟩; exact (Kd.R_reads' HO791.out).2.1; rintro e w110 ⟨rfl, hb⟩; replace HO_739000 := rb HO_739000 hb; replace HO_739002 := rb HO_739002 hb; replace HO_749000 := rb HO_749000 hb; replace HO_749002 := rb HO_749002 hb; replace HO764 := rb HO764 hb; replace HO767 := rb HO767 hb; replace HO771 := rb HO771 hb; replace HO776 := rb HO776 hb; replace HO780 := rb HO780 hb; replace HO787 := rb HO787 hb; replace HO791 := rb HO791 hb; replace BK738 := kb BK738 hb; replace BK748 := kb BK748 hb; replace BK773 := kb BK773 hb; replace BK782 := kb BK782 hb; replace HB := bs HB hb; (try clear hb)))
      go_ret
      exact ⟨rA, bG⟩
     replace c75 := Bool.eq_false_iff.mpr c75
     subst c75
     have H1 : ((impl_EqualControls.f kj43 t765 t768 t769 t772 t774 t777 t778 t781).bind fun t793 => (if t793 = true then ((impl_LightsOf.f kj43 t762 t765 t768 t769 t772).bind fun t794 => (some ((t794.length : Int) == 0))) else (none))) = some r := by rw [if_neg (show ¬ (false = true) by decide)] at H; exact H
     clear H
     have H := H1
     clear H1
     obtain ⟨t793, A111, H⟩ := bindE H
     try dsimp only at H
     have c112 := ifN H
     replace H := ifT H
     subst c112
     obtain ⟨t794, A113, H⟩ := bindE H
     try dsimp only at H
     obtain rfl := Option.some.inj H
     go_wp2_with (first | ((with_reducible refine gate_callee (f := 48) rfl ?_); refine gL (some 82) Try.func48 #[.slice A0 l0.length c0] ?_; (with_reducible refine (spec_DrawTickControl.calls kj43 _ _ l0 t762 t765 t768 t769 t772 _ ?_ ?_ A72.out).mono ?_); exact cB HR0; exact HC0.out; rintro e w114 ⟨v763, v766, v770, rfl, ho0, ho1, ho2, hb⟩; refine ⟨_, rfl, ?_⟩; have HO764 := rl w ho0; have HO767 := rl w (rn (rn (rn (rn ho1 HO_739000) HO_739002) HO_749000) HO_749002); have HO771 := rl w (rn (rn (rn (rn ho2 HO_739000) HO_739002) HO_749000) HO_749002); replace HO_739000 := rt2 HO_739000 hb ho1 ho2; replace HO_739002 := rt2 HO_739002 hb ho1 ho2; replace HO_749000 := rt2 HO_749000 hb ho1 ho2; replace HO_749002 := rt2 HO_749002 hb ho1 ho2; replace BK738 := kb BK738 hb; replace BK748 := kb BK748 hb; replace HB := bs HB hb; (try clear hb); (try clear ho0); (try clear ho1); (try clear ho2)) | ((with_reducible refine gate_dst (N := 10) rfl ?_); (try (refine gate_guard (by rfl) ?_; dsimp only)); refine bE (N := 10) (cs := #[.slice none 0 0, .int .i64 0, .slice none 0 0, .int .i64 0]) (t := 66) ?_; intro gb773 hg w115 hbox hb; replace HO_739000 := rb HO_739000 hb; replace HO_739002 := rb HO_739002 hb; replace HO_749000 := rb HO_749000 hb; replace HO_749002 := rb HO_749002 hb; replace HO764 := rb HO764 hb; replace HO767 := rb HO767 hb; replace HO771 := rb HO771 hb; have BK773 := Aside0.mk (hbox); have GW773 := gw w hg; have GE773 := gw w hg; replace HB := bs HB hb; have NB738_773 := nl BK738 hg; have NB773_738 := nr BK738 hg; replace BK738 := kb BK738 hb; have NB748_773 := nl BK748 hg; have NB773_748 := nr BK748 hg; replace BK748 := kb BK748 hb; clear hb hbox hg; obtain ⟨Ao116, co116, eo116⟩ := Kd.R_slice HO767.out; subst eo116; have hnb117 := NB773_738.out; have hnc117 := NB738_773.out; have hnb118 := NB773_748.out; have hnc118 := NB748_773.out; obtain ⟨_, _, _, _, _, _, _, _⟩ := blkc4 BK773; obtain ⟨Ao120, co120, eo120⟩ := Kd.R_slice HO771.out; subst eo120; obtain ⟨Ao121, co121, eo121⟩ := Kd.R_slice HO764.out; subst eo121) | ((with_reducible refine gate_callee (f := 46) rfl ?_); refine gL (some 87) Try.func46 #[.slice Ao121 t762.length co121, .agg #[.slice Ao116 t765.length co116, .int .i64 t768, .slice Ao120 t769.length co120, .int .i64 t772]] ?_; (with_reducible refine (impl_TickControl.calls kj43 _ _ t762 _ _ t765 t768 _ _ t769 t772 t774 t777 t778 t781 _ ?_ ?_ ?_ ?_ ?_ ?_ A73.out).mono ?_); (focus refine (Kd.R_reads' (e := 50) (base := w.heap.size) (ok := fun k_ => True) (n := t762.length) (c := co121) ?_).2.2; exact (rf HO764 BK773)); exact (Kd.R_reads' HO764.out).2.1; (focus refine (Kd.R_reads' (e := 3) (base := w.heap.size) (ok := fun k_ => ((((some k_ ≠ (.slice Ao120 t769.length co120 : Value).ownBlock ∧ some k_ ≠ (.slice Ao9 t727.length co9 : Value).ownBlock) ∧ some k_ ≠ (.slice Ao11 t731.length co11 : Value).ownBlock) ∧ some k_ ≠ (u749000 : Value).ownBlock) ∧ some k_ ≠ (u749002 : Value).ownBlock)) (n := t765.length) (c := co116) ?_).2.2; exact (rf HO767 BK773)); exact (Kd.R_reads' HO767.out).2.1; (focus refine (Kd.R_reads' (e := 3) (base := w.heap.size) (ok := fun k_ => ((((some k_ ≠ (.slice Ao116 t765.length co116 : Value).ownBlock ∧ some k_ ≠ (.slice Ao9 t727.length co9 : Value).ownBlock) ∧ some k_ ≠ (.slice Ao11 t731.length co11 : Value).ownBlock) ∧ some k_ ≠ (u749000 : Value).ownBlock) ∧ some k_ ≠ (u749002 : Value).ownBlock)) (n := t769.length) (c := co120) ?_).2.2; exact (rf HO771 BK773)); exact (Kd.R_reads' HO771.out).2.1; rintro e w122 ⟨v775, v779, rfl, ho0, ho1, hb⟩; refine ⟨_, rfl, ?_⟩; replace HO764 := Aside0.mk (Kd.R_below (rf HO764 BK773) hb); have HO776 := rl w (Kd.R_new' (Kd.R_new' (Kd.R_new' (Kd.R_new' (Kd.R_new' (Kd.R_new' ho0 (Kd.R_lt (rf HO_739000 BK773))) (Kd.R_lt (rf HO_739002 BK773))) (Kd.R_lt (rf HO_749000 BK773))) (Kd.R_lt (rf HO_749002 BK773))) (Kd.R_lt (rf HO767 BK773))) (Kd.R_lt (rf HO771 BK773))); have HO780 := rl w (Kd.R_new' (Kd.R_new' (Kd.R_new' (Kd.R_new' (Kd.R_new' (Kd.R_new' ho1 (Kd.R_lt (rf HO_739000 BK773))) (Kd.R_lt (rf HO_739002 BK773))) (Kd.R_lt (rf HO_749000 BK773))) (Kd.R_lt (rf HO_749002 BK773))) (Kd.R_lt (rf HO767 BK773))) (Kd.R_lt (rf HO771 BK773))); replace HO_739000 := Aside0.mk (Kd.R_mono (Kd.R_told (Kd.R_told (Kd.R_old (rf HO_739000 BK773) hb) (Kd.R_base ho0)) (Kd.R_base ho1)) (fun _ h_ => h_.1)); replace HO_739002 := Aside0.mk (Kd.R_mono (Kd.R_told (Kd.R_told (Kd.R_old (rf HO_739002 BK773) hb) (Kd.R_base ho0)) (Kd.R_base ho1)) (fun _ h_ => h_.1)); replace HO_749000 := Aside0.mk (Kd.R_mono (Kd.R_told (Kd.R_told (Kd.R_old (rf HO_749000 BK773) hb) (Kd.R_base ho0)) (Kd.R_base ho1)) (fun _ h_ => h_.1)); replace HO_749002 := Aside0.mk (Kd.R_mono (Kd.R_told (Kd.R_told (Kd.R_old (rf HO_749002 BK773) hb) (Kd.R_base ho0)) (Kd.R_base ho1)) (fun _ h_ => h_.1)); replace HO767 := Aside0.mk (Kd.R_mono (Kd.R_told (Kd.R_told (Kd.R_old (rf HO767 BK773) hb) (Kd.R_base ho0)) (Kd.R_base ho1)) (fun _ h_ => h_.1)); replace HO771 := Aside0.mk (Kd.R_mono (Kd.R_told (Kd.R_told (Kd.R_old (rf HO771 BK773) hb) (Kd.R_base ho0)) (Kd.R_base ho1)) (fun _ h_ => h_.1)); replace BK738 := kc (kf BK738 NB738_773) hb; replace BK748 := kc (kf BK748 NB748_773) hb; replace BK773 := kc (o := .cells #[.slice Ao116 t765.length co116, .int .i64 t768, .slice Ao120 t769.length co120, .int .i64 t772] 66 (0, 0)) (kp BK773) hb; replace HB := bs HB hb; (try clear hb); (try clear ho0); (try clear ho1)) | ((with_reducible refine gate_dst (N := 11) rfl ?_); (try (refine gate_guard (by rfl) ?_; dsimp only)); refine bE (N := 11) (cs := #[.slice none 0 0, .int .i64 0, .slice none 0 0, .int .i64 0]) (t := 66) ?_; intro gb782 hg w123 hbox hb; replace HO_739000 := rb HO_739000 hb; replace HO_739002 := rb HO_739002 hb; replace HO_749000 := rb HO_749000 hb; replace HO_749002 := rb HO_749002 hb; replace HO764 := rb HO764 hb; replace HO767 := rb HO767 hb; replace HO771 := rb HO771 hb; replace HO776 := rb HO776 hb; replace HO780 := rb HO780 hb; have BK782 := Aside0.mk (hbox); have GW782 := gw w hg; have GE782 := gw w hg; replace HB := bs HB hb; have NB738_782 := nl BK738 hg; have NB782_738 := nr BK738 hg; replace BK738 := kb BK738 hb; have NB748_782 := nl BK748 hg; have NB782_748 := nr BK748 hg; replace BK748 := kb BK748 hb; have NB773_782 := nl BK773 hg; have NB782_773 := nr BK773 hg; replace BK773 := kb BK773 hb; clear hb hbox hg; obtain ⟨Ao124, co124, eo124⟩ := Kd.R_slice HO776.out; subst eo124; have hnb125 := NB782_738.out; have hnc125 := NB738_782.out; have hnb126 := NB782_748.out; have hnc126 := NB748_782.out; have hnb127 := NB782_773.out; have hnc127 := NB773_782.out; obtain ⟨_, _, _, _, _, _, _, _⟩ := blkc4 BK782; obtain ⟨Ao129, co129, eo129⟩ := Kd.R_slice HO780.out; subst eo129; obtain ⟨_, _, _, _, _, _, _, _⟩ := blkc4 BK773) | ((with_reducible refine gate_callee (f := 44) rfl ?_); refine gL (some 90) Try.func44 #[.slice Ao121 t762.length co121, .agg #[.slice Ao116 t765.length co116, .int .i64 t768, .slice Ao120 t769.length co120, .int .i64 t772]] ?_; (with_reducible refine (impl_IsControl.calls kj43 _ _ t762 _ _ t765 t768 _ _ t769 t772 false _ ?_ ?_ ?_ ?_ ?_ ?_ A74.out).mono ?_); (focus refine (Kd.R_reads' (e := 50) (base := w.heap.size) (ok := fun k_ => True) (n := t762.length) (c := co121) ?_).2.2; exact (rf HO764 BK782)); exact (Kd.R_reads' HO764.out).2.1; (focus refine (Kd.R_reads' (e := 3) (base := w.heap.size) (ok := fun k_ => ((((((some k_ ≠ (.slice Ao120 t769.length co120 : Value).ownBlock ∧ some k_ ≠ (.slice Ao9 t727.length co9 : Value).ownBlock) ∧ some k_ ≠ (.slice Ao11 t731.length co11 : Value).ownBlock) ∧ some k_ ≠ (u749000 : Value).ownBlock) ∧ some k_ ≠ (u749002 : Value).ownBlock) ∧ some k_ ≠ (.slice Ao124 t774.length co124 : Value).ownBlock) ∧ some k_ ≠ (.slice Ao129 t778.length co129 : Value).ownBlock)) (n := t765.length) (c := co116) ?_).2.2; exact (rf HO767 BK782)); exact (Kd.R_reads' HO767.out).2.1; (focus refine (Kd.R_reads' (e := 3) (base := w.heap.size) (ok := fun k_ => ((((((some k_ ≠ (.slice Ao116 t765.length co116 : Value).ownBlock ∧ some k_ ≠ (.slice Ao9 t727.length co9 : Value).ownBlock) ∧ some k_ ≠ (.slice Ao11 t731.length co11 : Value).ownBlock) ∧ some k_ ≠ (u749000 : Value).ownBlock) ∧ some k_ ≠ (u749002 : Value).ownBlock) ∧ some k_ ≠ (.slice Ao124 t774.length co124 : Value).ownBlock) ∧ some k_ ≠ (.slice Ao129 t778.length co129 : Value).ownBlock)) (n := t769.length) (c := co120) ?_).2.2; exact (rf HO771 BK782)); exact (Kd.R_reads' HO771.out).2.1; rintro e w131 ⟨rfl, hb⟩; refine ⟨_, rfl, ?_⟩; replace HO_739000 := Aside0.mk (Kd.R_below (rf HO_739000 BK782) hb); replace HO_739002 := Aside0.mk (Kd.R_below (rf HO_739002 BK782) hb); replace HO_749000 := Aside0.mk (Kd.R_below (rf HO_749000 BK782) hb); replace HO_749002 := Aside0.mk (Kd.R_below (rf HO_749002 BK782) hb); replace HO764 := Aside0.mk (Kd.R_below (rf HO764 BK782) hb); replace HO767 := Aside0.mk (Kd.R_below (rf HO767 BK782) hb); replace HO771 := Aside0.mk (Kd.R_below (rf HO771 BK782) hb); replace HO776 := Aside0.mk (Kd.R_below (rf HO776 BK782) hb); replace HO780 := Aside0.mk (Kd.R_below (rf HO780 BK782) hb); replace BK738 := kc (kf BK738 NB738_782) hb; replace BK748 := kc (kf BK748 NB748_782) hb; replace BK773 := kc (kf BK773 NB773_782) hb; replace BK782 := kc (o := .cells #[.slice Ao124 t774.length co124, .int .i64 t777, .slice Ao129 t778.length co129, .int .i64 t781] 66 (0, 0)) (kp BK782) hb; replace HB := bs HB hb; (try clear hb); obtain ⟨_, _, _, _, _, _, _, _⟩ := blkc4 BK773; obtain ⟨_, _, _, _, _, _, _, _⟩ := blkc4 BK782) | ((with_reducible refine gate_callee (f := 45) rfl ?_); refine gL (some 110) Try.func45 #[.agg #[.slice Ao116 t765.length co116, .int .i64 t768, .slice Ao120 t769.length co120, .int .i64 t772], .agg #[.slice Ao124 t774.length co124, .int .i64 t777, .slice Ao129 t778.length co129, .int .i64 t781]] ?_; (with_reducible refine (impl_EqualControls.calls kj43 _ _ t765 t768 _ _ t769 t772 _ _ t774 t777 _ _ t778 t781 true _ ?_ ?_ ?_ ?_ ?_ ?_ ?_ ?_ A111.out).mono ?_); exact cO ⟨(Kd.R_reads' HO767.out).2.2⟩; exact (Kd.R_reads' HO767.out).2.1; exact cO ⟨(Kd.R_reads' HO771.out).2.2⟩; exact (Kd.R_reads' HO771.out).2.1; exact cO ⟨(Kd.R_reads' HO776.out).2.2⟩; exact (Kd.R_reads' HO776.out).2.1; exact cO ⟨(Kd.R_reads' HO780.out).2.2⟩; exact (Kd.R_reads' HO780.out).2.1; rintro e w134 ⟨rfl, hb⟩; refine ⟨_, rfl, ?_⟩; replace HO_739000 := rb HO_739000 hb; replace HO_739002 := rb HO_739002 hb; replace HO_749000 := rb HO_749000 hb; replace HO_749002 := rb HO_749002 hb; replace HO764 := rb HO764 hb; replace HO767 := rb HO767 hb; replace HO771 := rb HO771 hb; replace HO776 := rb HO776 hb; replace HO780 := rb HO780 hb; replace BK738 := kb BK738 hb; replace BK748 := kb BK748 hb; replace BK773 := kb BK773 hb; replace BK782 := kb BK782 hb; replace HB := bs HB hb; (try clear hb); obtain ⟨_, _, _, _, _, _, _, _⟩ := blkc4 BK773) | (go_at_call 50; (with_reducible refine (impl_LightsOf.calls kj43 _ _ t762 _ _ t765 t768 _ _ t769 t772 t794 _ ?_ ?_ ?_ ?_ ?_ ?_ A113.out).mono ?_); exact cO ⟨(Kd.R_reads' HO764.out).2.2⟩; exact (Kd.R_reads' HO764.out).2.1; exact cO ⟨(Kd.R_reads' HO767.out).2.2⟩; exact (Kd.R_reads' HO767.out).2.1; exact cO ⟨(Kd.R_reads' HO771.out).2.2⟩; exact (Kd.R_reads' HO771.out).2.1; rintro e w136 ⟨v795, rfl, ho0, hb⟩; replace HO764 := rb HO764 hb; have HO796 := rl w (rn (rn (rn (rn (rn (rn (rn (rn ho0 HO_739000) HO_739002) HO_749000) HO_749002) HO767) HO771) HO776) HO780); replace HO_739000 := re HO_739000 ho0 hb; replace HO_739002 := re HO_739002 ho0 hb; replace HO_749000 := re HO_749000 ho0 hb; replace HO_749002 := re HO_749002 ho0 hb; replace HO767 := re HO767 ho0 hb; replace HO771 := re HO771 ho0 hb; replace HO776 := re HO776 ho0 hb; replace HO780 := re HO780 ho0 hb; replace BK738 := kb BK738 hb; replace BK748 := kb BK748 hb; replace BK773 := kb BK773 hb; replace BK782 := kb BK782 hb; replace HB := bs HB hb; (try clear hb); (try clear ho0); obtain ⟨Ao137, co137, eo137⟩ := Kd.R_slice HO796.out; subst eo137))
     go_ret
     exact ⟨rA, bG⟩

end Go.Proofs.Ytjgonpcajedkjaa.P
