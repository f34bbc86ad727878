/- Printed by myprint.py (wip/tools) over the kit's print: what Go's functions compute, and that they do. Lean checks it. -/
import Derived.Test.YtjgonpcajedkjaaF0
import Derived.Test.YtjgonpcajedkjaaFX00
import Derived.Test.YtjgonpcajedkjaaFX00b
namespace Go.Proofs.Ytjgonpcajedkjaa.P
open Go.RowKit Go.Proofs.YtjgonpcajedkjaaW.PrintWords Go.Proofs.YtjgonpcajedkjaaW.PrintLast Go.Proofs.YtjgonpcajedkjaaW.PrintMore Go.Proofs.Ytjgonpcajedkjaa.Sq
attribute [local go_sem] max2_int min2_int max_two min_two max_three min_three max_four min_four
set_option linter.unusedVariables false
set_option linter.unusedSimpArgs false

/-! ### impl_AddToStage: function 147 -/
def impl_AddToStage.l0 : Nat → List (S50) → List Int → List (S50) → Int → Int → Option (List Int)
 | 0, _, _, _, _, _ => none
 | k + 1, x0, x5, x16, x17, x18 => if x18 < x17 then (if 0 ≤ x18 then (if x18 < (x16.length : Int) then ((slices_Contains_int_int.f k x5 ((rd_T50 x16 x18).f0)).bind fun t357 => (if t357 = true then (impl_AddToStage.l0 k x0 x5 x16 x17 (wrap64 (x18 + 1))) else ((impl_inserted.f k x5 ((rd_T50 x16 x18).f0)).bind fun t358 => ((impl_IsTogether.f k x0 t358).bind fun t361 => (if t361 = true then (impl_AddToStage.l0 k x0 t358 x16 x17 (wrap64 (x18 + 1))) else (impl_AddToStage.l0 k x0 x5 x16 x17 (wrap64 (x18 + 1)))))))) else (none)) else (none)) else (some x5)
def impl_AddToStage.f (k : Nat) (l0 : List (S50)) (l1 : List Int) : Option (List Int) := (slices_Clone_int_int.f l1).bind fun t351 => ((impl_IsTogether.f k l0 l1).bind fun t354 => (if t354 = true then (impl_AddToStage.l0 k l0 t351 l0 (l0.length : Int) 0) else (some t351)))
theorem impl_AddToStage.mono_l : ∀ k, (∀ y0 y1 y2 y3 y4, LeO (impl_AddToStage.l0 k y0 y1 y2 y3 y4) (impl_AddToStage.l0 (k + 1) y0 y1 y2 y3 y4))
 | 0 => fun _ _ _ _ _ r h => by simp [impl_AddToStage.l0] at h
 | k + 1 => by
  have ih0 := impl_AddToStage.mono_l k
  ·
   intro y0 y1 y2 y3 y4
   unfold impl_AddToStage.l0
   exact mz4 ih0 impl_IsTogether.mono impl_inserted.mono slices_Contains_int_int.mono
theorem impl_AddToStage.mono : ∀ a0 a1 k, LeO (impl_AddToStage.f k a0 a1) (impl_AddToStage.f (k + 1) a0 a1) := by
 intro a0 a1 k
 have ih0 := impl_AddToStage.mono_l k
 unfold impl_AddToStage.f
 exact mz4 ih0 impl_IsTogether.mono impl_inserted.mono slices_Contains_int_int.mono
set_option maxHeartbeats 8000000 in
set_option maxRecDepth 100000 in
theorem impl_AddToStage.calls (k : Nat) (A0 : Option Addr) (c0 : Nat) (l0 : List (S50)) (A1 : Option Addr) (c1 : Nat) (l1 : List Int) (r : List Int) (w : World) (hr0 : Kd.C k50 w A0 l0.length l0) (hc0 : l0.length ≤ c0) (hr1 : Kd.C (Kd.int .i64) w A1 l1.length l1) (hc1 : l1.length ≤ c1) (h : impl_AddToStage.f k l0 l1 = some r) :
  Calls Try.prog 147 #[.slice A0 l0.length c0, .slice A1 l1.length c1] w fun e w' => ∃ v0_ : Value, e = .returned (v0_) ∧ Kd.R (Kd.int .i64) 3 w' w.heap.size (fun _ => True) v0_ r ∧ Below w.heap.size w w' := by
 have hu50 := Try.underlying50
 have HR0 := Aside0.mk hr0
 have HC0 := Aside0.mk hc0
 clear hr0 hc0
 have HR1 := Aside0.mk hr1
 have HC1 := Aside0.mk hc1
 clear hr1 hc1
 have HB := Aside0.mk (Below.refl w.heap.size w)
 have H : ((slices_Clone_int_int.f l1).bind fun t351 => ((impl_IsTogether.f k l0 l1).bind fun t354 => (if t354 = true then (impl_AddToStage.l0 k l0 t351 l0 (l0.length : Int) 0) else (some t351)))) = some r := h
 clear h
 obtain ⟨t351, A3, H⟩ := bindE H
 try dsimp only at H
 obtain ⟨t354, A4, H⟩ := bindE H
 try dsimp only at H
 by_cases c5 : t354 = true
 ·
  subst c5
  have H1 : (impl_AddToStage.l0 k l0 t351 l0 (l0.length : Int) 0) = some r := by rw [if_pos rfl] at H; exact H
  clear H
  have H := H1
  clear H1
  have H' := Aside0.mk H
  clear H
  go_enter Try.func147, Try.ntmps147
  go_wp2_with (first | ((with_reducible refine gate_callee (f := 100) rfl ?_); refine gL (some 10) Try.func100 #[.slice A1 l1.length c1] ?_; (with_reducible refine (slices_Clone_int_int.calls _ _ l1 t351 _ ?_ ?_ A3.out).mono ?_); exact cO HR1; exact HC1.out; rintro e w6 ⟨v352, rfl, ho0, hb⟩; refine ⟨_, rfl, ?_⟩; have HO353 := rl w ho0; replace HB := bs HB hb; (try clear hb); (try clear ho0)) | ((with_reducible refine gate_callee (f := 68) rfl ?_); refine gL (some 13) Try.func68 #[.slice A0 l0.length c0, .slice A1 l1.length c1] ?_; (with_reducible refine (impl_IsTogether.calls k _ _ l0 _ _ l1 true _ ?_ ?_ ?_ ?_ A4.out).mono ?_); exact cB HR0; exact HC0.out; exact cB HR1; exact HC1.out; rintro e w7 ⟨rfl, hb⟩; refine ⟨_, rfl, ?_⟩; replace HO353 := rb HO353 hb; replace HB := bs HB hb; (try clear hb)))
  go_loopg [5, 18] k (fun kq v5 v18 w' => ∃ (x5_1 : List Int) (x18_1 : Int), v18 = .int .i64 x18_1 ∧ Aside0 (impl_AddToStage.l0 kq l0 x5_1 l0 (l0.length : Int) x18_1 = some r) ∧ Aside0 (kq ≤ k) ∧ Aside0 (Kd.R (Kd.int .i64) 3 w' w.heap.size (fun _ => True) v5 x5_1) ∧ Aside0 (Below w.heap.size w w'))
  case atStart => exact ⟨(t351), (0), rS, H', ⟨Nat.le_refl _⟩, ⟨rK HO353⟩, ⟨bA⟩⟩
  case round =>
   clear H'
   obtain ⟨x5_1, x18_1, rfl, HA, HK1, HO_5, HB⟩ := hrel
   cases gk with
   | zero => exact absurd HA.out (by simp [impl_AddToStage.l0])
   | succ k1 =>
    have H := HA.out
    clear HA
    simp only [impl_AddToStage.l0] at H
    by_cases c8 : x18_1 < (l0.length : Int)
    ·
     rw [if_pos c8] at H
     have c8b0 := decide_eq_true c8
     clear c8
     have c9 : 0 ≤ x18_1 := ifN H
     replace H := ifT H
     have c9b0 := decide_eq_true c9
     clear c9
     have c10 : x18_1 < (l0.length : Int) := ifN H
     replace H := ifT H
     have c10b0 := decide_eq_true c10
     clear c10
     obtain ⟨t357, A11, H⟩ := bindE H
     try dsimp only at H
     by_cases c12 : t357 = true
     ·
      subst c12
      have H1 : (impl_AddToStage.l0 k1 l0 x5_1 l0 (l0.length : Int) (wrap64 (x18_1 + 1))) = some r := by rw [if_pos rfl] at H; exact H
      clear H
      have H := H1
      clear H1
      have H' := Aside0.mk H
      clear H
      obtain ⟨p355, q355⟩ : 0 ≤ (x18_1 : Int) ∧ x18_1 < (l0.length : Int) := ⟨dA, dA⟩
      obtain ⟨ad355, e355, hx355_0, hx355_1, hx355_2, hx355_3⟩ := at_T50 (Kd.C_below HR0.out HB.out) x18_1 p355 q355
      cases e355
      obtain ⟨p355, q355⟩ := eT p355 q355
      go_wp2_with (first | ((with_reducible refine gate_dst (N := 7) rfl ?_); refine bE (N := 7) (cs := #[.int .i64 0, .int .i64 0, .int .i64 0, .int .i64 0]) (t := 50) ?_; intro gb356 hg w13 hbox hb; replace HO_5 := rb HO_5 hb; have BK356 := Aside0.mk (hbox); have GW356 := gw w hg; have GE356 := gw w hg; replace HB := bs HB hb; clear hb hbox hg; obtain ⟨_, _, _, _, _, _, _, _⟩ := blkc4 BK356; obtain ⟨Ao15, co15, eo15⟩ := Kd.R_slice HO_5.out; subst eo15) | ((with_reducible refine gate_callee (f := 102) rfl ?_); refine gL (some 25) Try.func102 #[.slice Ao15 x5_1.length co15, .int .i64 ((rd_T50 l0 x18_1).f0)] ?_; (with_reducible refine (slices_Contains_int_int.calls k1 _ _ x5_1 ((rd_T50 l0 x18_1).f0) true _ ?_ ?_ A11.out).mono ?_); (focus refine (Kd.R_reads' (e := 3) (base := w.heap.size) (ok := fun k_ => True) (n := x5_1.length) (c := co15) ?_).2.2; exact (rf HO_5 BK356)); exact (Kd.R_reads' HO_5.out).2.1; rintro e w' ⟨rfl, ⟨nd, rfl⟩⟩; refine ⟨_, rfl, ?_⟩))
      go_roundg k1
      case measure => have := HK1.out; omega
      case rel => exact ⟨(x5_1), (wrap64 (x18_1 + 1)), rS, H', ⟨by have := HK1.out; omega⟩, ⟨Kd.R_mono (rf HO_5 BK356) (fun _ hk => trivial)⟩, ⟨bG⟩⟩
     replace c12 := Bool.eq_false_iff.mpr c12
     subst c12
     have H1 : ((impl_inserted.f k1 x5_1 ((rd_T50 l0 x18_1).f0)).bind fun t358 => ((impl_IsTogether.f k1 l0 t358).bind fun t361 => (if t361 = true then (impl_AddToStage.l0 k1 l0 t358 l0 (l0.length : Int) (wrap64 (x18_1 + 1))) else (impl_AddToStage.l0 k1 l0 x5_1 l0 (l0.length : Int) (wrap64 (x18_1 + 1)))))) = some r := by rw [if_neg (show ¬ (false = true) by decide)] at H; exact H
     clear H
     have H := H1
     clear H1
     obtain ⟨t358, A16, H⟩ := bindE H
     try dsimp only at H
     obtain ⟨t361, A17, H⟩ := bindE H
     try dsimp only at H
     by_cases c18 : t361 = true
     ·
      subst c18
      have H1 : (impl_AddToStage.l0 k1 l0 t358 l0 (l0.length : Int) (wrap64 (x18_1 + 1))) = some r := by rw [if_pos rfl] at H; exact H
      clear H
      have H := H1
      clear H1
      have H' := Aside0.mk H
      clear H
      obtain ⟨p355, q355⟩ : 0 ≤ (x18_1 : Int) ∧ x18_1 < (l0.length : Int) := ⟨dA, dA⟩
      obtain ⟨ad355, e355, hx355_0, hx355_1, hx355_2, hx355_3⟩ := at_T50 (Kd.C_below HR0.out HB.out) x18_1 p355 q355
      cases e355
      obtain ⟨p355, q355⟩ := eT p355 q355
      go_wp2_with (first | ((with_reducible refine gate_dst (N := 7) rfl ?_); refine bE (N := 7) (cs := #[.int .i64 0, .int .i64 0, .int .i64 0, .int .i64 0]) (t := 50) ?_; intro gb356 hg w19 hbox hb; replace HO_5 := rb HO_5 hb; have BK356 := Aside0.mk (hbox); have GW356 := gw w hg; have GE356 := gw w hg; replace HB := bs HB hb; clear hb hbox hg; obtain ⟨_, _, _, _, _, _, _, _⟩ := blkc4 BK356; obtain ⟨Ao21, co21, eo21⟩ := Kd.R_slice HO_5.out; subst eo21) | ((with_reducible refine gate_callee (f := 102) rfl ?_); refine gL (some 25) Try.func102 #[.slice Ao21 x5_1.length co21, .int .i64 ((rd_T50 l0 x18_1).f0)] ?_; (with_reducible refine (slices_Contains_int_int.calls k1 _ _ x5_1 ((rd_T50 l0 x18_1).f0) false _ ?_ ?_ A11.out).mono ?_); (focus refine (Kd.R_reads' (e := 3) (base := w.heap.size) (ok := fun k_ => True) (n := x5_1.length) (c := co21) ?_).2.2; exact (rf HO_5 BK356)); exact (Kd.R_reads' HO_5.out).2.1; rintro e w' ⟨rfl, ⟨nd, rfl⟩⟩; refine ⟨_, rfl, ?_⟩) | ((with_reducible refine gate_callee (f := 172) rfl ?_); refine gL (some 29) Try.func172 #[.slice Ao21 x5_1.length co21, .int .i64 ((rd_T50 l0 x18_1).f0)] ?_; (with_reducible refine (impl_inserted.calls k1 _ _ x5_1 ((rd_T50 l0 x18_1).f0) t358 _ ?_ ?_ A16.out).mono ?_); (focus refine (Kd.R_reads' (e := 3) (base := w.heap.size) (ok := fun k_ => True) (n := x5_1.length) (c := co21) ?_).2.2; exact (rf HO_5 BK356)); exact (Kd.R_reads' HO_5.out).2.1; rintro e w22 ⟨v359, rfl, ho0, hb⟩; refine ⟨_, rfl, ?_⟩; have HO360 := rl w (Kd.R_new' ho0 (Kd.R_lt (rf HO_5 BK356))); replace HO_5 := Aside0.mk (Kd.R_elder' (rf HO_5 BK356) (Kd.R_base ho0) hb); replace BK356 := kc (o := .cells #[.int .i64 ((rd_T50 l0 x18_1).f0), .int .i64 ((rd_T50 l0 x18_1).f1), .int .i64 ((rd_T50 l0 x18_1).f2), .int .i64 ((rd_T50 l0 x18_1).f3)] 50 (0, 0)) (kp BK356) hb; replace HB := bs HB hb; (try clear hb); (try clear ho0); obtain ⟨Ao23, co23, eo23⟩ := Kd.R_slice HO360.out; subst eo23) | ((with_reducible refine gate_callee (f := 68) rfl ?_); refine gL (some 32) Try.func68 #[.slice (some ad355) l0.length c0, .slice Ao23 t358.length co23] ?_; (with_reducible refine (impl_IsTogether.calls k1 _ _ l0 _ _ t358 true _ ?_ ?_ ?_ ?_ A17.out).mono ?_); exact cB HR0; exact HC0.out; exact cO ⟨(Kd.R_reads' HO360.out).2.2⟩; exact (Kd.R_reads' HO360.out).2.1; rintro e w24 ⟨rfl, hb⟩; refine ⟨_, rfl, ?_⟩; replace HO_5 := rb HO_5 hb; replace HO360 := rb HO360 hb; replace BK356 := kb BK356 hb; replace HB := bs HB hb; (try clear hb)))
      go_roundg k1
      case measure => have := HK1.out; omega
      case rel => exact ⟨(t358), (wrap64 (x18_1 + 1)), rS, H', ⟨by have := HK1.out; omega⟩, ⟨rm HO360 (fun _ hk => trivial)⟩, ⟨bG⟩⟩
     replace c18 := Bool.eq_false_iff.mpr c18
     subst c18
     have H1 : (impl_AddToStage.l0 k1 l0 x5_1 l0 (l0.length : Int) (wrap64 (x18_1 + 1))) = some r := by rw [if_neg (show ¬ (false = true) by decide)] at H; exact H
     clear H
     have H := H1
     clear H1
     have H' := Aside0.mk H
     clear H
     obtain ⟨p355, q355⟩ : 0 ≤ (x18_1 : Int) ∧ x18_1 < (l0.length : Int) := ⟨dA, dA⟩
     obtain ⟨ad355, e355, hx355_0, hx355_1, hx355_2, hx355_3⟩ := at_T50 (Kd.C_below HR0.out HB.out) x18_1 p355 q355
     cases e355
     obtain ⟨p355, q355⟩ := eT p355 q355
     go_wp2_with (first | ((with_reducible refine gate_dst (N := 7) rfl ?_); refine bE (N := 7) (cs := #[.int .i64 0, .int .i64 0, .int .i64 0, .int .i64 0]) (t := 50) ?_; intro gb356 hg w25 hbox hb; replace HO_5 := rb HO_5 hb; have BK356 := Aside0.mk (hbox); have GW356 := gw w hg; have GE356 := gw w hg; replace HB := bs HB hb; clear hb hbox hg; obtain ⟨_, _, _, _, _, _, _, _⟩ := blkc4 BK356; obtain ⟨Ao27, co27, eo27⟩ := Kd.R_slice HO_5.out; subst eo27) | ((with_reducible refine gate_callee (f := 102) rfl ?_); refine gL (some 25) Try.func102 #[.slice Ao27 x5_1.length co27, .int .i64 ((rd_T50 l0 x18_1).f0)] ?_; (with_reducible refine (slices_Contains_int_int.calls k1 _ _ x5_1 ((rd_T50 l0 x18_1).f0) false _ ?_ ?_ A11.out).mono ?_); (focus refine (Kd.R_reads' (e := 3) (base := w.heap.size) (ok := fun k_ => True) (n := x5_1.length) (c := co27) ?_).2.2; exact (rf HO_5 BK356)); exact (Kd.R_reads' HO_5.out).2.1; rintro e w' ⟨rfl, ⟨nd, rfl⟩⟩; refine ⟨_, rfl, ?_⟩) | ((with_reducible refine gate_callee (f := 172) rfl ?_); refine gL (some 29) Try.func172 #[.slice Ao27 x5_1.length co27, .int .i64 ((rd_T50 l0 x18_1).f0)] ?_; (with_reducible refine (impl_inserted.calls k1 _ _ x5_1 ((rd_T50 l0 x18_1).f0) t358 _ ?_ ?_ A16.out).mono ?_); (focus refine (Kd.R_reads' (e := 3) (base := w.heap.size) (ok := fun k_ => True) (n := x5_1.length) (c := co27) ?_).2.2; exact (rf HO_5 BK356)); exact (Kd.R_reads' HO_5.out).2.1; rintro e w28 ⟨v359, rfl, ho0, hb⟩; refine ⟨_, rfl, ?_⟩; have HO360 := rl w (Kd.R_new' ho0 (Kd.R_lt (rf HO_5 BK356))); replace HO_5 := Aside0.mk (Kd.R_elder' (rf HO_5 BK356) (Kd.R_base ho0) hb); replace BK356 := kc (o := .cells #[.int .i64 ((rd_T50 l0 x18_1).f0), .int .i64 ((rd_T50 l0 x18_1).f1), .int .i64 ((rd_T50 l0 x18_1).f2), .int .i64 ((rd_T50 l0 x18_1).f3)] 50 (0, 0)) (kp BK356) hb; replace HB := bs HB hb; (try clear hb); (try clear ho0); obtain ⟨Ao29, co29, eo29⟩ := Kd.R_slice HO360.out; subst eo29) | ((with_reducible refine gate_callee (f := 68) rfl ?_); refine gL (some 32) Try.func68 #[.slice (some ad355) l0.length c0, .slice Ao29 t358.length co29] ?_; (with_reducible refine (impl_IsTogether.calls k1 _ _ l0 _ _ t358 false _ ?_ ?_ ?_ ?_ A17.out).mono ?_); exact cB HR0; exact HC0.out; exact cO ⟨(Kd.R_reads' HO360.out).2.2⟩; exact (Kd.R_reads' HO360.out).2.1; rintro e w30 ⟨rfl, hb⟩; refine ⟨_, rfl, ?_⟩; replace HO_5 := rb HO_5 hb; replace HO360 := rb HO360 hb; replace BK356 := kb BK356 hb; replace HB := bs HB hb; (try clear hb)))
     go_roundg k1
     case measure => have := HK1.out; omega
     case rel => exact ⟨(x5_1), (wrap64 (x18_1 + 1)), rS, H', ⟨by have := HK1.out; omega⟩, ⟨rm HO_5 (fun _ hk => trivial)⟩, ⟨bG⟩⟩
    rw [if_neg c8] at H
    have c8b0 := decide_eq_false c8
    clear c8
    obtain rfl := Option.some.inj H
    go_wp2
    go_ret
    exact ⟨_, rA, rK HO_5, bA⟩
 replace c5 := Bool.eq_false_iff.mpr c5
 subst c5
 have H1 : (some t351) = some r := by rw [if_neg (show ¬ (false = true) by decide)] at H; exact H
 clear H
 have H := H1
 clear H1
 obtain rfl := Option.some.inj H
 go_enter Try.func147, Try.ntmps147
 go_wp2_with (first | ((with_reducible refine gate_callee (f := 100) rfl ?_); refine gL (some 10) Try.func100 #[.slice A1 l1.length c1] ?_; (with_reducible refine (slices_Clone_int_int.calls _ _ l1 t351 _ ?_ ?_ A3.out).mono ?_); exact cO HR1; exact HC1.out; rintro e w31 ⟨v352, rfl, ho0, hb⟩; refine ⟨_, rfl, ?_⟩; have HO353 := rl w ho0; replace HB := bs HB hb; (try clear hb); (try clear ho0)) | ((with_reducible refine gate_callee (f := 68) rfl ?_); refine gL (some 13) Try.func68 #[.slice A0 l0.length c0, .slice A1 l1.length c1] ?_; (with_reducible refine (impl_IsTogether.calls k _ _ l0 _ _ l1 false _ ?_ ?_ ?_ ?_ A4.out).mono ?_); exact cB HR0; exact HC0.out; exact cB HR1; exact HC1.out; rintro e w32 ⟨rfl, hb⟩; refine ⟨_, rfl, ?_⟩; replace HO353 := rb HO353 hb; replace HB := bs HB hb; (try clear hb)))
 go_ret
 exact ⟨_, rA, rK HO353, bA⟩

/-! ### impl_CoverOf: function 118 -/
def impl_CoverOf.l0 : Nat → List (S50) → List (List Int) → List (S50) → Int → Int → Option ((List (List Int)))
 | 0, _, _, _, _, _ => none
 | k + 1, x0, x3, x11, x12, x13 => if x13 < x12 then (if 0 ≤ x13 then (if x13 < (x11.length : Int) then ((impl_isCovered.f x3 ((rd_T50 x11 x13).f0)).bind fun t368 => (if t368 = true then (impl_CoverOf.l0 k x0 x3 x11 x12 (wrap64 (x13 + 1))) else ((impl_AddToStage.f k x0 (([(rd_T50 x11 x13).f0] : List Int))).bind fun t372 => (if x3.length < 5864062014805 then (impl_CoverOf.l0 k x0 (x3 ++ [t372]) x11 x12 (wrap64 (x13 + 1))) else (none))))) else (none)) else (none)) else (some x3)
def impl_CoverOf.f (k : Nat) (l0 : List (S50)) : Option ((List (List Int))) := (some (([] : List (List Int)) : List (List Int))).bind fun y362 => ((impl_ArePaths.f k l0).bind fun t365 => (if t365 = true then (impl_CoverOf.l0 k l0 y362 l0 (l0.length : Int) 0) else (some y362)))
theorem impl_CoverOf.mono_l : ∀ k, (∀ y0 y1 y2 y3 y4, LeO (impl_CoverOf.l0 k y0 y1 y2 y3 y4) (impl_CoverOf.l0 (k + 1) y0 y1 y2 y3 y4))
 | 0 => fun _ _ _ _ _ r h => by simp [impl_CoverOf.l0] at h
 | k + 1 => by
  have ih0 := impl_CoverOf.mono_l k
  ·
   intro y0 y1 y2 y3 y4
   unfold impl_CoverOf.l0
   exact mz3 ih0 impl_AddToStage.mono impl_ArePaths.mono
theorem impl_CoverOf.mono : ∀ a0 k, LeO (impl_CoverOf.f k a0) (impl_CoverOf.f (k + 1) a0) := by
 intro a0 k
 have ih0 := impl_CoverOf.mono_l k
 unfold impl_CoverOf.f
 exact mz3 ih0 impl_AddToStage.mono impl_ArePaths.mono
set_option maxHeartbeats 8000000 in
set_option maxRecDepth 100000 in
theorem impl_CoverOf.calls (k : Nat) (A0 : Option Addr) (c0 : Nat) (l0 : List (S50)) (r : List (List Int)) (w : World) (hr0 : Kd.C k50 w A0 l0.length l0) (hc0 : l0.length ≤ c0) (h : impl_CoverOf.f k l0 = some r) :
  Calls Try.prog 118 #[.slice A0 l0.length c0] w fun e w' => ∃ v0_ : Value, e = .returned (v0_) ∧ Kd.S (Kd.slice 3 (Kd.int .i64)) 35 w' w.heap.size (fun _ => True) v0_ r ∧ Below w.heap.size w w' := by
 have hu50 := Try.underlying50
 have HR0 := Aside0.mk hr0
 have HC0 := Aside0.mk hc0
 clear hr0 hc0
 have HB := Aside0.mk (Below.refl w.heap.size w)
 have H : ((some (([] : List (List Int)) : List (List Int))).bind fun y362 => ((impl_ArePaths.f k l0).bind fun t365 => (if t365 = true then (impl_CoverOf.l0 k l0 y362 l0 (l0.length : Int) 0) else (some y362)))) = some r := h
 clear h
 obtain ⟨y362, hy362⟩ : ∃ y_ : List (List Int), y_ = (([] : List (List Int))) := ⟨_, rfl⟩
 replace H : ((impl_ArePaths.f k l0).bind fun t365 => (if t365 = true then (impl_CoverOf.l0 k l0 y362 l0 (l0.length : Int) 0) else (some y362))) = some r := rH H hy362
 have Ny362 := Aside0.mk hy362
 clear hy362
 obtain ⟨t365, A2, H⟩ := bindE H
 try dsimp only at H
 by_cases c3 : t365 = true
 ·
  subst c3
  have H1 : (impl_CoverOf.l0 k l0 y362 l0 (l0.length : Int) 0) = some r := by rw [if_pos rfl] at H; exact H
  clear H
  have H := H1
  clear H1
  have H' := Aside0.mk H
  clear H
  go_enter Try.func118, Try.ntmps118
  go_wp2_with (first | ((with_reducible refine gate_dst (N := 6) rfl ?_); refine Kd.S_lit (Kd.slice 3 (Kd.int .i64)) _ 35 ?hg (N := 6) ?hd (xs := ([] : List (List Int))) (inner := []) (ok := fun _ => True) (okp := fun _ => True) ?hr ?hp (fun _ hk => hk) trivial (Below.refl _ _) (Nat.le_refl _) (by simp) ?_; (case hd => rfl); (case hg => rfl); (case hr => first | (go_simp; done) | (go_simp; rfl)); (case hp => exact (Reps.none _ _)); intro v363 w4 ho5 hb hg_ hnew_; clear hg_ hnew_; (first | rw [← Ny362.out] at ho5 | (simp only [Int.reduceToNat] at ho5; rw [← Ny362.out] at ho5)); have HO364 := sl w ho5; replace HB := bs HB hb; clear hb ho5) | ((with_reducible refine gate_callee (f := 32) rfl ?_); refine gL (some 8) Try.func32 #[.slice A0 l0.length c0] ?_; (with_reducible refine (impl_ArePaths.calls k _ _ l0 true _ ?_ ?_ A2.out).mono ?_); exact cB HR0; exact HC0.out; rintro e w6 ⟨rfl, hb⟩; refine ⟨_, rfl, ?_⟩; replace HO364 := sb HO364 hb; replace HB := bs HB hb; (try clear hb)))
  go_loopg [3, 13] k (fun kq v3 v13 w' => ∃ (x3_1 : List (List Int)) (x13_1 : Int), v13 = .int .i64 x13_1 ∧ Aside0 (impl_CoverOf.l0 kq l0 x3_1 l0 (l0.length : Int) x13_1 = some r) ∧ Aside0 (kq ≤ k) ∧ Aside0 (Kd.S (Kd.slice 3 (Kd.int .i64)) 35 w' w.heap.size (fun _ => True) v3 x3_1) ∧ Aside0 (Below w.heap.size w w'))
  case atStart => exact ⟨(y362), (0), rS, H', ⟨Nat.le_refl _⟩, ⟨sK HO364⟩, ⟨bA⟩⟩
  case round =>
   clear H'
   obtain ⟨x3_1, x13_1, rfl, HA, HK1, HO_3, HB⟩ := hrel
   cases gk with
   | zero => exact absurd HA.out (by simp [impl_CoverOf.l0])
   | succ k1 =>
    have H := HA.out
    clear HA
    simp only [impl_CoverOf.l0] at H
    by_cases c7 : x13_1 < (l0.length : Int)
    ·
     rw [if_pos c7] at H
     have c7b0 := decide_eq_true c7
     clear c7
     have c8 : 0 ≤ x13_1 := ifN H
     replace H := ifT H
     have c8b0 := decide_eq_true c8
     clear c8
     have c9 : x13_1 < (l0.length : Int) := ifN H
     replace H := ifT H
     have c9b0 := decide_eq_true c9
     clear c9
     obtain ⟨t368, A10, H⟩ := bindE H
     try dsimp only at H
     by_cases c11 : t368 = true
     ·
      subst c11
      have H1 : (impl_CoverOf.l0 k1 l0 x3_1 l0 (l0.length : Int) (wrap64 (x13_1 + 1))) = some r := by rw [if_pos rfl] at H; exact H
      clear H
      have H := H1
      clear H1
      have H' := Aside0.mk H
      clear H
      obtain ⟨p366, q366⟩ : 0 ≤ (x13_1 : Int) ∧ x13_1 < (l0.length : Int) := ⟨dA, dA⟩
      obtain ⟨ad366, e366, hx366_0, hx366_1, hx366_2, hx366_3⟩ := at_T50 (Kd.C_below HR0.out HB.out) x13_1 p366 q366
      cases e366
      obtain ⟨p366, q366⟩ := eT p366 q366
      go_wp2_with (first | ((with_reducible refine gate_dst (N := 5) rfl ?_); refine bE (N := 5) (cs := #[.int .i64 0, .int .i64 0, .int .i64 0, .int .i64 0]) (t := 50) ?_; intro gb367 hg w12 hbox hb; replace HO_3 := sb HO_3 hb; have BK367 := Aside0.mk (hbox); have GW367 := gw w hg; have GE367 := gw w hg; replace HB := bs HB hb; clear hb hbox hg; obtain ⟨_, _, _, _, _, _, _, _⟩ := blkc4 BK367; obtain ⟨Ao14, co14, eo14⟩ := Kd.S_slice HO_3.out; subst eo14) | ((with_reducible refine gate_callee (f := 123) rfl ?_); refine gL (some 20) Try.func123 #[.slice Ao14 x3_1.length co14, .int .i64 ((rd_T50 l0 x13_1).f0)] ?_; (with_reducible refine (impl_isCovered.calls _ _ x3_1 ((rd_T50 l0 x13_1).f0) true _ ?_ ?_ A10.out).mono ?_); (focus refine (Kd.S_reads' (e := 35) (base := w.heap.size) (ok := fun k_ => True) (n := x3_1.length) (c := co14) ?_).2.2; exact (sf HO_3 BK367)); exact (Kd.S_reads' HO_3.out).2.1; rintro e w15 ⟨rfl, hb⟩; refine ⟨_, rfl, ?_⟩; replace HO_3 := Aside0.mk (Kd.S_below (sf HO_3 BK367) hb); replace BK367 := kc (o := .cells #[.int .i64 ((rd_T50 l0 x13_1).f0), .int .i64 ((rd_T50 l0 x13_1).f1), .int .i64 ((rd_T50 l0 x13_1).f2), .int .i64 ((rd_T50 l0 x13_1).f3)] 50 (0, 0)) (kp BK367) hb; replace HB := bs HB hb; (try clear hb)))
      go_roundg k1
      case measure => have := HK1.out; omega
      case rel => exact ⟨(x3_1), (wrap64 (x13_1 + 1)), rS, H', ⟨by have := HK1.out; omega⟩, ⟨sK HO_3⟩, ⟨bG⟩⟩
     replace c11 := Bool.eq_false_iff.mpr c11
     subst c11
     have H1 : ((impl_AddToStage.f k1 l0 (([(rd_T50 l0 x13_1).f0] : List Int))).bind fun t372 => (if x3_1.length < 5864062014805 then (impl_CoverOf.l0 k1 l0 (x3_1 ++ [t372]) l0 (l0.length : Int) (wrap64 (x13_1 + 1))) else (none))) = some r := by rw [if_neg (show ¬ (false = true) by decide)] at H; exact H
     clear H
     have H := H1
     clear H1
     obtain ⟨y369, hy369⟩ : ∃ y_ : List Int, y_ = (([(rd_T50 l0 x13_1).f0] : List Int)) := ⟨_, rfl⟩
     replace H : ((impl_AddToStage.f k1 l0 y369).bind fun t372 => (if x3_1.length < 5864062014805 then (impl_CoverOf.l0 k1 l0 (x3_1 ++ [t372]) l0 (l0.length : Int) (wrap64 (x13_1 + 1))) else (none))) = some r := rH H hy369
     have Ny369 := Aside0.mk hy369
     clear hy369
     obtain ⟨t372, A16, H⟩ := bindE H
     try dsimp only at H
     have c17 : x3_1.length < 5864062014805 := ifN H
     replace H := ifT H
     have LMc17 := Aside0.mk c17
     clear c17
     obtain ⟨y375, hy375⟩ : ∃ y_ : List (List Int), y_ = (x3_1 ++ [t372]) := ⟨_, rfl⟩
     replace H : (impl_CoverOf.l0 k1 l0 y375 l0 (l0.length : Int) (wrap64 (x13_1 + 1))) = some r := rH H hy375
     have Ny375 := Aside0.mk hy375
     clear hy375
     have H' := Aside0.mk H
     clear H
     obtain ⟨p366, q366⟩ : 0 ≤ (x13_1 : Int) ∧ x13_1 < (l0.length : Int) := ⟨dA, dA⟩
     obtain ⟨ad366, e366, hx366_0, hx366_1, hx366_2, hx366_3⟩ := at_T50 (Kd.C_below HR0.out HB.out) x13_1 p366 q366
     cases e366
     obtain ⟨p366, q366⟩ := eT p366 q366
     go_wp2_with (first | ((with_reducible refine gate_dst (N := 5) rfl ?_); refine bE (N := 5) (cs := #[.int .i64 0, .int .i64 0, .int .i64 0, .int .i64 0]) (t := 50) ?_; intro gb367 hg w18 hbox hb; replace HO_3 := sb HO_3 hb; have BK367 := Aside0.mk (hbox); have GW367 := gw w hg; have GE367 := gw w hg; replace HB := bs HB hb; clear hb hbox hg; obtain ⟨_, _, _, _, _, _, _, _⟩ := blkc4 BK367; obtain ⟨Ao20, co20, eo20⟩ := Kd.S_slice HO_3.out; subst eo20) | ((with_reducible refine gate_callee (f := 123) rfl ?_); refine gL (some 20) Try.func123 #[.slice Ao20 x3_1.length co20, .int .i64 ((rd_T50 l0 x13_1).f0)] ?_; (with_reducible refine (impl_isCovered.calls _ _ x3_1 ((rd_T50 l0 x13_1).f0) false _ ?_ ?_ A10.out).mono ?_); (focus refine (Kd.S_reads' (e := 35) (base := w.heap.size) (ok := fun k_ => True) (n := x3_1.length) (c := co20) ?_).2.2; exact (sf HO_3 BK367)); exact (Kd.S_reads' HO_3.out).2.1; rintro e w21 ⟨rfl, hb⟩; refine ⟨_, rfl, ?_⟩; replace HO_3 := Aside0.mk (Kd.S_below (sf HO_3 BK367) hb); replace BK367 := kc (o := .cells #[.int .i64 ((rd_T50 l0 x13_1).f0), .int .i64 ((rd_T50 l0 x13_1).f1), .int .i64 ((rd_T50 l0 x13_1).f2), .int .i64 ((rd_T50 l0 x13_1).f3)] 50 (0, 0)) (kp BK367) hb; replace HB := bs HB hb; (try clear hb); have hcz22_0 : w21.cell? ⟨gb367, 0, none⟩ = some (.int .i64 ((rd_T50 l0 x13_1).f0)) := bC BK367 0; have hcz22_1 : w21.cell? ⟨gb367, 1, none⟩ = some (.int .i64 ((rd_T50 l0 x13_1).f1)) := bC BK367 1; have hcz22_2 : w21.cell? ⟨gb367, 2, none⟩ = some (.int .i64 ((rd_T50 l0 x13_1).f2)) := bC BK367 2; have hcz22_3 : w21.cell? ⟨gb367, 3, none⟩ = some (.int .i64 ((rd_T50 l0 x13_1).f3)) := bC BK367 3; have hfz22_0 := blk_frozen BK367.out 0; have hfz22_1 := blk_frozen BK367.out 1; have hfz22_2 := blk_frozen BK367.out 2; have hfz22_3 := blk_frozen BK367.out 3) | ((with_reducible refine gate_dst (N := 26) rfl ?_); refine Kd.R_lit (Kd.int .i64) _ 3 ?hg (N := 26) ?hd (xs := ([(rd_T50 l0 x13_1).f0] : List Int)) (inner := [.int .i64 ((rd_T50 l0 x13_1).f0)]) (ok := fun _ => True) (okp := fun _ => True) ?hr ?hp (fun _ hk => hk) trivial (Below.refl _ _) (Nat.le_refl _) (by simp) ?_; (case hd => rfl); (case hg => rfl); (case hr => first | (go_simp; done) | (go_simp; rfl)); (case hp => exact (Reps.one (show Kd.M (Kd.int .i64) _ _ _ ((rd_T50 l0 x13_1).f0) [.int .i64 ((rd_T50 l0 x13_1).f0)] from rfl) (Reps.none _ _))); intro v370 w23 ho24 hb hg_ hnew_; clear hg_ hnew_; (first | rw [← Ny369.out] at ho24 | (simp only [Int.reduceToNat] at ho24; rw [← Ny369.out] at ho24)); replace HO_3 := se HO_3 ho24 hb; have HO371 := rl w ho24; replace BK367 := kb BK367 hb; replace HB := bs HB hb; clear hb ho24; obtain ⟨Ao25, co25, eo25⟩ := Kd.R_slice HO371.out; subst eo25) | ((with_reducible refine gate_callee (f := 147) rfl ?_); refine gL (some 27) Try.func147 #[.slice (some ad366) l0.length c0, .slice Ao25 y369.length co25] ?_; (with_reducible refine (impl_AddToStage.calls k1 _ _ l0 _ _ y369 t372 _ ?_ ?_ ?_ ?_ A16.out).mono ?_); exact cB HR0; exact HC0.out; exact cO ⟨(Kd.R_reads' HO371.out).2.2⟩; exact (Kd.R_reads' HO371.out).2.1; rintro e w26 ⟨v373, rfl, ho0, hb⟩; refine ⟨_, rfl, ?_⟩; replace HO_3 := se HO_3 ho0 hb; have HO374 := rl w (rn ho0 HO371); replace HO371 := re HO371 ho0 hb; replace BK367 := kb BK367 hb; replace HB := bs HB hb; (try clear hb); (try clear ho0); obtain ⟨Ao28, co28, eo28⟩ := Kd.R_slice HO374.out; subst eo28) | ((with_reducible refine gate_builtin (b := .append) (xs := #[.tmp 22, .tmp 28]) rfl ?_); at_builtin; refine Kd.S_append (Kd.slice 3 (Kd.int .i64)) (w0 := w) w.heap.size rfl (.tmp 22) (.tmp 28) 103 35 (.slice none 0 0) 24 rfl Try.underlying103 info35 rfl (by decide) (by omega) (.slice Ao20 x3_1.length co20) x3_1 t372 [.slice Ao28 t372.length co28] (n1 (.slice Ao25 y369.length co25)) (fun k_ => some k_ = (.slice Ao28 t372.length co28 : Value).ownBlock) rfl rfl ?aP (fun k_ hk_ => ((Kd.R_mono (ok' := fun k_ => ((n1 (.slice Ao25 y369.length co25))) k_ ∧ some k_ ≠ (.slice Ao20 x3_1.length co20 : Value).ownBlock) (Kd.R_apart' (HO374.out) (Kd.S_typed HO_3.out) (by decide)) (fun k_ hk => ⟨hk.1.2, hk.2⟩))).1 k_ hk_.symm) ?aF ?aO ?aB ?aS ?aL ?_; (case aP => exact Kd.M_row (Kd.R_mono (Kd.R_tight rfl (Kd.R_mono (ok' := fun k_ => ((n1 (.slice Ao25 y369.length co25))) k_ ∧ some k_ ≠ (.slice Ao20 x3_1.length co20 : Value).ownBlock) (Kd.R_apart' (HO374.out) (Kd.S_typed HO_3.out) (by decide)) (fun k_ hk => ⟨hk.1.2, hk.2⟩))) (fun _ h_ => h_))); (case aB => exact bG); (case aF => exact (fun k_ hk => Kd.fresh' (Kd.R_lt (rK HO371)) k_ hk)); (case aO => exact (sm HO_3 (fun k_ hk => ⟨hk.1.2, fun e_ => hk.2 e_⟩))); (case aS => exact (below_size bG)); (case aL => have := LMc17.out; omega); intro v376 w27 ho hb hg hat; rw [← Ny375.out] at ho; have n0_ := Aside0.mk (blk_grown (g := gb367) (o := .cells #[.int .i64 ((rd_T50 l0 x13_1).f0), .int .i64 ((rd_T50 l0 x13_1).f1), .int .i64 ((rd_T50 l0 x13_1).f2), .int .i64 ((rd_T50 l0 x13_1).f3)] 50 (0, 0)) (bK BK367) hg (Kd.S_ne HO_3.out BK367.out (by decide))); have n1_ := Aside0.mk (Kd.R_over' (rK HO371) (Kd.S_typed (sK HO_3)) (by decide) hg); have n2_ := Aside0.mk (hb); have n3_ := Aside0.mk (ho); clear BK367; clear HO371; clear HB; clear HO_3; clear HO374; have BK367 := n0_; have HO371 := n1_; have HB := n2_; have HO377 := n3_; clear n0_ n1_ n2_ n3_; clear ho hb hg hat))
     go_roundg k1
     case measure => have := HK1.out; omega
     case rel => exact ⟨(y375), (wrap64 (x13_1 + 1)), rS, H', ⟨by have := HK1.out; omega⟩, ⟨sm HO377 (fun _ hk => trivial)⟩, ⟨bG⟩⟩
    rw [if_neg c7] at H
    have c7b0 := decide_eq_false c7
    clear c7
    obtain rfl := Option.some.inj H
    go_wp2
    go_ret
    exact ⟨_, rA, sK HO_3, bA⟩
 replace c3 := Bool.eq_false_iff.mpr c3
 subst c3
 have H1 : (some y362) = some r := by rw [if_neg (show ¬ (false = true) by decide)] at H; exact H
 clear H
 have H := H1
 clear H1
 obtain rfl := Option.some.inj H
 go_enter Try.func118, Try.ntmps118
 go_wp2_with (first | ((with_reducible refine gate_dst (N := 6) rfl ?_); refine Kd.S_lit (Kd.slice 3 (Kd.int .i64)) _ 35 ?hg (N := 6) ?hd (xs := ([] : List (List Int))) (inner := []) (ok := fun _ => True) (okp := fun _ => True) ?hr ?hp (fun _ hk => hk) trivial (Below.refl _ _) (Nat.le_refl _) (by simp) ?_; (case hd => rfl); (case hg => rfl); (case hr => first | (go_simp; done) | (go_simp; rfl)); (case hp => exact (Reps.none _ _)); intro v363 w29 ho30 hb hg_ hnew_; clear hg_ hnew_; (first | rw [← Ny362.out] at ho30 | (simp only [Int.reduceToNat] at ho30; rw [← Ny362.out] at ho30)); have HO364 := sl w ho30; replace HB := bs HB hb; clear hb ho30) | ((with_reducible refine gate_callee (f := 32) rfl ?_); refine gL (some 8) Try.func32 #[.slice A0 l0.length c0] ?_; (with_reducible refine (impl_ArePaths.calls k _ _ l0 false _ ?_ ?_ A2.out).mono ?_); exact cB HR0; exact HC0.out; rintro e w31 ⟨rfl, hb⟩; refine ⟨_, rfl, ?_⟩; replace HO364 := sb HO364 hb; replace HB := bs HB hb; (try clear hb)))
 go_ret
 exact ⟨_, rA, sK HO364, bA⟩

/-! ### impl_PlanFor: function 70 -/
def impl_PlanFor.l0 : Nat → List (S50) → List (S85) → List (List Int) → Int → Int → Option ((List (S85)))
 | 0, _, _, _, _, _ => none
 | k + 1, x0, x3, x8, x9, x10 => if x10 < x9 then (if 0 ≤ x10 then (if x10 < (x8.length : Int) then ((impl_LeastGreen.f k x0 (rd_L4 x8 x10)).bind fun t385 => (if x3.length < 4398046511104 then (impl_PlanFor.l0 k x0 (x3 ++ [(⟨rd_L4 x8 x10, t385⟩ : S85)]) x8 x9 (wrap64 (x10 + 1))) else (none))) else (none)) else (none)) else ((impl_IsPlan.f k x0 x3).bind fun t389 => (if t389 = true then (some x3) else (some (([] : List (S85))))))
def impl_PlanFor.f (k : Nat) (l0 : List (S50)) : Option ((List (S85))) := (impl_CoverOf.f k l0).bind fun t381 => (impl_PlanFor.l0 k l0 (([] : List (S85))) t381 (t381.length : Int) 0)
theorem impl_PlanFor.mono_l : ∀ k, (∀ y0 y1 y2 y3 y4, LeO (impl_PlanFor.l0 k y0 y1 y2 y3 y4) (impl_PlanFor.l0 (k + 1) y0 y1 y2 y3 y4))
 | 0 => fun _ _ _ _ _ r h => by simp [impl_PlanFor.l0] at h
 | k + 1 => by
  have ih0 := impl_PlanFor.mono_l k
  ·
   intro y0 y1 y2 y3 y4
   unfold impl_PlanFor.l0
   exact mz4 ih0 impl_CoverOf.mono impl_IsPlan.mono impl_LeastGreen.mono
theorem impl_PlanFor.mono : ∀ a0 k, LeO (impl_PlanFor.f k a0) (impl_PlanFor.f (k + 1) a0) := by
 intro a0 k
 have ih0 := impl_PlanFor.mono_l k
 unfold impl_PlanFor.f
 exact mz4 ih0 impl_CoverOf.mono impl_IsPlan.mono impl_LeastGreen.mono
theorem impl_PlanFor.retag {α β : Type} {d : Kd α} {d' : Kd β} {e base : Nat} {w : World} {ok : Nat → Prop} {v : Value} (hs : d'.sz = d.sz) (h : d.R e w base ok v ([] : List α)) : d'.R e w base ok v ([] : List β) := by
  obtain ⟨h0, inner, ho, hr⟩ := h
  have hi : inner = [] := List.eq_nil_of_length_eq_zero (by rw [hr.1]; simp)
  subst hi
  exact ⟨h0, [], by rw [hs]; exact ho, ⟨by simp, fun j p hj => by simp at hj⟩⟩
theorem impl_PlanFor.toS {α : Type} {d : Kd α} {f : Nat → Nat} {e base : Nat} {w : World} {ok : Nat → Prop} {v : Value} {xs : List α} (h : (Kd.tag f d).R e w base ok v xs.zipIdx) : Kd.S d e w base ok v xs := ⟨f, h⟩
theorem impl_PlanFor.nilS {α : Type} {d : Kd α} {e base : Nat} {w : World} {ok : Nat → Prop} {v : Value} (h : d.R e w base ok v ([] : List α)) : Kd.S d e w base ok v ([] : List α) := ⟨fun _ => 0, (impl_PlanFor.retag (d := d) (d' := Kd.tag (fun _ => 0) d) rfl h : (Kd.tag (fun _ => 0) d).R e w base ok v ([] : List (α × Nat)))⟩
theorem impl_PlanFor.el {f : Nat → Nat} {e base n c : Nat} {w : World} {ok : Nat → Prop} {ad : Addr} {xs : List (List Int)} (h : (Kd.tag f (Kd.slice 3 (Kd.int .i64))).R e w base ok (.slice (some ad) n c) xs.zipIdx) (j : Nat) (hj : j < xs.length) :
    ∃ v, w.cell? (ad.add j) = some v ∧ (Kd.int .i64).R 3 w base (fun k => (ok k ∧ some k ≠ (Value.slice (some ad) n c).ownBlock) ∧ f k = j) v (xs.getD j ([] : List Int)) := by
  have h1 := Kd.R_reads' (Kd.S_R (impl_PlanFor.toS h))
  obtain ⟨h0, inner, ho, hr⟩ := h
  have h2 := hr.2 j (xs[j], j) (Kd.zip_at (List.getElem?_eq_getElem hj))
  obtain ⟨v, hv, hR⟩ := h2
  have e1 : xs.getD j ([] : List Int) = xs[j] := by simp [List.getD_eq_getElem?_getD, List.getElem?_eq_getElem hj]
  have hi : inner[j]? = some v := by
    have h3 : ((inner.drop (j * 1)).take 1)[0]? = some v := by
      rw [show (inner.drop (j * 1)).take 1 = [v] from hv]
      rfl
    rw [List.getElem?_take, if_pos (by decide), List.getElem?_drop] at h3
    simpa using h3
  refine ⟨v, ?_, by rw [e1]; exact hR⟩
  rcases ho.2 with ⟨hq, _⟩ | ⟨g, c', cur, hq, _, hh, _, _, _, ht⟩
  · cases hq
  · injection hq with ha _ _
    injection ha with ha
    subst ha
    rw [add_at, cell_of_row w g _ cur e (0, 0) hh, ← Array.getElem?_toList]
    have ht' : cur.toList.take (xs.zipIdx.length * 1) = inner := ht
    rw [← ht', List.getElem?_take] at hi
    split at hi
    · simpa using hi
    · cases hi
set_option maxHeartbeats 8000000 in
set_option maxRecDepth 100000 in
theorem impl_PlanFor.calls (k : Nat) (A0 : Option Addr) (c0 : Nat) (l0 : List (S50)) (r : List (S85)) (w : World) (hr0 : Kd.C k50 w A0 l0.length l0) (hc0 : l0.length ≤ c0) (h : impl_PlanFor.f k l0 = some r) :
  Calls Try.prog 70 #[.slice A0 l0.length c0] w fun e w' => ∃ v0_ : Value, e = .returned (v0_) ∧ Kd.S k85 85 w' w.heap.size (fun _ => True) v0_ r ∧ Below w.heap.size w w' := by
 have hu85 := Try.underlying85
 have HR0 := Aside0.mk hr0
 have HC0 := Aside0.mk hc0
 clear hr0 hc0
 have HB := Aside0.mk (Below.refl w.heap.size w)
 have H : ((impl_CoverOf.f k l0).bind fun t381 => (impl_PlanFor.l0 k l0 (([] : List (S85))) t381 (t381.length : Int) 0)) = some r := h
 clear h
 obtain ⟨y378, hy378⟩ : ∃ y_ : List (S85), y_ = (([] : List (S85))) := ⟨_, rfl⟩
 replace H : ((impl_CoverOf.f k l0).bind fun t381 => (impl_PlanFor.l0 k l0 y378 t381 (t381.length : Int) 0)) = some r := rH H hy378
 have Ny378 := Aside0.mk hy378
 clear hy378
 obtain ⟨t381, A2, H⟩ := bindE H
 try dsimp only at H
 have H' := Aside0.mk H
 clear H
 go_enter Try.func70, Try.ntmps70
 go_wp2_with (first | ((with_reducible refine gate_dst (N := 6) rfl ?_); refine Kd.R_lit k85 _ 85 ?hg (N := 6) ?hd (xs := ([] : List (S85))) (inner := []) (ok := fun _ => True) (okp := fun _ => True) ?hr ?hp (fun _ hk => hk) trivial (Below.refl _ _) (Nat.le_refl _) (by simp) ?_; (case hd => rfl); (case hg => rfl); (case hr => first | (go_simp; done) | (go_simp; rfl)); (case hp => exact (Reps.none _ _)); intro v379 w3 ho4 hb hg_ hnew_; clear hg_ hnew_; have HO380 := rl w ho4; replace HB := bs HB hb; clear hb ho4) | ((with_reducible refine gate_callee (f := 118) rfl ?_); refine gL (some 8) Try.func118 #[.slice A0 l0.length c0] ?_; (with_reducible refine (impl_CoverOf.calls k _ _ l0 t381 _ ?_ ?_ A2.out).mono ?_); exact cB HR0; exact HC0.out; rintro e w5 ⟨v382, rfl, ⟨f_, ho0⟩, hb⟩; refine ⟨_, rfl, ?_⟩; have HO383 := rl w (Kd.R_mono (ok' := fun k_ => True ∧ some k_ ≠ (v379 : Value).ownBlock) (Kd.R_bound ho0) (fun k_ hk_ => ⟨trivial, fun e_ => Nat.not_lt.2 hk_.2.1 (Kd.R_lt (rK HO380) k_ e_.symm)⟩)); replace HO380 := Aside0.mk (impl_PlanFor.retag (d := k85) (d' := Kd.tag f_ k85) rfl (Kd.R_below (rK HO380) hb)); replace HB := bs HB hb; (try clear hb); (try clear ho0); obtain ⟨Ao6, co6, eo6⟩ := Kd.R_slice HO383.out; rw [List.length_zipIdx] at eo6; subst eo6))
 go_loopg [3, 10] k (fun kq v3 v10 w' => ∃ (x3_1 : List (S85)) (x10_1 : Int), v10 = .int .i64 x10_1 ∧ Aside0 (impl_PlanFor.l0 kq l0 x3_1 t381 (t381.length : Int) x10_1 = some r) ∧ Aside0 (kq ≤ k) ∧ Aside0 ((Kd.tag f_ k85).R 85 w' w.heap.size (fun _ => True) v3 x3_1.zipIdx) ∧ Aside0 ((Kd.tag f_ (Kd.slice 3 (Kd.int .i64))).R 35 w' w.heap.size (fun k_ => True ∧ some k_ ≠ (v3 : Value).ownBlock) (.slice Ao6 t381.length co6) t381.zipIdx) ∧ Aside0 ((x3_1.length : Int) = x10_1) ∧ Aside0 (Below w.heap.size w w'))
 case atStart => exact ⟨(y378), (0), rS, H', ⟨Nat.le_refl _⟩, ⟨by rw [Ny378.out]; (with_reducible repeat (first | apply Kd.R_alloc | apply Kd.R_drewN | apply Kd.R_drew)); exact HO380.out⟩, ⟨rK HO383⟩, ⟨by rw [Ny378.out]; rfl⟩, ⟨bA⟩⟩
 case round =>
  clear H'
  obtain ⟨x3_1, x10_1, rfl, HA, HK1, HO_3, HO_8, HN, HB⟩ := hrel
  cases gk with
  | zero => exact absurd HA.out (by simp [impl_PlanFor.l0])
  | succ k1 =>
   have H := HA.out
   clear HA
   simp only [impl_PlanFor.l0] at H
   by_cases c7 : x10_1 < (t381.length : Int)
   ·
    rw [if_pos c7] at H
    have c7b0 := decide_eq_true c7
    clear c7
    have c8 : 0 ≤ x10_1 := ifN H
    replace H := ifT H
    have c8b0 := decide_eq_true c8
    clear c8
    have c9 : x10_1 < (t381.length : Int) := ifN H
    replace H := ifT H
    have c9b0 := decide_eq_true c9
    clear c9
    obtain ⟨t385, A10, H⟩ := bindE H
    try dsimp only at H
    have c11 : x3_1.length < 4398046511104 := ifN H
    replace H := ifT H
    have LMc11 := Aside0.mk c11
    clear c11
    obtain ⟨y386, hy386⟩ : ∃ y_ : List (S85), y_ = (x3_1 ++ [(⟨rd_L4 t381 x10_1, t385⟩ : S85)]) := ⟨_, rfl⟩
    replace H : (impl_PlanFor.l0 k1 l0 y386 t381 (t381.length : Int) (wrap64 (x10_1 + 1))) = some r := rH H hy386
    have Ny386 := Aside0.mk hy386
    clear hy386
    have H' := Aside0.mk H
    clear H
    obtain ⟨p384, q384⟩ : 0 ≤ (x10_1 : Int) ∧ x10_1 < (t381.length : Int) := ⟨dA, dA⟩
    obtain ⟨ad384, A384_0, c384_0, e384, hx384_0, hl384_0, hi384_0⟩ := at_L4 (Kd.R_reads' (Kd.S_R (impl_PlanFor.toS HO_8.out))).2.2 x10_1 p384 q384
    cases e384
    obtain ⟨ve384, hve384, hRe384⟩ := impl_PlanFor.el HO_8.out x10_1.toNat (by omega)
    obtain rfl := Option.some.inj (hve384.symm.trans hx384_0)
    have HL384_0 := Aside0.mk (hRe384)
    have HR384_0 := Aside0.mk hi384_0
    have HC384_0 := Aside0.mk hl384_0
    clear hi384_0 hl384_0
    obtain ⟨p384, q384⟩ := eT p384 q384
    go_wp2_with (first | ((with_reducible refine gate_callee (f := 77) rfl ?_); refine gL (some 18) Try.func77 #[.slice A0 l0.length c0, .slice A384_0 (rd_L4 t381 x10_1).length c384_0] ?_; (with_reducible refine (impl_LeastGreen.calls k1 _ _ l0 _ _ (rd_L4 t381 x10_1) t385 _ ?_ ?_ ?_ ?_ A10.out).mono ?_); exact cB HR0; exact HC0.out; (focus repeat (first | exact (by repeat (first | (with_reducible exact HR384_0.out) | (with_reducible refine Kd.C_alloc ?_ _) | (with_reducible refine Kd.C_drewN ?_ _) | (with_reducible refine Kd.C_drew ?_) | exact HR384_0.out)) | (with_reducible refine Kd.C_alloc ?_ _) | (with_reducible refine Kd.C_drewN ?_ _) | (with_reducible refine Kd.C_drew ?_))); exact HC384_0.out; rintro e w12 ⟨rfl, hb⟩; refine ⟨_, rfl, ?_⟩; have n0_ := rb HO_3 hb; have n1_ := rb HO_8 hb; have n2_ := Aside0.mk (Kd.R_below (by (with_reducible repeat (first | apply Kd.R_alloc | apply Kd.R_drewN | apply Kd.R_drew)); exact HL384_0.out) hb); have n3_ := Aside0.mk (Kd.C_below (by repeat (first | (with_reducible exact HR384_0.out) | (with_reducible refine Kd.C_alloc ?_ _) | (with_reducible refine Kd.C_drewN ?_ _) | (with_reducible refine Kd.C_drew ?_) | exact HR384_0.out)) hb); have n4_ := bs HB hb; clear HO_3; clear HO_8; clear HL384_0; clear HR384_0; clear HB; have HO_3 := n0_; have HO_8 := n1_; have HL384_0 := n2_; have HR384_0 := n3_; have HB := n4_; clear n0_ n1_ n2_ n3_ n4_; (try clear hb)) | ((with_reducible refine gate_builtin (b := .append) (xs := #[.tmp 14, .tmp 20]) rfl ?_); at_builtin; refine Kd.R_append (Kd.tag f_ k85) (w0 := w) w.heap.size rfl (.tmp 14) (.tmp 20) 25 85 (.agg #[(.slice none 0 0), (.int .i64 0)]) 32 rfl Try.underlying25 info85 rfl (show 0 < k85.sz by decide) (by omega) u3 x3_1.zipIdx ((⟨rd_L4 t381 x10_1, t385⟩ : S85), x3_1.length) [.slice A384_0 (rd_L4 t381 x10_1).length c384_0, .int .i64 t385] (fun _ => True) (n1 u3) rfl rfl ?aP (fun _ hk => ⟨trivial, hk⟩) (fun _ _ => trivial) ?aO ?aB ?aS ?aL ?_; (case aP => have hz_ := Kd.R_mono HL384_0.out (fun k_ hk => (⟨hk.1.1.2, hk.2.trans (by have := HN.out; omega)⟩ : some k_ ≠ (u3 : Value).ownBlock ∧ f_ k_ = x3_1.length)); exact (show k85.M _ _ (fun k_ => some k_ ≠ (u3 : Value).ownBlock ∧ f_ k_ = x3_1.length) _ _ from k85_mkM _ _ _ (⟨rd_L4 t381 x10_1, t385⟩ : S85) (by (with_reducible repeat (first | apply Kd.R_alloc | apply Kd.R_drewN | apply Kd.R_drew)); exact hz_))); (case aB => exact bA); (case aO => exact (rK HO_3)); (case aS => exact (below_size bA)); (case aL => have := LMc11.out; rw [List.length_zipIdx]; omega); intro v387 w13 ho hb hg hat; rw [← Kd.zip_snoc, ← Ny386.out] at ho; have n0_ := Aside0.mk (Kd.R_after (ok := fun _ => True) (rK HO_8) hg hat); have n1_ := HL384_0; have n2_ := Aside0.mk (hb); have n3_ := Aside0.mk (ho); clear HO_8; clear HL384_0; clear HB; clear HO_3; have HO_8 := n0_; have HL384_0 := n1_; have HB := n2_; have HO388 := n3_; clear n0_ n1_ n2_ n3_; clear ho hb hg hat))
    go_roundg k1
    case measure => have := HK1.out; omega
    case rel => exact ⟨(y386), (wrap64 (x10_1 + 1)), rS, H', ⟨by have := HK1.out; omega⟩, ⟨rK HO388⟩, ⟨rK HO_8⟩, ⟨by (have h1_ := HN.out; have h2_ := LMc11.out; rw [Ny386.out, List.length_append, List.length_singleton]; unfold wrap64; omega)⟩, ⟨bA⟩⟩
   rw [if_neg c7] at H
   have c7b0 := decide_eq_false c7
   clear c7
   obtain ⟨t389, A14, H⟩ := bindE H
   try dsimp only at H
   by_cases c15 : t389 = true
   ·
    subst c15
    have H1 : (some x3_1) = some r := by rw [if_pos rfl] at H; exact H
    clear H
    have H := H1
    clear H1
    obtain rfl := Option.some.inj H
    obtain ⟨Ao16, co16, eo16⟩ := Kd.R_slice HO_3.out
    rw [List.length_zipIdx] at eo16
    subst eo16
    go_wp2_with (first | ((with_reducible refine gate_callee (f := 15) rfl ?_); refine gL (some 25) Try.func15 #[.slice A0 l0.length c0, .slice Ao16 x3_1.length co16] ?_; (with_reducible refine (impl_IsPlan.calls k1 _ _ l0 (fun k_ => True) _ _ x3_1 true _ ?_ ?_ ?_ A14.out).mono ?_); exact cB HR0; exact HC0.out; exact Kd.N_V (Kd.R_N (Kd.S_R (impl_PlanFor.toS HO_3.out))); rintro e w17 ⟨rfl, hb⟩; refine ⟨_, rfl, ?_⟩; replace HO_3 := rb HO_3 hb; replace HO_8 := rb HO_8 hb; replace HB := bs HB hb; (try clear hb)))
    go_ret
    exact ⟨_, rA, impl_PlanFor.toS (rK HO_3), bA⟩
   replace c15 := Bool.eq_false_iff.mpr c15
   subst c15
   have H1 : (some (([] : List (S85)))) = some r := by rw [if_neg (show ¬ (false = true) by decide)] at H; exact H
   clear H
   have H := H1
   clear H1
   obtain ⟨y390, hy390⟩ : ∃ y_ : List (S85), y_ = (([] : List (S85))) := ⟨_, rfl⟩
   replace H : (some y390) = some r := rH H hy390
   have Ny390 := Aside0.mk hy390
   clear hy390
   obtain rfl := Option.some.inj H
   obtain ⟨Ao18, co18, eo18⟩ := Kd.R_slice HO_3.out
   rw [List.length_zipIdx] at eo18
   subst eo18
   go_wp2_with (first | ((with_reducible refine gate_callee (f := 15) rfl ?_); refine gL (some 25) Try.func15 #[.slice A0 l0.length c0, .slice Ao18 x3_1.length co18] ?_; (with_reducible refine (impl_IsPlan.calls k1 _ _ l0 (fun k_ => True) _ _ x3_1 false _ ?_ ?_ ?_ A14.out).mono ?_); exact cB HR0; exact HC0.out; exact Kd.N_V (Kd.R_N (Kd.S_R (impl_PlanFor.toS HO_3.out))); rintro e w19 ⟨rfl, hb⟩; refine ⟨_, rfl, ?_⟩; replace HO_3 := rb HO_3 hb; replace HO_8 := rb HO_8 hb; replace HB := bs HB hb; (try clear hb)) | ((with_reducible refine gate_dst (N := 27) rfl ?_); refine Kd.R_lit k85 _ 85 ?hg (N := 27) ?hd (xs := ([] : List (S85))) (inner := []) (ok := fun _ => True) (okp := fun _ => True) ?hr ?hp (fun _ hk => hk) trivial (Below.refl _ _) (Nat.le_refl _) (by simp) ?_; (case hd => rfl); (case hg => rfl); (case hr => first | (go_simp; done) | (go_simp; rfl)); (case hp => exact (Reps.none _ _)); intro v391 w20 ho21 hb hg_ hnew_; clear hg_ hnew_; replace HO_3 := rb HO_3 hb; replace HO_8 := rb HO_8 hb; have HO392 := rl w ho21; replace HB := bs HB hb; clear hb ho21))
   go_ret
   exact ⟨_, rA, by rw [Ny390.out]; exact impl_PlanFor.nilS (rK HO392), bA⟩

/-! ### spec_l1In: function 111 -/
def spec_l1In.f (a0 : Int) (a1 : Int) (a2 : Int) : Option (Bool) := if a0 ≥ a1 then (some (decide (a0 ≤ a2))) else (some false)
set_option maxHeartbeats 8000000 in
set_option maxRecDepth 100000 in
theorem spec_l1In.calls (a0 : Int) (a1 : Int) (a2 : Int) (r : Bool) (w : World) (h : spec_l1In.f a0 a1 a2 = some r) :
  Calls Try.prog 111 #[.int .i64 a0, .int .i64 a1, .int .i64 a2] w fun e w' => e = .returned (.bool r) ∧ Drawn0 w w' := by
 have H : (if a0 ≥ a1 then (some (decide (a0 ≤ a2))) else (some false)) = some r := h
 clear h
 by_cases c4 : a0 ≥ a1
 ·
  rw [if_pos c4] at H
  have c4b0 := decide_eq_true c4
  clear c4
  obtain rfl := Option.some.inj H
  go_enter Try.func111, Try.ntmps111
  go_wp2
  go_ret
  exact ⟨rS, dD⟩
 rw [if_neg c4] at H
 have c4b0 := decide_eq_false c4
 clear c4
 obtain rfl := Option.some.inj H
 go_enter Try.func111, Try.ntmps111
 go_wp2
 go_ret
 exact ⟨rS, dD⟩

/-! ### spec_IsPath: function 91 -/
def spec_IsPath.f (a0_0 : Int) (a0_1 : Int) (a0_2 : Int) (a0_3 : Int) : Option (Bool) := (spec_l1In.f a0_0 1 20).bind fun t394 => (if t394 = true then ((spec_l1In.f a0_1 1 3).bind fun t395 => (if t395 = true then ((spec_l1In.f a0_2 0 3).bind fun t396 => (if t396 = true then ((spec_l1In.f a0_3 0 3).bind fun t397 => (if t397 = true then (some ((a0_2 == a0_3) == (a0_1 == 2))) else (some false))) else (some false))) else (some false))) else (some false))
set_option maxHeartbeats 8000000 in
set_option maxRecDepth 100000 in
theorem spec_IsPath.calls (a0_0 : Int) (a0_1 : Int) (a0_2 : Int) (a0_3 : Int) (r : Bool) (w : World) (h : spec_IsPath.f a0_0 a0_1 a0_2 a0_3 = some r) :
  Calls Try.prog 91 #[.agg #[.int .i64 a0_0, .int .i64 a0_1, .int .i64 a0_2, .int .i64 a0_3]] w fun e w' => e = .returned (.bool r) ∧ Below w.heap.size w w' := by
 have hu50 := Try.underlying50
 have HB := Aside0.mk (Below.refl w.heap.size w)
 have H : ((spec_l1In.f a0_0 1 20).bind fun t394 => (if t394 = true then ((spec_l1In.f a0_1 1 3).bind fun t395 => (if t395 = true then ((spec_l1In.f a0_2 0 3).bind fun t396 => (if t396 = true then ((spec_l1In.f a0_3 0 3).bind fun t397 => (if t397 = true then (some ((a0_2 == a0_3) == (a0_1 == 2))) else (some false))) else (some false))) else (some false))) else (some false))) = some r := h
 clear h
 obtain ⟨t394, A2, H⟩ := bindE H
 try dsimp only at H
 by_cases c3 : t394 = true
 ·
  subst c3
  have H1 : ((spec_l1In.f a0_1 1 3).bind fun t395 => (if t395 = true then ((spec_l1In.f a0_2 0 3).bind fun t396 => (if t396 = true then ((spec_l1In.f a0_3 0 3).bind fun t397 => (if t397 = true then (some ((a0_2 == a0_3) == (a0_1 == 2))) else (some false))) else (some false))) else (some false))) = some r := by rw [if_pos rfl] at H; exact H
  clear H
  have H := H1
  clear H1
  obtain ⟨t395, A4, H⟩ := bindE H
  try dsimp only at H
  by_cases c5 : t395 = true
  ·
   subst c5
   have H1 : ((spec_l1In.f a0_2 0 3).bind fun t396 => (if t396 = true then ((spec_l1In.f a0_3 0 3).bind fun t397 => (if t397 = true then (some ((a0_2 == a0_3) == (a0_1 == 2))) else (some false))) else (some false))) = some r := by rw [if_pos rfl] at H; exact H
   clear H
   have H := H1
   clear H1
   obtain ⟨t396, A6, H⟩ := bindE H
   try dsimp only at H
   by_cases c7 : t396 = true
   ·
    subst c7
    have H1 : ((spec_l1In.f a0_3 0 3).bind fun t397 => (if t397 = true then (some ((a0_2 == a0_3) == (a0_1 == 2))) else (some false))) = some r := by rw [if_pos rfl] at H; exact H
    clear H
    have H := H1
    clear H1
    obtain ⟨t397, A8, H⟩ := bindE H
    try dsimp only at H
    by_cases c9 : t397 = true
    ·
     subst c9
     have H1 : (some ((a0_2 == a0_3) == (a0_1 == 2))) = some r := by rw [if_pos rfl] at H; exact H
     clear H
     have H := H1
     clear H1
     obtain rfl := Option.some.inj H
     go_enter Try.func91, Try.ntmps91
     go_wp2_with (first | ((with_reducible refine gate_dst (N := 1) rfl ?_); refine bE (N := 1) (cs := #[.int .i64 a0_0, .int .i64 a0_1, .int .i64 a0_2, .int .i64 a0_3]) (t := 50) ?_; intro gb393 hg w10 hbox hb; have BK393 := Aside0.mk (hbox); have GW393 := gw w hg; have GE393 := gw w hg; replace HB := bs HB hb; clear hb hbox hg; have hcz11_0 : w10.cell? ⟨gb393, 0, none⟩ = some (.int .i64 a0_0) := bC BK393 0; have hcz11_1 : w10.cell? ⟨gb393, 1, none⟩ = some (.int .i64 a0_1) := bC BK393 1; have hcz11_2 : w10.cell? ⟨gb393, 2, none⟩ = some (.int .i64 a0_2) := bC BK393 2; have hcz11_3 : w10.cell? ⟨gb393, 3, none⟩ = some (.int .i64 a0_3) := bC BK393 3; have hfz11_0 := blk_frozen BK393.out 0; have hfz11_1 := blk_frozen BK393.out 1; have hfz11_2 := blk_frozen BK393.out 2; have hfz11_3 := blk_frozen BK393.out 3) | ((with_reducible refine gate_callee (f := 111) rfl ?_); refine gL (some 5) Try.func111 #[.int .i64 a0_0, .int .i64 1, .int .i64 20] ?_; (with_reducible refine (spec_l1In.calls a0_0 1 20 true _ A2.out).mono ?_); rintro e w' ⟨rfl, ⟨nd, rfl⟩⟩; refine ⟨_, rfl, ?_⟩) | (go_at_call 111; (with_reducible refine (spec_l1In.calls a0_1 1 3 true _ A4.out).mono ?_); rintro e w' ⟨rfl, ⟨nd, rfl⟩⟩) | (go_at_call 111; (with_reducible refine (spec_l1In.calls a0_2 0 3 true _ A6.out).mono ?_); rintro e w' ⟨rfl, ⟨nd, rfl⟩⟩) | (go_at_call 111; (with_reducible refine (spec_l1In.calls a0_3 0 3 true _ A8.out).mono ?_); rintro e w' ⟨rfl, ⟨nd, rfl⟩⟩))
     go_ret
     exact ⟨rA, bG⟩
    replace c9 := Bool.eq_false_iff.mpr c9
    subst c9
    have H1 : (some false) = some r := by rw [if_neg (show ¬ (false = true) by decide)] at H; exact H
    clear H
    have H := H1
    clear H1
    obtain rfl := Option.some.inj H
    go_enter Try.func91, Try.ntmps91
    go_wp2_with (first | ((with_reducible refine gate_dst (N := 1) rfl ?_); refine bE (N := 1) (cs := #[.int .i64 a0_0, .int .i64 a0_1, .int .i64 a0_2, .int .i64 a0_3]) (t := 50) ?_; intro gb393 hg w12 hbox hb; have BK393 := Aside0.mk (hbox); have GW393 := gw w hg; have GE393 := gw w hg; replace HB := bs HB hb; clear hb hbox hg; have hcz13_0 : w12.cell? ⟨gb393, 0, none⟩ = some (.int .i64 a0_0) := bC BK393 0; have hcz13_1 : w12.cell? ⟨gb393, 1, none⟩ = some (.int .i64 a0_1) := bC BK393 1; have hcz13_2 : w12.cell? ⟨gb393, 2, none⟩ = some (.int .i64 a0_2) := bC BK393 2; have hcz13_3 : w12.cell? ⟨gb393, 3, none⟩ = some (.int .i64 a0_3) := bC BK393 3; have hfz13_0 := blk_frozen BK393.out 0; have hfz13_1 := blk_frozen BK393.out 1; have hfz13_2 := blk_frozen BK393.out 2; have hfz13_3 := blk_frozen BK393.out 3) | ((with_reducible refine gate_callee (f := 111) rfl ?_); refine gL (some 5) Try.func111 #[.int .i64 a0_0, .int .i64 1, .int .i64 20] ?_; (with_reducible refine (spec_l1In.calls a0_0 1 20 true _ A2.out).mono ?_); rintro e w' ⟨rfl, ⟨nd, rfl⟩⟩; refine ⟨_, rfl, ?_⟩) | (go_at_call 111; (with_reducible refine (spec_l1In.calls a0_1 1 3 true _ A4.out).mono ?_); rintro e w' ⟨rfl, ⟨nd, rfl⟩⟩) | (go_at_call 111; (with_reducible refine (spec_l1In.calls a0_2 0 3 true _ A6.out).mono ?_); rintro e w' ⟨rfl, ⟨nd, rfl⟩⟩) | (go_at_call 111; (with_reducible refine (spec_l1In.calls a0_3 0 3 false _ A8.out).mono ?_); rintro e w' ⟨rfl, ⟨nd, rfl⟩⟩))
    go_ret
    exact ⟨rA, bG⟩
   replace c7 := Bool.eq_false_iff.mpr c7
   subst c7
   have H1 : (some false) = some r := by rw [if_neg (show ¬ (false = true) by decide)] at H; exact H
   clear H
   have H := H1
   clear H1
   obtain rfl := Option.some.inj H
   go_enter Try.func91, Try.ntmps91
   go_wp2_with (first | ((with_reducible refine gate_dst (N := 1) rfl ?_); refine bE (N := 1) (cs := #[.int .i64 a0_0, .int .i64 a0_1, .int .i64 a0_2, .int .i64 a0_3]) (t := 50) ?_; intro gb393 hg w14 hbox hb; have BK393 := Aside0.mk (hbox); have GW393 := gw w hg; have GE393 := gw w hg; replace HB := bs HB hb; clear hb hbox hg; have hcz15_0 : w14.cell? ⟨gb393, 0, none⟩ = some (.int .i64 a0_0) := bC BK393 0; have hcz15_1 : w14.cell? ⟨gb393, 1, none⟩ = some (.int .i64 a0_1) := bC BK393 1; have hcz15_2 : w14.cell? ⟨gb393, 2, none⟩ = some (.int .i64 a0_2) := bC BK393 2; have hcz15_3 : w14.cell? ⟨gb393, 3, none⟩ = some (.int .i64 a0_3) := bC BK393 3; have hfz15_0 := blk_frozen BK393.out 0; have hfz15_1 := blk_frozen BK393.out 1; have hfz15_2 := blk_frozen BK393.out 2; have hfz15_3 := blk_frozen BK393.out 3) | ((with_reducible refine gate_callee (f := 111) rfl ?_); refine gL (some 5) Try.func111 #[.int .i64 a0_0, .int .i64 1, .int .i64 20] ?_; (with_reducible refine (spec_l1In.calls a0_0 1 20 true _ A2.out).mono ?_); rintro e w' ⟨rfl, ⟨nd, rfl⟩⟩; refine ⟨_, rfl, ?_⟩) | (go_at_call 111; (with_reducible refine (spec_l1In.calls a0_1 1 3 true _ A4.out).mono ?_); rintro e w' ⟨rfl, ⟨nd, rfl⟩⟩) | (go_at_call 111; (with_reducible refine (spec_l1In.calls a0_2 0 3 false _ A6.out).mono ?_); rintro e w' ⟨rfl, ⟨nd, rfl⟩⟩))
   go_ret
   exact ⟨rA, bG⟩
  replace c5 := Bool.eq_false_iff.mpr c5
  subst c5
  have H1 : (some false) = some r := by rw [if_neg (show ¬ (false = true) by decide)] at H; exact H
  clear H
  have H := H1
  clear H1
  obtain rfl := Option.some.inj H
  go_enter Try.func91, Try.ntmps91
  go_wp2_with (first | ((with_reducible refine gate_dst (N := 1) rfl ?_); refine bE (N := 1) (cs := #[.int .i64 a0_0, .int .i64 a0_1, .int .i64 a0_2, .int .i64 a0_3]) (t := 50) ?_; intro gb393 hg w16 hbox hb; have BK393 := Aside0.mk (hbox); have GW393 := gw w hg; have GE393 := gw w hg; replace HB := bs HB hb; clear hb hbox hg; have hcz17_0 : w16.cell? ⟨gb393, 0, none⟩ = some (.int .i64 a0_0) := bC BK393 0; have hcz17_1 : w16.cell? ⟨gb393, 1, none⟩ = some (.int .i64 a0_1) := bC BK393 1; have hcz17_2 : w16.cell? ⟨gb393, 2, none⟩ = some (.int .i64 a0_2) := bC BK393 2; have hcz17_3 : w16.cell? ⟨gb393, 3, none⟩ = some (.int .i64 a0_3) := bC BK393 3; have hfz17_0 := blk_frozen BK393.out 0; have hfz17_1 := blk_frozen BK393.out 1; have hfz17_2 := blk_frozen BK393.out 2; have hfz17_3 := blk_frozen BK393.out 3) | ((with_reducible refine gate_callee (f := 111) rfl ?_); refine gL (some 5) Try.func111 #[.int .i64 a0_0, .int .i64 1, .int .i64 20] ?_; (with_reducible refine (spec_l1In.calls a0_0 1 20 true _ A2.out).mono ?_); rintro e w' ⟨rfl, ⟨nd, rfl⟩⟩; refine ⟨_, rfl, ?_⟩) | (go_at_call 111; (with_reducible refine (spec_l1In.calls a0_1 1 3 false _ A4.out).mono ?_); rintro e w' ⟨rfl, ⟨nd, rfl⟩⟩))
  go_ret
  exact ⟨rA, bG⟩
 replace c3 := Bool.eq_false_iff.mpr c3
 subst c3
 have H1 : (some false) = some r := by rw [if_neg (show ¬ (false = true) by decide)] at H; exact H
 clear H
 have H := H1
 clear H1
 obtain rfl := Option.some.inj H
 go_enter Try.func91, Try.ntmps91
 go_wp2_with (first | ((with_reducible refine gate_dst (N := 1) rfl ?_); refine bE (N := 1) (cs := #[.int .i64 a0_0, .int .i64 a0_1, .int .i64 a0_2, .int .i64 a0_3]) (t := 50) ?_; intro gb393 hg w18 hbox hb; have BK393 := Aside0.mk (hbox); have GW393 := gw w hg; have GE393 := gw w hg; replace HB := bs HB hb; clear hb hbox hg; have hcz19_0 : w18.cell? ⟨gb393, 0, none⟩ = some (.int .i64 a0_0) := bC BK393 0; have hcz19_1 : w18.cell? ⟨gb393, 1, none⟩ = some (.int .i64 a0_1) := bC BK393 1; have hcz19_2 : w18.cell? ⟨gb393, 2, none⟩ = some (.int .i64 a0_2) := bC BK393 2; have hcz19_3 : w18.cell? ⟨gb393, 3, none⟩ = some (.int .i64 a0_3) := bC BK393 3; have hfz19_0 := blk_frozen BK393.out 0; have hfz19_1 := blk_frozen BK393.out 1; have hfz19_2 := blk_frozen BK393.out 2; have hfz19_3 := blk_frozen BK393.out 3) | ((with_reducible refine gate_callee (f := 111) rfl ?_); refine gL (some 5) Try.func111 #[.int .i64 a0_0, .int .i64 1, .int .i64 20] ?_; (with_reducible refine (spec_l1In.calls a0_0 1 20 false _ A2.out).mono ?_); rintro e w' ⟨rfl, ⟨nd, rfl⟩⟩; refine ⟨_, rfl, ?_⟩))
 go_ret
 exact ⟨rA, bG⟩

/-! ### spec_ArePaths: function 33 -/
def spec_ArePaths.l0 : Nat → List (S50) → Int → Option (Bool)
 | 0, _, _ => none
 | k + 1, x0, x3 => if x3 < (x0.length : Int) then (if 0 ≤ x3 then ((spec_IsPath.f ((rd_T50 x0 x3).f0) ((rd_T50 x0 x3).f1) ((rd_T50 x0 x3).f2) ((rd_T50 x0 x3).f3)).bind fun t399 => (if t399 = true then (if x3 > 0 then (if 0 ≤ (wrap64 (x3 - 1)) then (if (wrap64 (x3 - 1)) < (x0.length : Int) then (if ((rd_T50 x0 (wrap64 (x3 - 1))).f0) ≥ ((rd_T50 x0 x3).f0) then (some false) else (spec_ArePaths.l0 k x0 (wrap64 (x3 + 1)))) else (none)) else (none)) else (spec_ArePaths.l0 k x0 (wrap64 (x3 + 1)))) else (some false))) else (none)) else (some (decide ((x0.length : Int) ≤ 12)))
def spec_ArePaths.f (k : Nat) (l0 : List (S50)) : Option (Bool) := spec_ArePaths.l0 k l0 0
theorem spec_ArePaths.mono_l : ∀ k, (∀ y0 y1, LeO (spec_ArePaths.l0 k y0 y1) (spec_ArePaths.l0 (k + 1) y0 y1))
 | 0 => fun _ _ r h => by simp [spec_ArePaths.l0] at h
 | k + 1 => by
  have ih0 := spec_ArePaths.mono_l k
  ·
   intro y0 y1
   unfold spec_ArePaths.l0
   exact mz1 ih0
theorem spec_ArePaths.mono : ∀ a0 k, LeO (spec_ArePaths.f k a0) (spec_ArePaths.f (k + 1) a0) := by
 intro a0 k
 have ih0 := spec_ArePaths.mono_l k
 unfold spec_ArePaths.f
 exact mz1 ih0
def spec_ArePaths.T4 : Bool × List (List Nat × List Nat) := (true, [([], []), ([], []), ([0, 1], [0, 1]), ([2], [2]), ([3], [3]), ([4], [4]), ([5, 4], [5]), ([6], [6]), ([7, 6], [6, 7]), ([8, 6, 6], [6, 8]), ([9], [9]), ([9], [9]), ([11, 9], [9, 11]), ([10, 12, 9], [9, 10, 12]), ([13, 9], [9, 13]), ([14, 9], [9, 14]), ([9], [9]), ([9], [9]), ([16, 17, 9], [9, 16, 17]), ([18, 9], [9, 18]), ([19, 9], [9, 19]), ([15, 20, 9], [9, 15, 20]), ([9, 21, 6], [6, 9, 21]), ([6, 22], [6, 22])])
def spec_ArePaths.B4 : List Nat := [0, 0, 3, 7, 15, 31, 63, 127, 255, 511, 1023, 1023, 3071, 8191, 16383, 32767, 1023, 1023, 197631, 459775, 984063, 2097151, 4194303, 8388607]
theorem spec_ArePaths.tab4 : rtab .any (opsOf Try.f33 4) = spec_ArePaths.T4 := by kernel_rfl
theorem spec_ArePaths.bits4 : waitsOk spec_ArePaths.T4.2 spec_ArePaths.B4 = true := by kernel_rfl
set_option maxHeartbeats 8000000 in
set_option maxRecDepth 100000 in
theorem spec_ArePaths.calls (k : Nat) (A0 : Option Addr) (c0 : Nat) (l0 : List (S50)) (r : Bool) (w : World) (hr0 : Kd.C k50 w A0 l0.length l0) (hc0 : l0.length ≤ c0) (h : spec_ArePaths.f k l0 = some r) :
  Calls Try.prog 33 #[.slice A0 l0.length c0] w fun e w' => e = .returned (.bool r) ∧ Below w.heap.size w w' := by
 have hu50 := Try.underlying50
 have HR0 := Aside0.mk hr0
 have HC0 := Aside0.mk hc0
 clear hr0 hc0
 have HB := Aside0.mk (Below.refl w.heap.size w)
 have H : (spec_ArePaths.l0 k l0 0) = some r := h
 clear h
 have H' := Aside0.mk H
 clear H
 go_enter Try.func33, Try.ntmps33
 go_wp2
 go_loopg [3] k (fun kq v3 w' => ∃ (x3_1 : Int), v3 = .int .i64 x3_1 ∧ Aside0 (spec_ArePaths.l0 kq l0 x3_1 = some r) ∧ Aside0 (kq ≤ k) ∧ Aside0 (Below w.heap.size w w'))
 case atStart => exact ⟨(0), rS, H', ⟨Nat.le_refl _⟩, ⟨bA⟩⟩
 case round =>
  clear H'
  obtain ⟨x3_1, rfl, HA, HK1, HB⟩ := hrel
  cases gk with
  | zero => exact absurd HA.out (by simp [spec_ArePaths.l0])
  | succ k1 =>
   have H := HA.out
   clear HA
   simp only [spec_ArePaths.l0] at H
   by_cases c2 : x3_1 < (l0.length : Int)
   ·
    rw [if_pos c2] at H
    have c2b0 := decide_eq_true c2
    clear c2
    have c3 : 0 ≤ x3_1 := ifN H
    replace H := ifT H
    have c3b0 := decide_eq_true c3
    clear c3
    obtain ⟨t399, A4, H⟩ := bindE H
    try dsimp only at H
    by_cases c5 : t399 = true
    ·
     subst c5
     have H1 : (if x3_1 > 0 then (if 0 ≤ (wrap64 (x3_1 - 1)) then (if (wrap64 (x3_1 - 1)) < (l0.length : Int) then (if ((rd_T50 l0 (wrap64 (x3_1 - 1))).f0) ≥ ((rd_T50 l0 x3_1).f0) then (some false) else (spec_ArePaths.l0 k1 l0 (wrap64 (x3_1 + 1)))) else (none)) else (none)) else (spec_ArePaths.l0 k1 l0 (wrap64 (x3_1 + 1)))) = some r := by rw [if_pos rfl] at H; exact H
     clear H
     have H := H1
     clear H1
     by_cases c6 : x3_1 > 0
     ·
      rw [if_pos c6] at H
      have c6b0 := decide_eq_true c6
      clear c6
      obtain ⟨ji7, hji7⟩ : ∃ j_ : Int, (wrap64 (x3_1 - 1)) = j_ := ⟨_, rfl⟩
      replace H : (if 0 ≤ (ji7) then (if (ji7) < (l0.length : Int) then (if ((rd_T50 l0 (ji7)).f0) ≥ ((rd_T50 l0 x3_1).f0) then (some false) else (spec_ArePaths.l0 k1 l0 (wrap64 (x3_1 + 1)))) else (none)) else (none)) = some r := by first | (rw [hji7] at H; exact H) | (simp only [hji7] at H ⊢; exact H)
      (try rw [hji7] at A4)
      have hji7w : (IntKind.i64.wrap (x3_1 - 1)) = ji7 := (i64_w _).trans hji7
      have c8 : 0 ≤ (ji7) := ifN H
      replace H := ifT H
      have c8b0 := decide_eq_true c8
      clear c8
      have c9 : (ji7) < (l0.length : Int) := ifN H
      replace H := ifT H
      have c9b0 := decide_eq_true c9
      clear c9
      by_cases c10 : ((rd_T50 l0 (ji7)).f0) ≥ ((rd_T50 l0 x3_1).f0)
      ·
       rw [if_pos c10] at H
       have c10b0 := decide_eq_true c10
       clear c10
       obtain rfl := Option.some.inj H
       try go_wp2
       have HBo := HB
       replace HB := db HB
       obtain ⟨p398, q398⟩ : 0 ≤ (x3_1 : Int) ∧ x3_1 < (l0.length : Int) := ⟨dA, dA⟩
       obtain ⟨ad398, e398, hx398_0, hx398_1, hx398_2, hx398_3⟩ := at_T50 HR0.out x3_1 p398 q398
       have hw398_3 := hx398_3
       have hw398_2 := hx398_2
       have hw398_1 := hx398_1
       have hw398_0 := hx398_0
       cases e398
       replace hx398_0 := hC HB hx398_0
       replace hx398_1 := hC HB hx398_1
       replace hx398_2 := hC HB hx398_2
       replace hx398_3 := hC HB hx398_3
       obtain ⟨p398, q398⟩ := eT p398 q398
       obtain ⟨p400, q400⟩ : 0 ≤ ((ji7) : Int) ∧ (ji7) < (l0.length : Int) := ⟨dA, dA⟩
       obtain ⟨ad400, e400, hx400_0, hx400_1, hx400_2, hx400_3⟩ := at_T50 HR0.out (ji7) p400 q400
       have hw400_3 := hx400_3
       have hw400_2 := hx400_2
       have hw400_1 := hx400_1
       have hw400_0 := hx400_0
       obtain rfl : ad398 = ad400 := (by injection e400)
       replace hx400_0 := hC HB hx400_0
       replace hx400_1 := hC HB hx400_1
       replace hx400_2 := hC HB hx400_2
       replace hx400_3 := hC HB hx400_3
       obtain ⟨p400, q400⟩ := eT p400 q400
       obtain ⟨p401, q401⟩ : 0 ≤ (x3_1 : Int) ∧ x3_1 < (l0.length : Int) := ⟨dA, dA⟩
       obtain ⟨ad401, e401, hx401_0, hx401_1, hx401_2, hx401_3⟩ := at_T50 HR0.out x3_1 p401 q401
       have hw401_3 := hx401_3
       have hw401_2 := hx401_2
       have hw401_1 := hx401_1
       have hw401_0 := hx401_0
       obtain rfl : ad398 = ad401 := (by injection e401)
       replace hx401_0 := hC HB hx401_0
       replace hx401_1 := hC HB hx401_1
       replace hx401_2 := hC HB hx401_2
       replace hx401_3 := hC HB hx401_3
       obtain ⟨p401, q401⟩ := eT p401 q401
       refine start_ (n := 24) (S := fun w' => w'.cell? (ad398.add ((x3_1).toNat * 4)) = some (.int .i64 ((rd_T50 l0 x3_1).f0)) ∧ w'.cell? ⟨(ad398.add ((x3_1).toNat * 4)).block, (ad398.add ((x3_1).toNat * 4)).off + 1, none⟩ = some (.int .i64 ((rd_T50 l0 x3_1).f1)) ∧ w'.cell? ⟨(ad398.add ((x3_1).toNat * 4)).block, (ad398.add ((x3_1).toNat * 4)).off + 2, none⟩ = some (.int .i64 ((rd_T50 l0 x3_1).f2)) ∧ w'.cell? ⟨(ad398.add ((x3_1).toNat * 4)).block, (ad398.add ((x3_1).toNat * 4)).off + 3, none⟩ = some (.int .i64 ((rd_T50 l0 x3_1).f3)) ∧ w'.cell? (ad398.add (((ji7)).toNat * 4)) = some (.int .i64 ((rd_T50 l0 (ji7)).f0)) ∧ w'.cell? ⟨(ad398.add (((ji7)).toNat * 4)).block, (ad398.add (((ji7)).toNat * 4)).off + 1, none⟩ = some (.int .i64 ((rd_T50 l0 (ji7)).f1)) ∧ w'.cell? ⟨(ad398.add (((ji7)).toNat * 4)).block, (ad398.add (((ji7)).toNat * 4)).off + 2, none⟩ = some (.int .i64 ((rd_T50 l0 (ji7)).f2)) ∧ w'.cell? ⟨(ad398.add (((ji7)).toNat * 4)).block, (ad398.add (((ji7)).toNat * 4)).off + 3, none⟩ = some (.int .i64 ((rd_T50 l0 (ji7)).f3)) ∧ w'.cell? (ad398.add ((x3_1).toNat * 4)) = some (.int .i64 ((rd_T50 l0 x3_1).f0)) ∧ w'.cell? ⟨(ad398.add ((x3_1).toNat * 4)).block, (ad398.add ((x3_1).toNat * 4)).off + 1, none⟩ = some (.int .i64 ((rd_T50 l0 x3_1).f1)) ∧ w'.cell? ⟨(ad398.add ((x3_1).toNat * 4)).block, (ad398.add ((x3_1).toNat * 4)).off + 2, none⟩ = some (.int .i64 ((rd_T50 l0 x3_1).f2)) ∧ w'.cell? ⟨(ad398.add ((x3_1).toNat * 4)).block, (ad398.add ((x3_1).toNat * 4)).off + 3, none⟩ = some (.int .i64 ((rd_T50 l0 x3_1).f3))) (ds := []) (mb 24 0) (by kernel_rfl) rfl rfl ⟨(hC HB hw398_0), (hC HB hw398_1), (hC HB hw398_2), (hC HB hw398_3), (hC HB hw400_0), (hC HB hw400_1), (hC HB hw400_2), (hC HB hw400_3), (hC HB hw401_0), (hC HB hw401_1), (hC HB hw401_2), (hC HB hw401_3)⟩ (fun hHeld => ?_); refine with_tabW spec_ArePaths.tab4 spec_ArePaths.bits4 (fun HT_ HW_ => ?_)
       generalize wr.drew = w11 at HB hx398_0 hx398_1 hx398_2 hx398_3 hx400_0 hx400_1 hx400_2 hx400_3 hx401_0 hx401_1 hx401_2 hx401_3 hHeld ⊢
       refine pa 0 10 (mb 24 1) HT_ ?_
       refine pa 1 11 (mb 24 3) HT_ ?_
       refine pa 2 12 (mb 24 7) HT_ ?_
       refine ta12 3 13 (mb 24 15) HT_ HW_ hHeld ?_
       refine oa 4 14 (mb 24 31) HT_ (fun K hK => ?_)
       refine gA Try.func91 #[.agg #[.int .i64 ((rd_T50 l0 x3_1).f0), .int .i64 ((rd_T50 l0 x3_1).f1), .int .i64 ((rd_T50 l0 x3_1).f2), .int .i64 ((rd_T50 l0 x3_1).f3)]] ?_
       with_reducible refine (spec_IsPath.calls ((rd_T50 l0 x3_1).f0) ((rd_T50 l0 x3_1).f1) ((rd_T50 l0 x3_1).f2) ((rd_T50 l0 x3_1).f3) true _ A4.out).mono ?_
       rintro e w12 ⟨rfl, hb⟩
       refine ⟨_, rfl, ?_⟩
       replace HB := bs HB hb
       (try clear hb)
       (try clear hb2)
       (try clear hk)
       (try clear hi)
       refine hK.out _ _ ⟨(hC HB hw398_0), (hC HB hw398_1), (hC HB hw398_2), (hC HB hw398_3), (hC HB hw400_0), (hC HB hw400_1), (hC HB hw400_2), (hC HB hw400_3), (hC HB hw401_0), (hC HB hw401_1), (hC HB hw401_2), (hC HB hw401_3)⟩ (fun hHeld => ?_)
       clear hK K
       refine nB ?_
       refine pa 5 15 (mb 24 63) HT_ ?_
       refine pa 6 16 (mb 24 127) HT_ ?_
       refine pa 7 17 (mb 24 255) HT_ ?_
       refine pa 8 18 (mb 24 511) HT_ ?_
       refine pa 9 19 (mb 24 1023) HT_ ?_
       refine pa 10 20 (mb 24 2047) HT_ ?_
       refine pa 11 21 (mb 24 4095) HT_ ?_
       refine pa 12 22 (mb 24 8191) HT_ ?_
       refine pa 13 23 (mb 24 16383) HT_ ?_
       refine pa 14 24 (mb 24 32767) HT_ ?_
       refine pa 16 26 (mb 24 98303) HT_ ?_
       refine pa 17 27 (mb 24 229375) HT_ ?_
       refine pa 18 28 (mb 24 491519) HT_ ?_
       refine pa 19 29 (mb 24 1015807) HT_ ?_
       refine ta12 15 25 (mb 24 1048575) HT_ HW_ hHeld ?_
       refine ta12 20 30 (mb 24 2097151) HT_ HW_ hHeld ?_
       refine pa 21 31 (mb 24 4194303) HT_ ?_
       refine pa 22 32 (mb 24 8388607) HT_ ?_
       refine pa 23 33 (mb 24 16777215) HT_ ?_
       refine eA HT_ ?_
       try go_wp2
       go_ret
       exact ⟨by first | rfl | (simp [errW_none, errW_some] <;> rfl) | (simp only [← hji7]; first | rfl | (simp [errW_none, errW_some] <;> rfl)) | (simp [*, errW_none, errW_some] <;> rfl), bA⟩
      rw [if_neg c10] at H
      have c10b0 := decide_eq_false c10
      clear c10
      have H' := Aside0.mk H
      clear H
      try go_wp2
      have HBo := HB
      replace HB := db HB
      obtain ⟨p398, q398⟩ : 0 ≤ (x3_1 : Int) ∧ x3_1 < (l0.length : Int) := ⟨dA, dA⟩
      obtain ⟨ad398, e398, hx398_0, hx398_1, hx398_2, hx398_3⟩ := at_T50 HR0.out x3_1 p398 q398
      have hw398_3 := hx398_3
      have hw398_2 := hx398_2
      have hw398_1 := hx398_1
      have hw398_0 := hx398_0
      cases e398
      replace hx398_0 := hC HB hx398_0
      replace hx398_1 := hC HB hx398_1
      replace hx398_2 := hC HB hx398_2
      replace hx398_3 := hC HB hx398_3
      obtain ⟨p398, q398⟩ := eT p398 q398
      obtain ⟨p400, q400⟩ : 0 ≤ ((ji7) : Int) ∧ (ji7) < (l0.length : Int) := ⟨dA, dA⟩
      obtain ⟨ad400, e400, hx400_0, hx400_1, hx400_2, hx400_3⟩ := at_T50 HR0.out (ji7) p400 q400
      have hw400_3 := hx400_3
      have hw400_2 := hx400_2
      have hw400_1 := hx400_1
      have hw400_0 := hx400_0
      obtain rfl : ad398 = ad400 := (by injection e400)
      replace hx400_0 := hC HB hx400_0
      replace hx400_1 := hC HB hx400_1
      replace hx400_2 := hC HB hx400_2
      replace hx400_3 := hC HB hx400_3
      obtain ⟨p400, q400⟩ := eT p400 q400
      obtain ⟨p401, q401⟩ : 0 ≤ (x3_1 : Int) ∧ x3_1 < (l0.length : Int) := ⟨dA, dA⟩
      obtain ⟨ad401, e401, hx401_0, hx401_1, hx401_2, hx401_3⟩ := at_T50 HR0.out x3_1 p401 q401
      have hw401_3 := hx401_3
      have hw401_2 := hx401_2
      have hw401_1 := hx401_1
      have hw401_0 := hx401_0
      obtain rfl : ad398 = ad401 := (by injection e401)
      replace hx401_0 := hC HB hx401_0
      replace hx401_1 := hC HB hx401_1
      replace hx401_2 := hC HB hx401_2
      replace hx401_3 := hC HB hx401_3
      obtain ⟨p401, q401⟩ := eT p401 q401
      refine start_ (n := 24) (S := fun w' => w'.cell? (ad398.add ((x3_1).toNat * 4)) = some (.int .i64 ((rd_T50 l0 x3_1).f0)) ∧ w'.cell? ⟨(ad398.add ((x3_1).toNat * 4)).block, (ad398.add ((x3_1).toNat * 4)).off + 1, none⟩ = some (.int .i64 ((rd_T50 l0 x3_1).f1)) ∧ w'.cell? ⟨(ad398.add ((x3_1).toNat * 4)).block, (ad398.add ((x3_1).toNat * 4)).off + 2, none⟩ = some (.int .i64 ((rd_T50 l0 x3_1).f2)) ∧ w'.cell? ⟨(ad398.add ((x3_1).toNat * 4)).block, (ad398.add ((x3_1).toNat * 4)).off + 3, none⟩ = some (.int .i64 ((rd_T50 l0 x3_1).f3)) ∧ w'.cell? (ad398.add (((ji7)).toNat * 4)) = some (.int .i64 ((rd_T50 l0 (ji7)).f0)) ∧ w'.cell? ⟨(ad398.add (((ji7)).toNat * 4)).block, (ad398.add (((ji7)).toNat * 4)).off + 1, none⟩ = some (.int .i64 ((rd_T50 l0 (ji7)).f1)) ∧ w'.cell? ⟨(ad398.add (((ji7)).toNat * 4)).block, (ad398.add (((ji7)).toNat * 4)).off + 2, none⟩ = some (.int .i64 ((rd_T50 l0 (ji7)).f2)) ∧ w'.cell? ⟨(ad398.add (((ji7)).toNat * 4)).block, (ad398.add (((ji7)).toNat * 4)).off + 3, none⟩ = some (.int .i64 ((rd_T50 l0 (ji7)).f3)) ∧ w'.cell? (ad398.add ((x3_1).toNat * 4)) = some (.int .i64 ((rd_T50 l0 x3_1).f0)) ∧ w'.cell? ⟨(ad398.add ((x3_1).toNat * 4)).block, (ad398.add ((x3_1).toNat * 4)).off + 1, none⟩ = some (.int .i64 ((rd_T50 l0 x3_1).f1)) ∧ w'.cell? ⟨(ad398.add ((x3_1).toNat * 4)).block, (ad398.add ((x3_1).toNat * 4)).off + 2, none⟩ = some (.int .i64 ((rd_T50 l0 x3_1).f2)) ∧ w'.cell? ⟨(ad398.add ((x3_1).toNat * 4)).block, (ad398.add ((x3_1).toNat * 4)).off + 3, none⟩ = some (.int .i64 ((rd_T50 l0 x3_1).f3))) (ds := []) (mb 24 0) (by kernel_rfl) rfl rfl ⟨(hC HB hw398_0), (hC HB hw398_1), (hC HB hw398_2), (hC HB hw398_3), (hC HB hw400_0), (hC HB hw400_1), (hC HB hw400_2), (hC HB hw400_3), (hC HB hw401_0), (hC HB hw401_1), (hC HB hw401_2), (hC HB hw401_3)⟩ (fun hHeld => ?_); refine with_tabW spec_ArePaths.tab4 spec_ArePaths.bits4 (fun HT_ HW_ => ?_)
      generalize wr.drew = w13 at HB hx398_0 hx398_1 hx398_2 hx398_3 hx400_0 hx400_1 hx400_2 hx400_3 hx401_0 hx401_1 hx401_2 hx401_3 hHeld ⊢
      refine pa 0 10 (mb 24 1) HT_ ?_
      refine pa 1 11 (mb 24 3) HT_ ?_
      refine pa 2 12 (mb 24 7) HT_ ?_
      refine ta12 3 13 (mb 24 15) HT_ HW_ hHeld ?_
      refine oa 4 14 (mb 24 31) HT_ (fun K hK => ?_)
      refine gA Try.func91 #[.agg #[.int .i64 ((rd_T50 l0 x3_1).f0), .int .i64 ((rd_T50 l0 x3_1).f1), .int .i64 ((rd_T50 l0 x3_1).f2), .int .i64 ((rd_T50 l0 x3_1).f3)]] ?_
      with_reducible refine (spec_IsPath.calls ((rd_T50 l0 x3_1).f0) ((rd_T50 l0 x3_1).f1) ((rd_T50 l0 x3_1).f2) ((rd_T50 l0 x3_1).f3) true _ A4.out).mono ?_
      rintro e w14 ⟨rfl, hb⟩
      refine ⟨_, rfl, ?_⟩
      replace HB := bs HB hb
      (try clear hb)
      (try clear hb2)
      (try clear hk)
      (try clear hi)
      refine hK.out _ _ ⟨(hC HB hw398_0), (hC HB hw398_1), (hC HB hw398_2), (hC HB hw398_3), (hC HB hw400_0), (hC HB hw400_1), (hC HB hw400_2), (hC HB hw400_3), (hC HB hw401_0), (hC HB hw401_1), (hC HB hw401_2), (hC HB hw401_3)⟩ (fun hHeld => ?_)
      clear hK K
      refine nB ?_
      refine pa 5 15 (mb 24 63) HT_ ?_
      refine pa 6 16 (mb 24 127) HT_ ?_
      refine pa 7 17 (mb 24 255) HT_ ?_
      refine pa 8 18 (mb 24 511) HT_ ?_
      refine pa 9 19 (mb 24 1023) HT_ ?_
      refine pa 10 20 (mb 24 2047) HT_ ?_
      refine pa 11 21 (mb 24 4095) HT_ ?_
      refine pa 12 22 (mb 24 8191) HT_ ?_
      refine pa 13 23 (mb 24 16383) HT_ ?_
      refine pa 14 24 (mb 24 32767) HT_ ?_
      refine pa 16 26 (mb 24 98303) HT_ ?_
      refine pa 17 27 (mb 24 229375) HT_ ?_
      refine pa 18 28 (mb 24 491519) HT_ ?_
      refine pa 19 29 (mb 24 1015807) HT_ ?_
      refine ta12 15 25 (mb 24 1048575) HT_ HW_ hHeld ?_
      refine ta12 20 30 (mb 24 2097151) HT_ HW_ hHeld ?_
      refine pa 21 31 (mb 24 4194303) HT_ ?_
      refine pa 22 32 (mb 24 8388607) HT_ ?_
      refine pa 23 33 (mb 24 16777215) HT_ ?_
      refine eA HT_ ?_
      try go_wp2
      go_roundg k1
      case measure => have := HK1.out; omega
      case rel => exact ⟨(wrap64 (x3_1 + 1)), rS, H', ⟨by have := HK1.out; omega⟩, ⟨bA⟩⟩
     rw [if_neg c6] at H
     have c6b0 := decide_eq_false c6
     clear c6
     have H' := Aside0.mk H
     clear H
     try go_wp2
     have HBo := HB
     replace HB := db HB
     obtain ⟨p398, q398⟩ : 0 ≤ (x3_1 : Int) ∧ x3_1 < (l0.length : Int) := ⟨dA, dA⟩
     obtain ⟨ad398, e398, hx398_0, hx398_1, hx398_2, hx398_3⟩ := at_T50 HR0.out x3_1 p398 q398
     have hw398_3 := hx398_3
     have hw398_2 := hx398_2
     have hw398_1 := hx398_1
     have hw398_0 := hx398_0
     cases e398
     replace hx398_0 := hC HB hx398_0
     replace hx398_1 := hC HB hx398_1
     replace hx398_2 := hC HB hx398_2
     replace hx398_3 := hC HB hx398_3
     obtain ⟨p398, q398⟩ := eT p398 q398
     refine start_ (n := 24) (S := fun w' => w'.cell? (ad398.add ((x3_1).toNat * 4)) = some (.int .i64 ((rd_T50 l0 x3_1).f0)) ∧ w'.cell? ⟨(ad398.add ((x3_1).toNat * 4)).block, (ad398.add ((x3_1).toNat * 4)).off + 1, none⟩ = some (.int .i64 ((rd_T50 l0 x3_1).f1)) ∧ w'.cell? ⟨(ad398.add ((x3_1).toNat * 4)).block, (ad398.add ((x3_1).toNat * 4)).off + 2, none⟩ = some (.int .i64 ((rd_T50 l0 x3_1).f2)) ∧ w'.cell? ⟨(ad398.add ((x3_1).toNat * 4)).block, (ad398.add ((x3_1).toNat * 4)).off + 3, none⟩ = some (.int .i64 ((rd_T50 l0 x3_1).f3))) (ds := []) (mb 24 0) (by kernel_rfl) rfl rfl ⟨(hC HB hw398_0), (hC HB hw398_1), (hC HB hw398_2), (hC HB hw398_3)⟩ (fun hHeld => ?_); refine with_tabW spec_ArePaths.tab4 spec_ArePaths.bits4 (fun HT_ HW_ => ?_)
     generalize wr.drew = w15 at HB hx398_0 hx398_1 hx398_2 hx398_3 hHeld ⊢
     refine pa 0 10 (mb 24 1) HT_ ?_
     refine pa 1 11 (mb 24 3) HT_ ?_
     refine pa 2 12 (mb 24 7) HT_ ?_
     refine ta4 3 13 (mb 24 15) HT_ HW_ hHeld ?_
     refine oa 4 14 (mb 24 31) HT_ (fun K hK => ?_)
     refine gA Try.func91 #[.agg #[.int .i64 ((rd_T50 l0 x3_1).f0), .int .i64 ((rd_T50 l0 x3_1).f1), .int .i64 ((rd_T50 l0 x3_1).f2), .int .i64 ((rd_T50 l0 x3_1).f3)]] ?_
     with_reducible refine (spec_IsPath.calls ((rd_T50 l0 x3_1).f0) ((rd_T50 l0 x3_1).f1) ((rd_T50 l0 x3_1).f2) ((rd_T50 l0 x3_1).f3) true _ A4.out).mono ?_
     rintro e w16 ⟨rfl, hb⟩
     refine ⟨_, rfl, ?_⟩
     replace HB := bs HB hb
     (try clear hb)
     (try clear hb2)
     (try clear hk)
     (try clear hi)
     refine hK.out _ _ ⟨(hC HB hw398_0), (hC HB hw398_1), (hC HB hw398_2), (hC HB hw398_3)⟩ (fun hHeld => ?_)
     clear hK K
     refine nB ?_
     refine pa 5 15 (mb 24 63) HT_ ?_
     refine pa 6 16 (mb 24 127) HT_ ?_
     refine pa 7 17 (mb 24 255) HT_ ?_
     refine pa 8 18 (mb 24 511) HT_ ?_
     refine pa 9 19 (mb 24 1023) HT_ ?_
     refine pu 10 20 (mb 24 2047) HT_ ?_
     refine pu 11 21 (mb 24 4095) HT_ ?_
     refine pu 12 22 (mb 24 8191) HT_ ?_
     refine pu 13 23 (mb 24 16383) HT_ ?_
     refine pu 14 24 (mb 24 32767) HT_ ?_
     refine pu 15 25 (mb 24 65535) HT_ ?_
     refine pu 16 26 (mb 24 131071) HT_ ?_
     refine pu 17 27 (mb 24 262143) HT_ ?_
     refine pu 18 28 (mb 24 524287) HT_ ?_
     refine pu 19 29 (mb 24 1048575) HT_ ?_
     refine pu 20 30 (mb 24 2097151) HT_ ?_
     refine pu 21 31 (mb 24 4194303) HT_ ?_
     refine pa 22 32 (mb 24 8388607) HT_ ?_
     refine pa 23 33 (mb 24 16777215) HT_ ?_
     refine eA HT_ ?_
     try go_wp2
     go_roundg k1
     case measure => have := HK1.out; omega
     case rel => exact ⟨(wrap64 (x3_1 + 1)), rS, H', ⟨by have := HK1.out; omega⟩, ⟨bA⟩⟩
    replace c5 := Bool.eq_false_iff.mpr c5
    subst c5
    have H1 : (some false) = some r := by rw [if_neg (show ¬ (false = true) by decide)] at H; exact H
    clear H
    have H := H1
    clear H1
    obtain rfl := Option.some.inj H
    try go_wp2
    have HBo := HB
    replace HB := db HB
    obtain ⟨p398, q398⟩ : 0 ≤ (x3_1 : Int) ∧ x3_1 < (l0.length : Int) := ⟨dA, dA⟩
    obtain ⟨ad398, e398, hx398_0, hx398_1, hx398_2, hx398_3⟩ := at_T50 HR0.out x3_1 p398 q398
    have hw398_3 := hx398_3
    have hw398_2 := hx398_2
    have hw398_1 := hx398_1
    have hw398_0 := hx398_0
    cases e398
    replace hx398_0 := hC HB hx398_0
    replace hx398_1 := hC HB hx398_1
    replace hx398_2 := hC HB hx398_2
    replace hx398_3 := hC HB hx398_3
    obtain ⟨p398, q398⟩ := eT p398 q398
    refine start_ (n := 24) (S := fun w' => w'.cell? (ad398.add ((x3_1).toNat * 4)) = some (.int .i64 ((rd_T50 l0 x3_1).f0)) ∧ w'.cell? ⟨(ad398.add ((x3_1).toNat * 4)).block, (ad398.add ((x3_1).toNat * 4)).off + 1, none⟩ = some (.int .i64 ((rd_T50 l0 x3_1).f1)) ∧ w'.cell? ⟨(ad398.add ((x3_1).toNat * 4)).block, (ad398.add ((x3_1).toNat * 4)).off + 2, none⟩ = some (.int .i64 ((rd_T50 l0 x3_1).f2)) ∧ w'.cell? ⟨(ad398.add ((x3_1).toNat * 4)).block, (ad398.add ((x3_1).toNat * 4)).off + 3, none⟩ = some (.int .i64 ((rd_T50 l0 x3_1).f3))) (ds := []) (mb 24 0) (by kernel_rfl) rfl rfl ⟨(hC HB hw398_0), (hC HB hw398_1), (hC HB hw398_2), (hC HB hw398_3)⟩ (fun hHeld => ?_); refine with_tabW spec_ArePaths.tab4 spec_ArePaths.bits4 (fun HT_ HW_ => ?_)
    generalize wr.drew = w17 at HB hx398_0 hx398_1 hx398_2 hx398_3 hHeld ⊢
    refine pa 0 10 (mb 24 1) HT_ ?_
    refine pa 1 11 (mb 24 3) HT_ ?_
    refine pa 2 12 (mb 24 7) HT_ ?_
    refine ta4 3 13 (mb 24 15) HT_ HW_ hHeld ?_
    refine oa 4 14 (mb 24 31) HT_ (fun K hK => ?_)
    refine gA Try.func91 #[.agg #[.int .i64 ((rd_T50 l0 x3_1).f0), .int .i64 ((rd_T50 l0 x3_1).f1), .int .i64 ((rd_T50 l0 x3_1).f2), .int .i64 ((rd_T50 l0 x3_1).f3)]] ?_
    with_reducible refine (spec_IsPath.calls ((rd_T50 l0 x3_1).f0) ((rd_T50 l0 x3_1).f1) ((rd_T50 l0 x3_1).f2) ((rd_T50 l0 x3_1).f3) false _ A4.out).mono ?_
    rintro e w18 ⟨rfl, hb⟩
    refine ⟨_, rfl, ?_⟩
    replace HB := bs HB hb
    (try clear hb)
    (try clear hb2)
    (try clear hk)
    (try clear hi)
    refine hK.out _ _ ⟨(hC HB hw398_0), (hC HB hw398_1), (hC HB hw398_2), (hC HB hw398_3)⟩ (fun hHeld => ?_)
    clear hK K
    refine nB ?_
    refine pa 5 15 (mb 24 63) HT_ ?_
    refine pa 6 16 (mb 24 127) HT_ ?_
    refine pu 7 17 (mb 24 255) HT_ ?_
    refine pu 8 18 (mb 24 511) HT_ ?_
    refine pu 9 19 (mb 24 1023) HT_ ?_
    refine pu 10 20 (mb 24 2047) HT_ ?_
    refine pu 11 21 (mb 24 4095) HT_ ?_
    refine pu 12 22 (mb 24 8191) HT_ ?_
    refine pu 13 23 (mb 24 16383) HT_ ?_
    refine pu 14 24 (mb 24 32767) HT_ ?_
    refine pu 15 25 (mb 24 65535) HT_ ?_
    refine pu 16 26 (mb 24 131071) HT_ ?_
    refine pu 17 27 (mb 24 262143) HT_ ?_
    refine pu 18 28 (mb 24 524287) HT_ ?_
    refine pu 19 29 (mb 24 1048575) HT_ ?_
    refine pu 20 30 (mb 24 2097151) HT_ ?_
    refine pu 21 31 (mb 24 4194303) HT_ ?_
    refine pu 22 32 (mb 24 8388607) HT_ ?_
    refine pa 23 33 (mb 24 16777215) HT_ ?_
    refine eA HT_ ?_
    try go_wp2
    go_ret
    exact ⟨rA, bA⟩
   rw [if_neg c2] at H
   have c2b0 := decide_eq_false c2
   clear c2
   obtain rfl := Option.some.inj H
   go_wp2
   go_ret
   exact ⟨rA, bA⟩

/-! ### spec_FindPath: function 144 -/
def spec_FindPath.l0 : Nat → List (S50) → Int → Int → Option (Int)
 | 0, _, _, _ => none
 | k + 1, x0, x1, x5 => if x5 < (x0.length : Int) then (if 0 ≤ x5 then (if ((rd_T50 x0 x5).f0) = x1 then (some x5) else (spec_FindPath.l0 k x0 x1 (wrap64 (x5 + 1)))) else (none)) else (some (-1))
def spec_FindPath.f (k : Nat) (l0 : List (S50)) (a1 : Int) : Option (Int) := spec_FindPath.l0 k l0 a1 0
theorem spec_FindPath.mono_l : ∀ k, (∀ y0 y1 y2, LeO (spec_FindPath.l0 k y0 y1 y2) (spec_FindPath.l0 (k + 1) y0 y1 y2))
 | 0 => fun _ _ _ r h => by simp [spec_FindPath.l0] at h
 | k + 1 => by
  have ih0 := spec_FindPath.mono_l k
  ·
   intro y0 y1 y2
   unfold spec_FindPath.l0
   exact mz1 ih0
theorem spec_FindPath.mono : ∀ a0 a1 k, LeO (spec_FindPath.f k a0 a1) (spec_FindPath.f (k + 1) a0 a1) := by
 intro a0 a1 k
 have ih0 := spec_FindPath.mono_l k
 unfold spec_FindPath.f
 exact mz1 ih0
set_option maxHeartbeats 8000000 in
set_option maxRecDepth 100000 in
theorem spec_FindPath.calls (k : Nat) (A0 : Option Addr) (c0 : Nat) (l0 : List (S50)) (a1 : Int) (r : Int) (w : World) (hr0 : Kd.C k50 w A0 l0.length l0) (hc0 : l0.length ≤ c0) (h : spec_FindPath.f k l0 a1 = some r) :
  Calls Try.prog 144 #[.slice A0 l0.length c0, .int .i64 a1] w fun e w' => e = .returned (.int .i64 r) ∧ Drawn0 w w' := by
 have HR0 := Aside0.mk hr0
 have HC0 := Aside0.mk hc0
 clear hr0 hc0
 have H : (spec_FindPath.l0 k l0 a1 0) = some r := h
 clear h
 have H' := Aside0.mk H
 clear H
 go_enter Try.func144, Try.ntmps144
 go_wp2
 go_loopg [5] k (fun kq v5 w' => ∃ (x5_1 : Int), v5 = .int .i64 x5_1 ∧ Aside0 (spec_FindPath.l0 kq l0 a1 x5_1 = some r) ∧ Aside0 (kq ≤ k) ∧ Drawn0 w w')
 case atStart => exact ⟨(0), rS, H', ⟨Nat.le_refl _⟩, by repeat (first | exact Drawn0.refl _ | apply Drawn0.step)⟩
 case round =>
  clear H'
  obtain ⟨x5_1, rfl, HA, HK1, ⟨m1, rfl⟩⟩ := hrel
  cases gk with
  | zero => exact absurd HA.out (by simp [spec_FindPath.l0])
  | succ k1 =>
   have H := HA.out
   clear HA
   simp only [spec_FindPath.l0] at H
   by_cases c3 : x5_1 < (l0.length : Int)
   ·
    rw [if_pos c3] at H
    have c3b0 := decide_eq_true c3
    clear c3
    have c4 : 0 ≤ x5_1 := ifN H
    replace H := ifT H
    have c4b0 := decide_eq_true c4
    clear c4
    by_cases c5 : ((rd_T50 l0 x5_1).f0) = a1
    ·
     rw [if_pos c5] at H
     have c5b0 : (((rd_T50 l0 x5_1).f0) == a1) = true := beq_iff_eq.mpr c5
     have c5b1 : (((rd_T50 l0 x5_1).f0) != a1) = false := bne_eq_false_iff_eq.mpr c5
     clear c5
     obtain rfl := Option.some.inj H
     obtain ⟨p402, q402⟩ : 0 ≤ (x5_1 : Int) ∧ x5_1 < (l0.length : Int) := ⟨dA, dA⟩
     obtain ⟨ad402, e402, hx402_0, hx402_1, hx402_2, hx402_3⟩ := at_T50 HR0.out x5_1 p402 q402
     cases e402
     obtain ⟨p402, q402⟩ := eT p402 q402
     go_wp2
     go_ret
     exact ⟨rS, dD⟩
    rw [if_neg c5] at H
    have c5b0 : (((rd_T50 l0 x5_1).f0) == a1) = false := beq_eq_false_iff_ne.mpr c5
    have c5b1 : (((rd_T50 l0 x5_1).f0) != a1) = true := bne_iff_ne.mpr c5
    have H' := Aside0.mk H
    clear H
    obtain ⟨p402, q402⟩ : 0 ≤ (x5_1 : Int) ∧ x5_1 < (l0.length : Int) := ⟨dA, dA⟩
    obtain ⟨ad402, e402, hx402_0, hx402_1, hx402_2, hx402_3⟩ := at_T50 HR0.out x5_1 p402 q402
    cases e402
    obtain ⟨p402, q402⟩ := eT p402 q402
    go_wp2
    go_roundg k1
    case measure => have := HK1.out; omega
    case rel => exact ⟨(wrap64 (x5_1 + 1)), rS, H', ⟨by have := HK1.out; omega⟩, by repeat (first | exact Drawn0.refl _ | apply Drawn0.step)⟩
   rw [if_neg c3] at H
   have c3b0 := decide_eq_false c3
   clear c3
   obtain rfl := Option.some.inj H
   go_wp2
   go_ret
   exact ⟨rS, dD⟩

/-! ### spec_Interleave: function 167 -/
mutual
def spec_Interleave.l0 : Nat → Int → Int → Int → Int → List Int → Int → Option (Bool)
 | 0, _, _, _, _, _, _ => none
 | k + 1, x0, x1, x2, x3, x9, x10 => if x10 < 4 then (spec_Interleave.l1 k x0 x1 x2 x3 x9 x10 0) else (spec_Interleave.l2 k x1 x2 x3 0 (Int.tmod (wrap64 (x0 + 1)) 8))
def spec_Interleave.l1 : Nat → Int → Int → Int → Int → List Int → Int → Int → Option (Bool)
 | 0, _, _, _, _, _, _, _ => none
 | k + 1, x0, x1, x2, x3, x9, x10, x11 => if x11 < x10 then (if 0 ≤ x10 then (if x10 < (x9.length : Int) then (if 0 ≤ x11 then (if x11 < (x9.length : Int) then (if (rd x9 x10) = (rd x9 x11) then (some false) else (spec_Interleave.l1 k x0 x1 x2 x3 x9 x10 (wrap64 (x11 + 1)))) else (none)) else (none)) else (none)) else (none)) else (if 0 ≤ x10 then (if x10 < (x9.length : Int) then ((spec_l1In.f (rd x9 x10) 0 7).bind fun t409 => (if t409 = true then (spec_Interleave.l0 k x0 x1 x2 x3 x9 (wrap64 (x10 + 1))) else (some false))) else (none)) else (none))
def spec_Interleave.l2 : Nat → Int → Int → Int → Int → Int → Option (Bool)
 | 0, _, _, _, _, _ => none
 | k + 1, x1, x2, x3, x12, x13 => if x13 = x1 then (some (x12 == 1)) else (if x13 = x2 then (spec_Interleave.l2 k x1 x2 x3 (wrap64 (x12 + 1)) (Int.tmod (wrap64 (x13 + 1)) 8)) else (if x13 = x3 then (spec_Interleave.l2 k x1 x2 x3 (wrap64 (x12 + 1)) (Int.tmod (wrap64 (x13 + 1)) 8)) else (spec_Interleave.l2 k x1 x2 x3 x12 (Int.tmod (wrap64 (x13 + 1)) 8))))
end
def spec_Interleave.f (k : Nat) (a0 : Int) (a1 : Int) (a2 : Int) (a3 : Int) : Option (Bool) := spec_Interleave.l0 k a0 a1 a2 a3 (([a0, a1, a2, a3] : List Int)) 0
theorem spec_Interleave.mono_l : ∀ k, (∀ y0 y1 y2 y3 y4 y5, LeO (spec_Interleave.l0 k y0 y1 y2 y3 y4 y5) (spec_Interleave.l0 (k + 1) y0 y1 y2 y3 y4 y5)) ∧ (∀ y0 y1 y2 y3 y4 y5 y6, LeO (spec_Interleave.l1 k y0 y1 y2 y3 y4 y5 y6) (spec_Interleave.l1 (k + 1) y0 y1 y2 y3 y4 y5 y6)) ∧ (∀ y0 y1 y2 y3 y4, LeO (spec_Interleave.l2 k y0 y1 y2 y3 y4) (spec_Interleave.l2 (k + 1) y0 y1 y2 y3 y4))
 | 0 => ⟨fun _ _ _ _ _ _ r h => by simp [spec_Interleave.l0] at h, fun _ _ _ _ _ _ _ r h => by simp [spec_Interleave.l1] at h, fun _ _ _ _ _ r h => by simp [spec_Interleave.l2] at h⟩
 | k + 1 => by
  obtain ⟨ih0, ih1, ih2⟩ := spec_Interleave.mono_l k
  refine ⟨?_, ?_, ?_⟩
  ·
   intro y0 y1 y2 y3 y4 y5
   unfold spec_Interleave.l0
   exact mz3 ih0 ih1 ih2
  ·
   intro y0 y1 y2 y3 y4 y5 y6
   unfold spec_Interleave.l1
   exact mz3 ih0 ih1 ih2
  ·
   intro y0 y1 y2 y3 y4
   unfold spec_Interleave.l2
   exact mz3 ih0 ih1 ih2
theorem spec_Interleave.mono : ∀ a0 a1 a2 a3 k, LeO (spec_Interleave.f k a0 a1 a2 a3) (spec_Interleave.f (k + 1) a0 a1 a2 a3) := by
 intro a0 a1 a2 a3 k
 obtain ⟨ih0, ih1, ih2⟩ := spec_Interleave.mono_l k
 unfold spec_Interleave.f
 exact mz3 ih0 ih1 ih2
set_option maxHeartbeats 8000000 in
set_option maxRecDepth 100000 in
theorem spec_Interleave.calls (k : Nat) (a0 : Int) (a1 : Int) (a2 : Int) (a3 : Int) (r : Bool) (w : World) (h : spec_Interleave.f k a0 a1 a2 a3 = some r) :
  Calls Try.prog 167 #[.int .i64 a0, .int .i64 a1, .int .i64 a2, .int .i64 a3] w fun e w' => e = .returned (.bool r) ∧ Below w.heap.size w w' := by
 have HB := Aside0.mk (Below.refl w.heap.size w)
 have H : (spec_Interleave.l0 k a0 a1 a2 a3 (([a0, a1, a2, a3] : List Int)) 0) = some r := h
 clear h
 obtain ⟨y403, hy403⟩ : ∃ y_ : List Int, y_ = (([a0, a1, a2, a3] : List Int)) := ⟨_, rfl⟩
 replace H : (spec_Interleave.l0 k a0 a1 a2 a3 y403 0) = some r := rH H hy403
 have Ny403 := Aside0.mk hy403
 clear hy403
 have H' := Aside0.mk H
 clear H
 go_enter Try.func167, Try.ntmps167
 go_wp2_with (first | ((with_reducible refine gate_dst (N := 18) rfl ?_); refine Kd.R_lit (Kd.int .i64) _ 3 ?hg (N := 18) ?hd (xs := ([a0, a1, a2, a3] : List Int)) (inner := [.int .i64 a0, .int .i64 a1, .int .i64 a2, .int .i64 a3]) (ok := fun _ => True) (okp := fun _ => True) ?hr ?hp (fun _ hk => hk) trivial (Below.refl _ _) (Nat.le_refl _) (by simp) ?_; (case hd => rfl); (case hg => rfl); (case hr => first | (go_simp; done) | (go_simp; rfl)); (case hp => exact (Reps.one (show Kd.M (Kd.int .i64) _ _ _ a0 [.int .i64 a0] from rfl) (Reps.one (show Kd.M (Kd.int .i64) _ _ _ a1 [.int .i64 a1] from rfl) (Reps.one (show Kd.M (Kd.int .i64) _ _ _ a2 [.int .i64 a2] from rfl) (Reps.one (show Kd.M (Kd.int .i64) _ _ _ a3 [.int .i64 a3] from rfl) (Reps.none _ _)))))); intro v404 w5 ho6 hb hg_ hnew_; clear hg_ hnew_; (first | rw [← Ny403.out] at ho6 | (simp only [Int.reduceToNat] at ho6; rw [← Ny403.out] at ho6)); have HO405 := rl w ho6; replace HB := bs HB hb; clear hb ho6))
 repeat (go_quiet (first | ((with_reducible refine gate_dst (N := 18) rfl ?_); refine Kd.R_lit (Kd.int .i64) _ 3 ?hg (N := 18) ?hd (xs := ([a0, a1, a2, a3] : List Int)) (inner := [.int .i64 a0, .int .i64 a1, .int .i64 a2, .int .i64 a3]) (ok := fun _ => True) (okp := fun _ => True) ?hr ?hp (fun _ hk => hk) trivial (Below.refl _ _) (Nat.le_refl _) (by simp) ?_; (case hd => rfl); (case hg => rfl); (case hr => first | (go_simp; done) | (go_simp; rfl)); (case hp => exact (Reps.one (show Kd.M (Kd.int .i64) _ _ _ a0 [.int .i64 a0] from rfl) (Reps.one (show Kd.M (Kd.int .i64) _ _ _ a1 [.int .i64 a1] from rfl) (Reps.one (show Kd.M (Kd.int .i64) _ _ _ a2 [.int .i64 a2] from rfl) (Reps.one (show Kd.M (Kd.int .i64) _ _ _ a3 [.int .i64 a3] from rfl) (Reps.none _ _)))))); intro v404 w5 ho6 hb hg_ hnew_; clear hg_ hnew_; (first | rw [← Ny403.out] at ho6 | (simp only [Int.reduceToNat] at ho6; rw [← Ny403.out] at ho6)); have HO405 := rl w ho6; replace HB := bs HB hb; clear hb ho6)); try go_wp2_with (first | ((with_reducible refine gate_dst (N := 18) rfl ?_); refine Kd.R_lit (Kd.int .i64) _ 3 ?hg (N := 18) ?hd (xs := ([a0, a1, a2, a3] : List Int)) (inner := [.int .i64 a0, .int .i64 a1, .int .i64 a2, .int .i64 a3]) (ok := fun _ => True) (okp := fun _ => True) ?hr ?hp (fun _ hk => hk) trivial (Below.refl _ _) (Nat.le_refl _) (by simp) ?_; (case hd => rfl); (case hg => rfl); (case hr => first | (go_simp; done) | (go_simp; rfl)); (case hp => exact (Reps.one (show Kd.M (Kd.int .i64) _ _ _ a0 [.int .i64 a0] from rfl) (Reps.one (show Kd.M (Kd.int .i64) _ _ _ a1 [.int .i64 a1] from rfl) (Reps.one (show Kd.M (Kd.int .i64) _ _ _ a2 [.int .i64 a2] from rfl) (Reps.one (show Kd.M (Kd.int .i64) _ _ _ a3 [.int .i64 a3] from rfl) (Reps.none _ _)))))); intro v404 w5 ho6 hb hg_ hnew_; clear hg_ hnew_; (first | rw [← Ny403.out] at ho6 | (simp only [Int.reduceToNat] at ho6; rw [← Ny403.out] at ho6)); have HO405 := rl w ho6; replace HB := bs HB hb; clear hb ho6)))
 go_loopg [10] k (fun kq v10 w' => ∃ (x10_1 : Int), v10 = .int .i64 x10_1 ∧ Aside0 (spec_Interleave.l0 kq a0 a1 a2 a3 y403 x10_1 = some r) ∧ Aside0 (kq ≤ k) ∧ Aside0 (Kd.R (Kd.int .i64) 3 w' w.heap.size (fun _ => True) v404 y403) ∧ Aside0 (Below w.heap.size w w'))
 case atStart => exact ⟨(0), rS, H', ⟨Nat.le_refl _⟩, ⟨rK HO405⟩, ⟨bA⟩⟩
 case round =>
  clear H'
  obtain ⟨x10_1, rfl, HA, HK1, HO_9, HB⟩ := hrel
  cases gk with
  | zero => exact absurd HA.out (by simp [spec_Interleave.l0])
  | succ k1 =>
   have H := HA.out
   clear HA
   simp only [spec_Interleave.l0] at H
   by_cases c7 : x10_1 < 4
   ·
    rw [if_pos c7] at H
    have c7b0 := decide_eq_true c7
    clear c7
    have H' := Aside0.mk H
    clear H
    go_wp2
    repeat (go_quiet (fail); try go_wp2)
    go_loopg [11] k1 (fun kq v11 w' => ∃ (x11_2 : Int), v11 = .int .i64 x11_2 ∧ Aside0 (spec_Interleave.l1 kq a0 a1 a2 a3 y403 x10_1 x11_2 = some r) ∧ Aside0 (kq ≤ k1) ∧ Aside0 (Kd.R (Kd.int .i64) 3 w' w.heap.size (fun _ => True) v404 y403) ∧ Aside0 (Below w.heap.size w w'))
    case atStart => exact ⟨(0), rS, H', ⟨Nat.le_refl _⟩, ⟨rK HO_9⟩, ⟨bA⟩⟩
    case round =>
     clear H'
     obtain ⟨x11_2, rfl, HA, HK2, HO_9, HB⟩ := hrel
     cases gk with
     | zero => exact absurd HA.out (by simp [spec_Interleave.l1])
     | succ k2 =>
      have H := HA.out
      clear HA
      simp only [spec_Interleave.l1] at H
      by_cases c8 : x11_2 < x10_1
      ·
       rw [if_pos c8] at H
       have c8b0 := decide_eq_true c8
       clear c8
       have c9 : 0 ≤ x10_1 := ifN H
       replace H := ifT H
       have c9b0 := decide_eq_true c9
       clear c9
       have c10 : x10_1 < (y403.length : Int) := ifN H
       replace H := ifT H
       have c10b0 := decide_eq_true c10
       clear c10
       have c11 : 0 ≤ x11_2 := ifN H
       replace H := ifT H
       have c11b0 := decide_eq_true c11
       clear c11
       have c12 : x11_2 < (y403.length : Int) := ifN H
       replace H := ifT H
       have c12b0 := decide_eq_true c12
       clear c12
       by_cases c13 : (rd y403 x10_1) = (rd y403 x11_2)
       ·
        rw [if_pos c13] at H
        have c13b0 : ((rd y403 x10_1) == (rd y403 x11_2)) = true := beq_iff_eq.mpr c13
        have c13b1 : ((rd y403 x10_1) != (rd y403 x11_2)) = false := bne_eq_false_iff_eq.mpr c13
        clear c13
        obtain rfl := Option.some.inj H
        obtain ⟨Ao14, co14, eo14⟩ := Kd.R_slice HO_9.out
        subst eo14
        obtain ⟨p406, q406⟩ : 0 ≤ (x10_1 : Int) ∧ x10_1 < (y403.length : Int) := ⟨dA, dA⟩
        obtain ⟨ad406, e406, hx406_0⟩ := Kd.at_int (Kd.R_reads' HO_9.out).2.2 x10_1 p406 q406
        cases e406
        obtain ⟨p406, q406⟩ := eT p406 q406
        obtain ⟨p407, q407⟩ : 0 ≤ (x11_2 : Int) ∧ x11_2 < (y403.length : Int) := ⟨dA, dA⟩
        obtain ⟨ad407, e407, hx407_0⟩ := Kd.at_int (Kd.R_reads' HO_9.out).2.2 x11_2 p407 q407
        obtain rfl : ad406 = ad407 := (by injection e407)
        obtain ⟨p407, q407⟩ := eT p407 q407
        go_wp2
        repeat (go_quiet (fail); try go_wp2)
        go_ret
        exact ⟨rA, bA⟩
       rw [if_neg c13] at H
       have c13b0 : ((rd y403 x10_1) == (rd y403 x11_2)) = false := beq_eq_false_iff_ne.mpr c13
       have c13b1 : ((rd y403 x10_1) != (rd y403 x11_2)) = true := bne_iff_ne.mpr c13
       have H' := Aside0.mk H
       clear H
       obtain ⟨Ao15, co15, eo15⟩ := Kd.R_slice HO_9.out
       subst eo15
       obtain ⟨p406, q406⟩ : 0 ≤ (x10_1 : Int) ∧ x10_1 < (y403.length : Int) := ⟨dA, dA⟩
       obtain ⟨ad406, e406, hx406_0⟩ := Kd.at_int (Kd.R_reads' HO_9.out).2.2 x10_1 p406 q406
       cases e406
       obtain ⟨p406, q406⟩ := eT p406 q406
       obtain ⟨p407, q407⟩ : 0 ≤ (x11_2 : Int) ∧ x11_2 < (y403.length : Int) := ⟨dA, dA⟩
       obtain ⟨ad407, e407, hx407_0⟩ := Kd.at_int (Kd.R_reads' HO_9.out).2.2 x11_2 p407 q407
       obtain rfl : ad406 = ad407 := (by injection e407)
       obtain ⟨p407, q407⟩ := eT p407 q407
       go_wp2
       repeat (go_quiet (fail); try go_wp2)
       go_roundg k2
       case measure => have := HK1.out; have := HK2.out; omega
       case rel => exact ⟨(wrap64 (x11_2 + 1)), rS, H', ⟨by have := HK1.out; have := HK2.out; omega⟩, ⟨rK HO_9⟩, ⟨bA⟩⟩
      rw [if_neg c8] at H
      have c8b0 := decide_eq_false c8
      clear c8
      have c16 : 0 ≤ x10_1 := ifN H
      replace H := ifT H
      have c16b0 := decide_eq_true c16
      clear c16
      have c17 : x10_1 < (y403.length : Int) := ifN H
      replace H := ifT H
      have c17b0 := decide_eq_true c17
      clear c17
      obtain ⟨t409, A18, H⟩ := bindE H
      try dsimp only at H
      by_cases c19 : t409 = true
      ·
       subst c19
       have H1 : (spec_Interleave.l0 k2 a0 a1 a2 a3 y403 (wrap64 (x10_1 + 1))) = some r := by rw [if_pos rfl] at H; exact H
       clear H
       have H := H1
       clear H1
       have H' := Aside0.mk H
       clear H
       obtain ⟨Ao20, co20, eo20⟩ := Kd.R_slice HO_9.out
       subst eo20
       obtain ⟨p408, q408⟩ : 0 ≤ (x10_1 : Int) ∧ x10_1 < (y403.length : Int) := ⟨dA, dA⟩
       obtain ⟨ad408, e408, hx408_0⟩ := Kd.at_int (Kd.R_reads' HO_9.out).2.2 x10_1 p408 q408
       cases e408
       obtain ⟨p408, q408⟩ := eT p408 q408
       go_wp2_with (first | (go_at_call 111; (with_reducible refine (spec_l1In.calls (rd y403 x10_1) 0 7 true _ A18.out).mono ?_); rintro e w' ⟨rfl, ⟨nd, rfl⟩⟩; (try first | exact ⟨rfl, _, World.drewN_drewN _ _ _⟩ | exact ⟨rfl, _, Eq.trans (World.drewN_drewN _ _ _) (congrArg (World.drewN _) (Nat.add_assoc _ _ _))⟩)))
       repeat (go_quiet (first | (go_at_call 111; (with_reducible refine (spec_l1In.calls (rd y403 x10_1) 0 7 true _ A18.out).mono ?_); rintro e w' ⟨rfl, ⟨nd, rfl⟩⟩; (try first | exact ⟨rfl, _, World.drewN_drewN _ _ _⟩ | exact ⟨rfl, _, Eq.trans (World.drewN_drewN _ _ _) (congrArg (World.drewN _) (Nat.add_assoc _ _ _))⟩))); try go_wp2_with (first | (go_at_call 111; (with_reducible refine (spec_l1In.calls (rd y403 x10_1) 0 7 true _ A18.out).mono ?_); rintro e w' ⟨rfl, ⟨nd, rfl⟩⟩; (try first | exact ⟨rfl, _, World.drewN_drewN _ _ _⟩ | exact ⟨rfl, _, Eq.trans (World.drewN_drewN _ _ _) (congrArg (World.drewN _) (Nat.add_assoc _ _ _))⟩))))
       go_roundg k2
       case measure => have := HK1.out; have := HK2.out; omega
       case rel => exact ⟨(wrap64 (x10_1 + 1)), rS, H', ⟨by have := HK1.out; have := HK2.out; omega⟩, ⟨rK HO_9⟩, ⟨bA⟩⟩
      replace c19 := Bool.eq_false_iff.mpr c19
      subst c19
      have H1 : (some false) = some r := by rw [if_neg (show ¬ (false = true) by decide)] at H; exact H
      clear H
      have H := H1
      clear H1
      obtain rfl := Option.some.inj H
      obtain ⟨Ao21, co21, eo21⟩ := Kd.R_slice HO_9.out
      subst eo21
      obtain ⟨p408, q408⟩ : 0 ≤ (x10_1 : Int) ∧ x10_1 < (y403.length : Int) := ⟨dA, dA⟩
      obtain ⟨ad408, e408, hx408_0⟩ := Kd.at_int (Kd.R_reads' HO_9.out).2.2 x10_1 p408 q408
      cases e408
      obtain ⟨p408, q408⟩ := eT p408 q408
      go_wp2_with (first | (go_at_call 111; (with_reducible refine (spec_l1In.calls (rd y403 x10_1) 0 7 false _ A18.out).mono ?_); rintro e w' ⟨rfl, ⟨nd, rfl⟩⟩; (try first | exact ⟨rfl, _, World.drewN_drewN _ _ _⟩ | exact ⟨rfl, _, Eq.trans (World.drewN_drewN _ _ _) (congrArg (World.drewN _) (Nat.add_assoc _ _ _))⟩)))
      repeat (go_quiet (first | (go_at_call 111; (with_reducible refine (spec_l1In.calls (rd y403 x10_1) 0 7 false _ A18.out).mono ?_); rintro e w' ⟨rfl, ⟨nd, rfl⟩⟩; (try first | exact ⟨rfl, _, World.drewN_drewN _ _ _⟩ | exact ⟨rfl, _, Eq.trans (World.drewN_drewN _ _ _) (congrArg (World.drewN _) (Nat.add_assoc _ _ _))⟩))); try go_wp2_with (first | (go_at_call 111; (with_reducible refine (spec_l1In.calls (rd y403 x10_1) 0 7 false _ A18.out).mono ?_); rintro e w' ⟨rfl, ⟨nd, rfl⟩⟩; (try first | exact ⟨rfl, _, World.drewN_drewN _ _ _⟩ | exact ⟨rfl, _, Eq.trans (World.drewN_drewN _ _ _) (congrArg (World.drewN _) (Nat.add_assoc _ _ _))⟩))))
      go_ret
      exact ⟨rA, bA⟩
   rw [if_neg c7] at H
   have c7b0 := decide_eq_false c7
   clear c7
   have H' := Aside0.mk H
   clear H
   go_wp2
   repeat (go_quiet (fail); try go_wp2)
   go_loopg [12, 13] k1 (fun kq v12 v13 w' => ∃ (x12_2 : Int) (x13_2 : Int), v12 = .int .i64 x12_2 ∧ v13 = .int .i64 x13_2 ∧ Aside0 (spec_Interleave.l2 kq a1 a2 a3 x12_2 x13_2 = some r) ∧ Aside0 (kq ≤ k1) ∧ Aside0 (Below w.heap.size w w'))
   case atStart => exact ⟨(0), (Int.tmod (wrap64 (a0 + 1)) 8), rS, rS, H', ⟨Nat.le_refl _⟩, ⟨bA⟩⟩
   case round =>
    clear H'
    obtain ⟨x12_2, x13_2, rfl, rfl, HA, HK2, HB⟩ := hrel
    cases gk with
    | zero => exact absurd HA.out (by simp [spec_Interleave.l2])
    | succ k2 =>
     have H := HA.out
     clear HA
     simp only [spec_Interleave.l2] at H
     by_cases c22 : x13_2 = a1
     ·
      rw [if_pos c22] at H
      have c22b0 : (x13_2 == a1) = true := beq_iff_eq.mpr c22
      have c22b1 : (x13_2 != a1) = false := bne_eq_false_iff_eq.mpr c22
      clear c22
      obtain rfl := Option.some.inj H
      go_wp2
      repeat (go_quiet (fail); try go_wp2)
      go_ret
      exact ⟨rA, bA⟩
     rw [if_neg c22] at H
     have c22b0 : (x13_2 == a1) = false := beq_eq_false_iff_ne.mpr c22
     have c22b1 : (x13_2 != a1) = true := bne_iff_ne.mpr c22
     by_cases c23 : x13_2 = a2
     ·
      rw [if_pos c23] at H
      have c23b0 : (x13_2 == a2) = true := beq_iff_eq.mpr c23
      have c23b1 : (x13_2 != a2) = false := bne_eq_false_iff_eq.mpr c23
      clear c23
      have H' := Aside0.mk H
      clear H
      go_wp2
      repeat (go_quiet (fail); try go_wp2)
      go_roundg k2
      case measure => have := HK1.out; have := HK2.out; omega
      case rel => exact ⟨(wrap64 (x12_2 + 1)), (Int.tmod (wrap64 (x13_2 + 1)) 8), rS, rS, H', ⟨by have := HK1.out; have := HK2.out; omega⟩, ⟨bA⟩⟩
     rw [if_neg c23] at H
     have c23b0 : (x13_2 == a2) = false := beq_eq_false_iff_ne.mpr c23
     have c23b1 : (x13_2 != a2) = true := bne_iff_ne.mpr c23
     by_cases c24 : x13_2 = a3
     ·
      rw [if_pos c24] at H
      have c24b0 : (x13_2 == a3) = true := beq_iff_eq.mpr c24
      have c24b1 : (x13_2 != a3) = false := bne_eq_false_iff_eq.mpr c24
      clear c24
      have H' := Aside0.mk H
      clear H
      go_wp2
      repeat (go_quiet (fail); try go_wp2)
      go_roundg k2
      case measure => have := HK1.out; have := HK2.out; omega
      case rel => exact ⟨(wrap64 (x12_2 + 1)), (Int.tmod (wrap64 (x13_2 + 1)) 8), rS, rS, H', ⟨by have := HK1.out; have := HK2.out; omega⟩, ⟨bA⟩⟩
     rw [if_neg c24] at H
     have c24b0 : (x13_2 == a3) = false := beq_eq_false_iff_ne.mpr c24
     have c24b1 : (x13_2 != a3) = true := bne_iff_ne.mpr c24
     have H' := Aside0.mk H
     clear H
     go_wp2
     repeat (go_quiet (fail); try go_wp2)
     go_roundg k2
     case measure => have := HK1.out; have := HK2.out; omega
     case rel => exact ⟨(x12_2), (Int.tmod (wrap64 (x13_2 + 1)) 8), rS, rS, H', ⟨by have := HK1.out; have := HK2.out; omega⟩, ⟨bA⟩⟩

/-! ### spec_InPlace: function 168 -/
def spec_InPlace.f (a0 : Int) : Option (Int) := (spec_l1In.f a0 0 3).bind fun t410 => (if t410 = true then (some (wrap64 (2 * a0))) else (some (-1)))
set_option maxHeartbeats 8000000 in
set_option maxRecDepth 100000 in
theorem spec_InPlace.calls (a0 : Int) (r : Int) (w : World) (h : spec_InPlace.f a0 = some r) :
  Calls Try.prog 168 #[.int .i64 a0] w fun e w' => e = .returned (.int .i64 r) ∧ Drawn0 w w' := by
 have H : ((spec_l1In.f a0 0 3).bind fun t410 => (if t410 = true then (some (wrap64 (2 * a0))) else (some (-1)))) = some r := h
 clear h
 obtain ⟨t410, A2, H⟩ := bindE H
 try dsimp only at H
 by_cases c3 : t410 = true
 ·
  subst c3
  have H1 : (some (wrap64 (2 * a0))) = some r := by rw [if_pos rfl] at H; exact H
  clear H
  have H := H1
  clear H1
  obtain rfl := Option.some.inj H
  go_enter Try.func168, Try.ntmps168
  go_wp2_with (first | ((with_reducible refine gate_callee (f := 111) rfl ?_); refine gL (some 4) Try.func111 #[.int .i64 a0, .int .i64 0, .int .i64 3] ?_; (with_reducible refine (spec_l1In.calls a0 0 3 true _ A2.out).mono ?_); rintro e w' ⟨rfl, ⟨nd, rfl⟩⟩; refine ⟨_, rfl, ?_⟩))
  go_ret
  exact ⟨rS, dD⟩
 replace c3 := Bool.eq_false_iff.mpr c3
 subst c3
 have H1 : (some (-1)) = some r := by rw [if_neg (show ¬ (false = true) by decide)] at H; exact H
 clear H
 have H := H1
 clear H1
 obtain rfl := Option.some.inj H
 go_enter Try.func168, Try.ntmps168
 go_wp2_with (first | ((with_reducible refine gate_callee (f := 111) rfl ?_); refine gL (some 4) Try.func111 #[.int .i64 a0, .int .i64 0, .int .i64 3] ?_; (with_reducible refine (spec_l1In.calls a0 0 3 false _ A2.out).mono ?_); rintro e w' ⟨rfl, ⟨nd, rfl⟩⟩; refine ⟨_, rfl, ?_⟩))
 go_ret
 exact ⟨rS, dD⟩

/-! ### spec_OutPlace: function 169 -/
def spec_OutPlace.f (a0 : Int) : Option (Int) := (spec_l1In.f a0 0 3).bind fun t411 => (if t411 = true then (some (wrap64 ((wrap64 (2 * a0)) + 1))) else (some (-1)))
set_option maxHeartbeats 8000000 in
set_option maxRecDepth 100000 in
theorem spec_OutPlace.calls (a0 : Int) (r : Int) (w : World) (h : spec_OutPlace.f a0 = some r) :
  Calls Try.prog 169 #[.int .i64 a0] w fun e w' => e = .returned (.int .i64 r) ∧ Drawn0 w w' := by
 have H : ((spec_l1In.f a0 0 3).bind fun t411 => (if t411 = true then (some (wrap64 ((wrap64 (2 * a0)) + 1))) else (some (-1)))) = some r := h
 clear h
 obtain ⟨t411, A2, H⟩ := bindE H
 try dsimp only at H
 by_cases c3 : t411 = true
 ·
  subst c3
  have H1 : (some (wrap64 ((wrap64 (2 * a0)) + 1))) = some r := by rw [if_pos rfl] at H; exact H
  clear H
  have H := H1
  clear H1
  obtain rfl := Option.some.inj H
  go_enter Try.func169, Try.ntmps169
  go_wp2_with (first | ((with_reducible refine gate_callee (f := 111) rfl ?_); refine gL (some 4) Try.func111 #[.int .i64 a0, .int .i64 0, .int .i64 3] ?_; (with_reducible refine (spec_l1In.calls a0 0 3 true _ A2.out).mono ?_); rintro e w' ⟨rfl, ⟨nd, rfl⟩⟩; refine ⟨_, rfl, ?_⟩))
  go_ret
  exact ⟨rS, dD⟩
 replace c3 := Bool.eq_false_iff.mpr c3
 subst c3
 have H1 : (some (-1)) = some r := by rw [if_neg (show ¬ (false = true) by decide)] at H; exact H
 clear H
 have H := H1
 clear H1
 obtain rfl := Option.some.inj H
 go_enter Try.func169, Try.ntmps169
 go_wp2_with (first | ((with_reducible refine gate_callee (f := 111) rfl ?_); refine gL (some 4) Try.func111 #[.int .i64 a0, .int .i64 0, .int .i64 3] ?_; (with_reducible refine (spec_l1In.calls a0 0 3 false _ A2.out).mono ?_); rintro e w' ⟨rfl, ⟨nd, rfl⟩⟩; refine ⟨_, rfl, ?_⟩))
 go_ret
 exact ⟨rS, dD⟩

/-! ### spec_Conflict: function 145 -/
def spec_Conflict.j0 : Nat → Bool → Int → Int → Int → Int → Int → Int → Int → Int → Option (Bool)
 | 0, _, _, _, _, _, _, _, _, _ => none
 | k + 1, x5, x413000, x413001, x413002, x413003, x414000, x414001, x414002, x414003 => if x5 = true then (some false) else (if x413001 = 2 then (if x414002 = x413002 then (some true) else (some (x414003 == x413002))) else (if x414001 = 2 then (if x413002 = x414002 then (some true) else (some (x413003 == x414002))) else (if x413002 = x414002 then (some false) else (if x413003 = x414003 then (some true) else ((spec_InPlace.f x413002).bind fun t416 => ((spec_OutPlace.f x413003).bind fun t417 => ((spec_InPlace.f x414002).bind fun t418 => ((spec_OutPlace.f x414003).bind fun t419 => ((spec_Interleave.f k t416 t417 t418 t419).bind fun t420 => (some t420))))))))))
def spec_Conflict.f (k : Nat) (a0_0 : Int) (a0_1 : Int) (a0_2 : Int) (a0_3 : Int) (a1_0 : Int) (a1_1 : Int) (a1_2 : Int) (a1_3 : Int) : Option (Bool) := (spec_IsPath.f a0_0 a0_1 a0_2 a0_3).bind fun t414 => (if t414 = true then ((spec_IsPath.f a1_0 a1_1 a1_2 a1_3).bind fun t415 => (if t415 = true then (if a0_1 = 2 then (spec_Conflict.j0 k (a1_1 == 2) a0_0 a0_1 a0_2 a0_3 a1_0 a1_1 a1_2 a1_3) else (spec_Conflict.j0 k false a0_0 a0_1 a0_2 a0_3 a1_0 a1_1 a1_2 a1_3)) else (spec_Conflict.j0 k true a0_0 a0_1 a0_2 a0_3 a1_0 a1_1 a1_2 a1_3))) else (spec_Conflict.j0 k true a0_0 a0_1 a0_2 a0_3 a1_0 a1_1 a1_2 a1_3))
theorem spec_Conflict.mono_l : ∀ k, (∀ y0 y1 y2 y3 y4 y5 y6 y7 y8, LeO (spec_Conflict.j0 k y0 y1 y2 y3 y4 y5 y6 y7 y8) (spec_Conflict.j0 (k + 1) y0 y1 y2 y3 y4 y5 y6 y7 y8))
 | 0 => fun _ _ _ _ _ _ _ _ _ r h => by simp [spec_Conflict.j0] at h
 | k + 1 => by
  have ih0 := spec_Conflict.mono_l k
  ·
   intro y0 y1 y2 y3 y4 y5 y6 y7 y8
   unfold spec_Conflict.j0
   exact mz2 ih0 spec_Interleave.mono
theorem spec_Conflict.mono : ∀ a0 a1 a2 a3 a4 a5 a6 a7 k, LeO (spec_Conflict.f k a0 a1 a2 a3 a4 a5 a6 a7) (spec_Conflict.f (k + 1) a0 a1 a2 a3 a4 a5 a6 a7) := by
 intro a0 a1 a2 a3 a4 a5 a6 a7 k
 have ih0 := spec_Conflict.mono_l k
 unfold spec_Conflict.f
 exact mz2 ih0 spec_Interleave.mono
def spec_Conflict.T11 : Bool × List (List Nat × List Nat) := (true, [([], []), ([0], [0]), ([1], [1]), ([], []), ([3], [3]), ([4, 2], [4]), ([], []), ([6], [6]), ([7, 5], [7]), ([], []), ([9], [9]), ([10, 8], [10]), ([2, 5, 8, 11, 11], [2, 5, 8, 11]), ([12, 12, 0, 1, 2, 3, 4, 5, 6, 7, 8, 9, 10, 11, 12], [12])])
def spec_Conflict.B11 : List Nat := [0, 1, 3, 0, 8, 31, 0, 64, 255, 0, 512, 2047, 4095, 8191]
theorem spec_Conflict.tab11 : rtab .any (opsOf Try.f145 11) = spec_Conflict.T11 := by kernel_rfl
theorem spec_Conflict.bits11 : waitsOk spec_Conflict.T11.2 spec_Conflict.B11 = true := by kernel_rfl
set_option maxHeartbeats 8000000 in
set_option maxRecDepth 100000 in
theorem spec_Conflict.calls (k : Nat) (a0_0 : Int) (a0_1 : Int) (a0_2 : Int) (a0_3 : Int) (a1_0 : Int) (a1_1 : Int) (a1_2 : Int) (a1_3 : Int) (r : Bool) (w : World) (h : spec_Conflict.f k a0_0 a0_1 a0_2 a0_3 a1_0 a1_1 a1_2 a1_3 = some r) :
  Calls Try.prog 145 #[.agg #[.int .i64 a0_0, .int .i64 a0_1, .int .i64 a0_2, .int .i64 a0_3], .agg #[.int .i64 a1_0, .int .i64 a1_1, .int .i64 a1_2, .int .i64 a1_3]] w fun e w' => e = .returned (.bool r) ∧ Below w.heap.size w w' := by
 have hu50 := Try.underlying50
 have HB := Aside0.mk (Below.refl w.heap.size w)
 have H : ((spec_IsPath.f a0_0 a0_1 a0_2 a0_3).bind fun t414 => (if t414 = true then ((spec_IsPath.f a1_0 a1_1 a1_2 a1_3).bind fun t415 => (if t415 = true then (if a0_1 = 2 then (spec_Conflict.j0 k (a1_1 == 2) a0_0 a0_1 a0_2 a0_3 a1_0 a1_1 a1_2 a1_3) else (spec_Conflict.j0 k false a0_0 a0_1 a0_2 a0_3 a1_0 a1_1 a1_2 a1_3)) else (spec_Conflict.j0 k true a0_0 a0_1 a0_2 a0_3 a1_0 a1_1 a1_2 a1_3))) else (spec_Conflict.j0 k true a0_0 a0_1 a0_2 a0_3 a1_0 a1_1 a1_2 a1_3))) = some r := h
 clear h
 have HC3 := Aside0.mk H
 clear H
 go_enter Try.func145, Try.ntmps145
 go_upto_region 1 with (first | ((with_reducible refine gate_dst (N := 2) rfl ?_); refine bE (N := 2) (cs := #[.int .i64 a0_0, .int .i64 a0_1, .int .i64 a0_2, .int .i64 a0_3]) (t := 50) ?_; intro gb412 hg w4 hbox hb; have BK412 := Aside0.mk (hbox); have GW412 := gw w hg; have GE412 := gw w hg; replace HB := bs HB hb; clear hb hbox hg) | ((with_reducible refine gate_dst (N := 3) rfl ?_); refine bE (N := 3) (cs := #[.int .i64 a1_0, .int .i64 a1_1, .int .i64 a1_2, .int .i64 a1_3]) (t := 50) ?_; intro gb413 hg w5 hbox hb; have BK413 := Aside0.mk (hbox); have GW413 := gw w hg; have GE413 := gw w hg; replace HB := bs HB hb; have NB412_413 := nl BK412 hg; have NB413_412 := nr BK412 hg; replace BK412 := kb BK412 hb; clear hb hbox hg))
 (try simp only [Act.put, List.setIfInBounds_toArray, List.set_cons_zero, List.set_cons_succ])
 go_cut [5] (fun v5 wc => ∃ (kq : Nat) (x5_2 : Bool), v5 = .bool x5_2 ∧ Aside0 (spec_Conflict.j0 kq x5_2 a0_0 a0_1 a0_2 a0_3 a1_0 a1_1 a1_2 a1_3 = some r) ∧ Aside0 (kq ≤ k) ∧ Aside0 (wc.heap[gb412]? = some (.cells #[.int .i64 a0_0, .int .i64 a0_1, .int .i64 a0_2, .int .i64 a0_3] 50 (0, 0))) ∧ Aside0 (wc.heap[gb413]? = some (.cells #[.int .i64 a1_0, .int .i64 a1_1, .int .i64 a1_2, .int .i64 a1_3] 50 (0, 0))) ∧ Aside0 (Below w.heap.size w wc))
 case first =>
  have H := HC3.out
  clear HC3
  obtain ⟨t414, A6, H⟩ := bindE H
  try dsimp only at H
  by_cases c7 : t414 = true
  ·
   subst c7
   have H1 : ((spec_IsPath.f a1_0 a1_1 a1_2 a1_3).bind fun t415 => (if t415 = true then (if a0_1 = 2 then (spec_Conflict.j0 k (a1_1 == 2) a0_0 a0_1 a0_2 a0_3 a1_0 a1_1 a1_2 a1_3) else (spec_Conflict.j0 k false a0_0 a0_1 a0_2 a0_3 a1_0 a1_1 a1_2 a1_3)) else (spec_Conflict.j0 k true a0_0 a0_1 a0_2 a0_3 a1_0 a1_1 a1_2 a1_3))) = some r := by rw [if_pos rfl] at H; exact H
   clear H
   have H := H1
   clear H1
   obtain ⟨t415, A8, H⟩ := bindE H
   try dsimp only at H
   by_cases c9 : t415 = true
   ·
    subst c9
    have H1 : (if a0_1 = 2 then (spec_Conflict.j0 k (a1_1 == 2) a0_0 a0_1 a0_2 a0_3 a1_0 a1_1 a1_2 a1_3) else (spec_Conflict.j0 k false a0_0 a0_1 a0_2 a0_3 a1_0 a1_1 a1_2 a1_3)) = some r := by rw [if_pos rfl] at H; exact H
    clear H
    have H := H1
    clear H1
    by_cases c10 : a0_1 = 2
    ·
     rw [if_pos c10] at H
     have c10b0 : (a0_1 == 2) = true := beq_iff_eq.mpr c10
     have c10b1 : (a0_1 != 2) = false := bne_eq_false_iff_eq.mpr c10
     clear c10
     (first | rw [c10b0] | (simp only [i64_w, i32_w]; rw [c10b0]) | skip)
     have H' := Aside0.mk H
     clear H
     have hnb11 := NB412_413.out
     have hnc11 := NB413_412.out
     obtain ⟨_, _, _, _, _, _, _, _⟩ := blkc4 BK412
     go_wp2_with (first | ((with_reducible refine gate_callee (f := 91) rfl ?_); refine gL (some 7) Try.func91 #[.agg #[.int .i64 a0_0, .int .i64 a0_1, .int .i64 a0_2, .int .i64 a0_3]] ?_; (with_reducible refine (spec_IsPath.calls a0_0 a0_1 a0_2 a0_3 true _ A6.out).mono ?_); rintro e w13 ⟨rfl, hb⟩; refine ⟨_, rfl, ?_⟩; replace BK412 := kb BK412 hb; replace BK413 := kb BK413 hb; replace HB := bs HB hb; (try clear hb); have hcz14_0 : w13.cell? ⟨gb413, 0, none⟩ = some (.int .i64 a1_0) := bC BK413 0; have hcz14_1 : w13.cell? ⟨gb413, 1, none⟩ = some (.int .i64 a1_1) := bC BK413 1; have hcz14_2 : w13.cell? ⟨gb413, 2, none⟩ = some (.int .i64 a1_2) := bC BK413 2; have hcz14_3 : w13.cell? ⟨gb413, 3, none⟩ = some (.int .i64 a1_3) := bC BK413 3; have hfz14_0 := blk_frozen BK413.out 0; have hfz14_1 := blk_frozen BK413.out 1; have hfz14_2 := blk_frozen BK413.out 2; have hfz14_3 := blk_frozen BK413.out 3) | (go_at_call 91; (with_reducible refine (spec_IsPath.calls a1_0 a1_1 a1_2 a1_3 true _ A8.out).mono ?_); rintro e w15 ⟨rfl, hb⟩; replace BK412 := kb BK412 hb; replace BK413 := kb BK413 hb; replace HB := bs HB hb; (try clear hb); obtain ⟨_, _, _, _, _, _, _, _⟩ := blkc4 BK412; obtain ⟨_, _, _, _, _, _, _, _⟩ := blkc4 BK413))
     go_meet
     case rel => exact ⟨_, ((a1_1 == 2)), rS, H', ⟨oL⟩, ⟨bK BK412⟩, ⟨bK BK413⟩, ⟨bG⟩⟩
    rw [if_neg c10] at H
    have c10b0 : (a0_1 == 2) = false := beq_eq_false_iff_ne.mpr c10
    have c10b1 : (a0_1 != 2) = true := bne_iff_ne.mpr c10
    (first | rw [c10b0] | (simp only [i64_w, i32_w]; rw [c10b0]) | skip)
    have H' := Aside0.mk H
    clear H
    have hnb18 := NB412_413.out
    have hnc18 := NB413_412.out
    obtain ⟨_, _, _, _, _, _, _, _⟩ := blkc4 BK412
    go_wp2_with (first | ((with_reducible refine gate_callee (f := 91) rfl ?_); refine gL (some 7) Try.func91 #[.agg #[.int .i64 a0_0, .int .i64 a0_1, .int .i64 a0_2, .int .i64 a0_3]] ?_; (with_reducible refine (spec_IsPath.calls a0_0 a0_1 a0_2 a0_3 true _ A6.out).mono ?_); rintro e w20 ⟨rfl, hb⟩; refine ⟨_, rfl, ?_⟩; replace BK412 := kb BK412 hb; replace BK413 := kb BK413 hb; replace HB := bs HB hb; (try clear hb); have hcz21_0 : w20.cell? ⟨gb413, 0, none⟩ = some (.int .i64 a1_0) := bC BK413 0; have hcz21_1 : w20.cell? ⟨gb413, 1, none⟩ = some (.int .i64 a1_1) := bC BK413 1; have hcz21_2 : w20.cell? ⟨gb413, 2, none⟩ = some (.int .i64 a1_2) := bC BK413 2; have hcz21_3 : w20.cell? ⟨gb413, 3, none⟩ = some (.int .i64 a1_3) := bC BK413 3; have hfz21_0 := blk_frozen BK413.out 0; have hfz21_1 := blk_frozen BK413.out 1; have hfz21_2 := blk_frozen BK413.out 2; have hfz21_3 := blk_frozen BK413.out 3) | (go_at_call 91; (with_reducible refine (spec_IsPath.calls a1_0 a1_1 a1_2 a1_3 true _ A8.out).mono ?_); rintro e w22 ⟨rfl, hb⟩; replace BK412 := kb BK412 hb; replace BK413 := kb BK413 hb; replace HB := bs HB hb; (try clear hb); obtain ⟨_, _, _, _, _, _, _, _⟩ := blkc4 BK412))
    go_meet
    case rel => exact ⟨_, (false), rS, H', ⟨oL⟩, ⟨bK BK412⟩, ⟨bK BK413⟩, ⟨bG⟩⟩
   replace c9 := Bool.eq_false_iff.mpr c9
   subst c9
   have H1 : (spec_Conflict.j0 k true a0_0 a0_1 a0_2 a0_3 a1_0 a1_1 a1_2 a1_3) = some r := by rw [if_neg (show ¬ (false = true) by decide)] at H; exact H
   clear H
   have H := H1
   clear H1
   have H' := Aside0.mk H
   clear H
   have hnb24 := NB412_413.out
   have hnc24 := NB413_412.out
   obtain ⟨_, _, _, _, _, _, _, _⟩ := blkc4 BK412
   go_wp2_with (first | ((with_reducible refine gate_callee (f := 91) rfl ?_); refine gL (some 7) Try.func91 #[.agg #[.int .i64 a0_0, .int .i64 a0_1, .int .i64 a0_2, .int .i64 a0_3]] ?_; (with_reducible refine (spec_IsPath.calls a0_0 a0_1 a0_2 a0_3 true _ A6.out).mono ?_); rintro e w26 ⟨rfl, hb⟩; refine ⟨_, rfl, ?_⟩; replace BK412 := kb BK412 hb; replace BK413 := kb BK413 hb; replace HB := bs HB hb; (try clear hb); have hcz27_0 : w26.cell? ⟨gb413, 0, none⟩ = some (.int .i64 a1_0) := bC BK413 0; have hcz27_1 : w26.cell? ⟨gb413, 1, none⟩ = some (.int .i64 a1_1) := bC BK413 1; have hcz27_2 : w26.cell? ⟨gb413, 2, none⟩ = some (.int .i64 a1_2) := bC BK413 2; have hcz27_3 : w26.cell? ⟨gb413, 3, none⟩ = some (.int .i64 a1_3) := bC BK413 3; have hfz27_0 := blk_frozen BK413.out 0; have hfz27_1 := blk_frozen BK413.out 1; have hfz27_2 := blk_frozen BK413.out 2; have hfz27_3 := blk_frozen BK413.out 3) | (go_at_call 91; (with_reducible refine (spec_IsPath.calls a1_0 a1_1 a1_2 a1_3 false _ A8.out).mono ?_); rintro e w28 ⟨rfl, hb⟩; replace BK412 := kb BK412 hb; replace BK413 := kb BK413 hb; replace HB := bs HB hb; (try clear hb)))
   go_meet
   case rel => exact ⟨_, (true), rS, H', ⟨oL⟩, ⟨bK BK412⟩, ⟨bK BK413⟩, ⟨bG⟩⟩
  replace c7 := Bool.eq_false_iff.mpr c7
  subst c7
  have H1 : (spec_Conflict.j0 k true a0_0 a0_1 a0_2 a0_3 a1_0 a1_1 a1_2 a1_3) = some r := by rw [if_neg (show ¬ (false = true) by decide)] at H; exact H
  clear H
  have H := H1
  clear H1
  have H' := Aside0.mk H
  clear H
  have hnb29 := NB412_413.out
  have hnc29 := NB413_412.out
  obtain ⟨_, _, _, _, _, _, _, _⟩ := blkc4 BK412
  go_wp2_with (first | ((with_reducible refine gate_callee (f := 91) rfl ?_); refine gL (some 7) Try.func91 #[.agg #[.int .i64 a0_0, .int .i64 a0_1, .int .i64 a0_2, .int .i64 a0_3]] ?_; (with_reducible refine (spec_IsPath.calls a0_0 a0_1 a0_2 a0_3 false _ A6.out).mono ?_); rintro e w31 ⟨rfl, hb⟩; refine ⟨_, rfl, ?_⟩; replace BK412 := kb BK412 hb; replace BK413 := kb BK413 hb; replace HB := bs HB hb; (try clear hb)))
  go_meet
  case rel => exact ⟨_, (true), rS, H', ⟨oL⟩, ⟨bK BK412⟩, ⟨bK BK413⟩, ⟨bG⟩⟩
 case rest =>
  clear HC3
  obtain ⟨kq, x5_2, rfl, HA, HJ2, BK412, BK413, HB⟩ := hcut
  cases kq with
  | zero => exact absurd HA.out (by simp [spec_Conflict.j0])
  | succ kj2 =>
   have H := HA.out
   clear HA
   simp only [spec_Conflict.j0] at H
   by_cases c32 : x5_2 = true
   ·
    subst c32
    have H1 : (some false) = some r := by rw [if_pos rfl] at H; exact H
    clear H
    have H := H1
    clear H1
    obtain rfl := Option.some.inj H
    go_wp2
    go_ret
    exact ⟨rA, bG⟩
   replace c32 := Bool.eq_false_iff.mpr c32
   subst c32
   have H1 : (if a0_1 = 2 then (if a1_2 = a0_2 then (some true) else (some (a1_3 == a0_2))) else (if a1_1 = 2 then (if a0_2 = a1_2 then (some true) else (some (a0_3 == a1_2))) else (if a0_2 = a1_2 then (some false) else (if a0_3 = a1_3 then (some true) else ((spec_InPlace.f a0_2).bind fun t416 => ((spec_OutPlace.f a0_3).bind fun t417 => ((spec_InPlace.f a1_2).bind fun t418 => ((spec_OutPlace.f a1_3).bind fun t419 => ((spec_Interleave.f kj2 t416 t417 t418 t419).bind fun t420 => (some t420)))))))))) = some r := by rw [if_neg (show ¬ (false = true) by decide)] at H; exact H
   clear H
   have H := H1
   clear H1
   by_cases c33 : a0_1 = 2
   ·
    rw [if_pos c33] at H
    have c33b0 : (a0_1 == 2) = true := beq_iff_eq.mpr c33
    have c33b1 : (a0_1 != 2) = false := bne_eq_false_iff_eq.mpr c33
    clear c33
    by_cases c34 : a1_2 = a0_2
    ·
     rw [if_pos c34] at H
     have c34b0 : (a1_2 == a0_2) = true := beq_iff_eq.mpr c34
     have c34b1 : (a1_2 != a0_2) = false := bne_eq_false_iff_eq.mpr c34
     clear c34
     obtain rfl := Option.some.inj H
     have hnb35 := NB412_413.out
     have hnc35 := NB413_412.out
     obtain ⟨_, _, _, _, _, _, _, _⟩ := blkc4 BK412
     obtain ⟨_, _, _, _, _, _, _, _⟩ := blkc4 BK413
     go_wp2
     go_ret
     exact ⟨rA, bG⟩
    rw [if_neg c34] at H
    have c34b0 : (a1_2 == a0_2) = false := beq_eq_false_iff_ne.mpr c34
    have c34b1 : (a1_2 != a0_2) = true := bne_iff_ne.mpr c34
    obtain rfl := Option.some.inj H
    have hnb38 := NB412_413.out
    have hnc38 := NB413_412.out
    obtain ⟨_, _, _, _, _, _, _, _⟩ := blkc4 BK412
    obtain ⟨_, _, _, _, _, _, _, _⟩ := blkc4 BK413
    go_wp2
    go_ret
    exact ⟨rA, bG⟩
   rw [if_neg c33] at H
   have c33b0 : (a0_1 == 2) = false := beq_eq_false_iff_ne.mpr c33
   have c33b1 : (a0_1 != 2) = true := bne_iff_ne.mpr c33
   by_cases c41 : a1_1 = 2
   ·
    rw [if_pos c41] at H
    have c41b0 : (a1_1 == 2) = true := beq_iff_eq.mpr c41
    have c41b1 : (a1_1 != 2) = false := bne_eq_false_iff_eq.mpr c41
    clear c41
    by_cases c42 : a0_2 = a1_2
    ·
     rw [if_pos c42] at H
     have c42b0 : (a0_2 == a1_2) = true := beq_iff_eq.mpr c42
     have c42b1 : (a0_2 != a1_2) = false := bne_eq_false_iff_eq.mpr c42
     clear c42
     obtain rfl := Option.some.inj H
     have hnb43 := NB412_413.out
     have hnc43 := NB413_412.out
     obtain ⟨_, _, _, _, _, _, _, _⟩ := blkc4 BK412
     obtain ⟨_, _, _, _, _, _, _, _⟩ := blkc4 BK413
     go_wp2
     go_ret
     exact ⟨rA, bG⟩
    rw [if_neg c42] at H
    have c42b0 : (a0_2 == a1_2) = false := beq_eq_false_iff_ne.mpr c42
    have c42b1 : (a0_2 != a1_2) = true := bne_iff_ne.mpr c42
    obtain rfl := Option.some.inj H
    have hnb46 := NB412_413.out
    have hnc46 := NB413_412.out
    obtain ⟨_, _, _, _, _, _, _, _⟩ := blkc4 BK412
    obtain ⟨_, _, _, _, _, _, _, _⟩ := blkc4 BK413
    go_wp2
    go_ret
    exact ⟨rA, bG⟩
   rw [if_neg c41] at H
   have c41b0 : (a1_1 == 2) = false := beq_eq_false_iff_ne.mpr c41
   have c41b1 : (a1_1 != 2) = true := bne_iff_ne.mpr c41
   by_cases c49 : a0_2 = a1_2
   ·
    rw [if_pos c49] at H
    have c49b0 : (a0_2 == a1_2) = true := beq_iff_eq.mpr c49
    have c49b1 : (a0_2 != a1_2) = false := bne_eq_false_iff_eq.mpr c49
    clear c49
    obtain rfl := Option.some.inj H
    have hnb50 := NB412_413.out
    have hnc50 := NB413_412.out
    obtain ⟨_, _, _, _, _, _, _, _⟩ := blkc4 BK412
    obtain ⟨_, _, _, _, _, _, _, _⟩ := blkc4 BK413
    go_wp2
    go_ret
    exact ⟨rA, bG⟩
   rw [if_neg c49] at H
   have c49b0 : (a0_2 == a1_2) = false := beq_eq_false_iff_ne.mpr c49
   have c49b1 : (a0_2 != a1_2) = true := bne_iff_ne.mpr c49
   by_cases c53 : a0_3 = a1_3
   ·
    rw [if_pos c53] at H
    have c53b0 : (a0_3 == a1_3) = true := beq_iff_eq.mpr c53
    have c53b1 : (a0_3 != a1_3) = false := bne_eq_false_iff_eq.mpr c53
    clear c53
    obtain rfl := Option.some.inj H
    have hnb54 := NB412_413.out
    have hnc54 := NB413_412.out
    obtain ⟨_, _, _, _, _, _, _, _⟩ := blkc4 BK412
    obtain ⟨_, _, _, _, _, _, _, _⟩ := blkc4 BK413
    go_wp2
    go_ret
    exact ⟨rA, bG⟩
   rw [if_neg c53] at H
   have c53b0 : (a0_3 == a1_3) = false := beq_eq_false_iff_ne.mpr c53
   have c53b1 : (a0_3 != a1_3) = true := bne_iff_ne.mpr c53
   obtain ⟨t416, A57, H⟩ := bindE H
   try dsimp only at H
   obtain ⟨t417, A58, H⟩ := bindE H
   try dsimp only at H
   obtain ⟨t418, A59, H⟩ := bindE H
   try dsimp only at H
   obtain ⟨t419, A60, H⟩ := bindE H
   try dsimp only at H
   obtain ⟨t420, A61, H⟩ := bindE H
   try dsimp only at H
   obtain rfl := Option.some.inj H
   have hnb62 := NB412_413.out
   have hnc62 := NB413_412.out
   obtain ⟨_, _, _, _, _, _, _, _⟩ := blkc4 BK412
   obtain ⟨_, _, _, _, _, _, _, _⟩ := blkc4 BK413
   try go_wp2
   replace BK412 := dk BK412
   replace BK413 := dk BK413
   have HBo := HB
   replace HB := db HB
   refine start_ (n := 14) (S := fun w' => w'.cell? ⟨gb412, 0, none⟩ = some (.int .i64 a0_0) ∧ w'.cell? ⟨gb412, 1, none⟩ = some (.int .i64 a0_1) ∧ w'.cell? ⟨gb412, 2, none⟩ = some (.int .i64 a0_2) ∧ w'.cell? ⟨gb412, 3, none⟩ = some (.int .i64 a0_3) ∧ w'.cell? ⟨gb413, 0, none⟩ = some (.int .i64 a1_0) ∧ w'.cell? ⟨gb413, 1, none⟩ = some (.int .i64 a1_1) ∧ w'.cell? ⟨gb413, 2, none⟩ = some (.int .i64 a1_2) ∧ w'.cell? ⟨gb413, 3, none⟩ = some (.int .i64 a1_3)) (ds := []) (mb 14 0) (by kernel_rfl) rfl rfl (cm4 BK412 (cn4 BK413)) (fun hHeld => ?_); refine with_tabW spec_Conflict.tab11 spec_Conflict.bits11 (fun HT_ HW_ => ?_)
   generalize wc.drew = w65 at BK412 BK413 HB hHeld ⊢
   refine pa 0 68 (mb 14 1) HT_ ?_
   refine pa 3 71 (mb 14 9) HT_ ?_
   refine pa 6 74 (mb 14 73) HT_ ?_
   refine pa 9 77 (mb 14 585) HT_ ?_
   refine ta8 1 69 (mb 14 587) HT_ HW_ hHeld ?_
   refine ta8 4 72 (mb 14 603) HT_ HW_ hHeld ?_
   refine ta8 7 75 (mb 14 731) HT_ HW_ hHeld ?_
   refine ta8 10 78 (mb 14 1755) HT_ HW_ hHeld ?_
   refine oa 2 70 (mb 14 1759) HT_ (fun K hK => ?_)
   refine gA Try.func168 #[.int .i64 a0_2] ?_
   with_reducible refine (spec_InPlace.calls a0_2 t416 _ A57.out).mono ?_
   rintro e w' ⟨rfl, ⟨nd, rfl⟩⟩
   refine ⟨_, rfl, ?_⟩
   refine hK.out _ _ (cm4 BK412 (cn4 BK413)) (fun hHeld => ?_)
   clear hK K
   refine nB ?_
   refine oa 5 73 (mb 14 1791) HT_ (fun K hK => ?_)
   refine gA Try.func169 #[.int .i64 a0_3] ?_
   with_reducible refine (spec_OutPlace.calls a0_3 t417 _ A58.out).mono ?_
   rintro e w' ⟨rfl, ⟨nd, rfl⟩⟩
   refine ⟨_, rfl, ?_⟩
   refine hK.out _ _ (cm4 BK412 (cn4 BK413)) (fun hHeld => ?_)
   clear hK K
   refine nB ?_
   refine oa 8 76 (mb 14 2047) HT_ (fun K hK => ?_)
   refine gA Try.func168 #[.int .i64 a1_2] ?_
   with_reducible refine (spec_InPlace.calls a1_2 t418 _ A59.out).mono ?_
   rintro e w' ⟨rfl, ⟨nd, rfl⟩⟩
   refine ⟨_, rfl, ?_⟩
   refine hK.out _ _ (cm4 BK412 (cn4 BK413)) (fun hHeld => ?_)
   clear hK K
   refine nB ?_
   refine oa 11 79 (mb 14 4095) HT_ (fun K hK => ?_)
   refine gA Try.func169 #[.int .i64 a1_3] ?_
   with_reducible refine (spec_OutPlace.calls a1_3 t419 _ A60.out).mono ?_
   rintro e w' ⟨rfl, ⟨nd, rfl⟩⟩
   refine ⟨_, rfl, ?_⟩
   refine hK.out _ _ (cm4 BK412 (cn4 BK413)) (fun hHeld => ?_)
   clear hK K
   refine nB ?_
   refine oa 12 80 (mb 14 8191) HT_ (fun K hK => ?_)
   refine gA Try.func167 #[.int .i64 t416, .int .i64 t417, .int .i64 t418, .int .i64 t419] ?_
   with_reducible refine (spec_Interleave.calls kj2 t416 t417 t418 t419 t420 _ A61.out).mono ?_
   rintro e w66 ⟨rfl, hb⟩
   refine ⟨_, rfl, ?_⟩
   replace BK412 := kb BK412 hb
   replace BK413 := kb BK413 hb
   replace HB := bs HB hb
   (try clear hb)
   (try clear hb2)
   (try clear hk)
   (try clear hi)
   refine hK.out _ _ (cm4 BK412 (cn4 BK413)) (fun hHeld => ?_)
   clear hK K
   refine nB ?_
   refine pa 13 4 (mb 14 16383) HT_ ?_
   refine eA HT_ ?_
   try go_wp2
   go_ret
   exact ⟨rA, bG⟩

/-! ### spec_IsTogether: function 112 -/
mutual
def spec_IsTogether.l0 : Nat → List (S50) → List Int → Int → Option (Bool)
 | 0, _, _, _ => none
 | k + 1, x0, x1, x5 => if x5 < (x1.length : Int) then (if 0 ≤ x5 then ((spec_FindPath.f k x0 (rd x1 x5)).bind fun t423 => (if t423 < 0 then (spec_IsTogether.j1 k x0 x1 x5 t423 true) else (if x5 > 0 then (if 0 ≤ (wrap64 (x5 - 1)) then (if (wrap64 (x5 - 1)) < (x1.length : Int) then (spec_IsTogether.j1 k x0 x1 x5 t423 (decide ((rd x1 (wrap64 (x5 - 1))) ≥ (rd x1 x5)))) else (none)) else (none)) else (spec_IsTogether.j1 k x0 x1 x5 t423 false)))) else (none)) else ((spec_ArePaths.f k x0).bind fun t421 => (some t421))
def spec_IsTogether.j1 : Nat → List (S50) → List Int → Int → Int → Bool → Option (Bool)
 | 0, _, _, _, _, _ => none
 | k + 1, x0, x1, x5, x6, x37 => if x37 = true then (some false) else (spec_IsTogether.l1 k x0 x1 x5 x6 0)
def spec_IsTogether.l1 : Nat → List (S50) → List Int → Int → Int → Int → Option (Bool)
 | 0, _, _, _, _, _ => none
 | k + 1, x0, x1, x5, x6, x7 => if x7 < x5 then (if 0 ≤ x6 then (if x6 < (x0.length : Int) then (if 0 ≤ x7 then (if x7 < (x1.length : Int) then ((spec_FindPath.f k x0 (rd x1 x7)).bind fun t428 => (if 0 ≤ t428 then (if t428 < (x0.length : Int) then ((spec_Conflict.f k ((rd_T50 x0 x6).f0) ((rd_T50 x0 x6).f1) ((rd_T50 x0 x6).f2) ((rd_T50 x0 x6).f3) ((rd_T50 x0 t428).f0) ((rd_T50 x0 t428).f1) ((rd_T50 x0 t428).f2) ((rd_T50 x0 t428).f3)).bind fun t430 => (if t430 = true then (some false) else (spec_IsTogether.l1 k x0 x1 x5 x6 (wrap64 (x7 + 1))))) else (none)) else (none))) else (none)) else (none)) else (none)) else (none)) else (spec_IsTogether.l0 k x0 x1 (wrap64 (x5 + 1)))
end
def spec_IsTogether.f (k : Nat) (l0 : List (S50)) (l1 : List Int) : Option (Bool) := spec_IsTogether.l0 k l0 l1 0
theorem spec_IsTogether.mono_l : ∀ k, (∀ y0 y1 y2, LeO (spec_IsTogether.l0 k y0 y1 y2) (spec_IsTogether.l0 (k + 1) y0 y1 y2)) ∧ (∀ y0 y1 y2 y3 y4, LeO (spec_IsTogether.j1 k y0 y1 y2 y3 y4) (spec_IsTogether.j1 (k + 1) y0 y1 y2 y3 y4)) ∧ (∀ y0 y1 y2 y3 y4, LeO (spec_IsTogether.l1 k y0 y1 y2 y3 y4) (spec_IsTogether.l1 (k + 1) y0 y1 y2 y3 y4))
 | 0 => ⟨fun _ _ _ r h => by simp [spec_IsTogether.l0] at h, fun _ _ _ _ _ r h => by simp [spec_IsTogether.j1] at h, fun _ _ _ _ _ r h => by simp [spec_IsTogether.l1] at h⟩
 | k + 1 => by
  obtain ⟨ih0, ih1, ih2⟩ := spec_IsTogether.mono_l k
  refine ⟨?_, ?_, ?_⟩
  ·
   intro y0 y1 y2
   unfold spec_IsTogether.l0
   exact mz6 ih0 ih1 ih2 spec_ArePaths.mono spec_Conflict.mono spec_FindPath.mono
  ·
   intro y0 y1 y2 y3 y4
   unfold spec_IsTogether.j1
   exact mz6 ih0 ih1 ih2 spec_ArePaths.mono spec_Conflict.mono spec_FindPath.mono
  ·
   intro y0 y1 y2 y3 y4
   unfold spec_IsTogether.l1
   exact mz6 ih0 ih1 ih2 spec_ArePaths.mono spec_Conflict.mono spec_FindPath.mono
theorem spec_IsTogether.mono : ∀ a0 a1 k, LeO (spec_IsTogether.f k a0 a1) (spec_IsTogether.f (k + 1) a0 a1) := by
 intro a0 a1 k
 obtain ⟨ih0, ih1, ih2⟩ := spec_IsTogether.mono_l k
 unfold spec_IsTogether.f
 exact mz6 ih0 ih1 ih2 spec_ArePaths.mono spec_Conflict.mono spec_FindPath.mono
def spec_IsTogether.T5 : Bool × List (List Nat × List Nat) := (true, [([], []), ([0], [0]), ([1], [1]), ([2], [2]), ([3, 2], [2, 3]), ([4, 2, 2], [2, 4]), ([5], [5]), ([5], [5]), ([7, 5], [5, 7]), ([6, 8, 5], [5, 6, 8]), ([9, 5], [5, 9]), ([5], [5]), ([5], [5]), ([11, 12, 5], [5, 11, 12]), ([13, 5], [5, 13]), ([10, 14, 5], [5, 10, 14]), ([5, 15, 2], [2, 5, 15]), ([2, 16], [2, 16])])
def spec_IsTogether.B5 : List Nat := [0, 1, 3, 7, 15, 31, 63, 63, 191, 511, 1023, 63, 63, 6207, 14399, 32767, 65535, 131071]
theorem spec_IsTogether.tab5 : rtab .any (opsOf Try.f112 5) = spec_IsTogether.T5 := by kernel_rfl
theorem spec_IsTogether.bits5 : waitsOk spec_IsTogether.T5.2 spec_IsTogether.B5 = true := by kernel_rfl
def spec_IsTogether.T10 : Bool × List (List Nat × List Nat) := (true, [([], []), ([], []), ([0, 1], [0, 1]), ([2], [2]), ([], []), ([], []), ([], []), ([], []), ([6, 7], [6, 7]), ([8], [8]), ([5, 9], [5, 9]), ([4, 10], [4, 10]), ([11], [11]), ([3, 12, 10], [3, 12])])
def spec_IsTogether.B10 : List Nat := [0, 0, 3, 7, 0, 0, 0, 0, 192, 448, 992, 2032, 4080, 8191]
theorem spec_IsTogether.tab10 : rtab .any (opsOf Try.f112 10) = spec_IsTogether.T10 := by kernel_rfl
theorem spec_IsTogether.bits10 : waitsOk spec_IsTogether.T10.2 spec_IsTogether.B10 = true := by kernel_rfl
set_option maxHeartbeats 8000000 in
set_option maxRecDepth 100000 in
theorem spec_IsTogether.calls (k : Nat) (A0 : Option Addr) (c0 : Nat) (l0 : List (S50)) (A1 : Option Addr) (c1 : Nat) (l1 : List Int) (r : Bool) (w : World) (hr0 : Kd.C k50 w A0 l0.length l0) (hc0 : l0.length ≤ c0) (hr1 : Kd.C (Kd.int .i64) w A1 l1.length l1) (hc1 : l1.length ≤ c1) (h : spec_IsTogether.f k l0 l1 = some r) :
  Calls Try.prog 112 #[.slice A0 l0.length c0, .slice A1 l1.length c1] w fun e w' => e = .returned (.bool r) ∧ Below w.heap.size w w' := by
 have hu50 := Try.underlying50
 have HR0 := Aside0.mk hr0
 have HC0 := Aside0.mk hc0
 clear hr0 hc0
 have HR1 := Aside0.mk hr1
 have HC1 := Aside0.mk hc1
 clear hr1 hc1
 have HB := Aside0.mk (Below.refl w.heap.size w)
 have H : (spec_IsTogether.l0 k l0 l1 0) = some r := h
 clear h
 have H' := Aside0.mk H
 clear H
 go_enter Try.func112, Try.ntmps112
 go_wp2
 go_loopg [5] k (fun kq v5 w' => ∃ (x5_1 : Int), v5 = .int .i64 x5_1 ∧ Aside0 (spec_IsTogether.l0 kq l0 l1 x5_1 = some r) ∧ Aside0 (kq ≤ k) ∧ Aside0 (Below w.heap.size w w'))
 case atStart => exact ⟨(0), rS, H', ⟨Nat.le_refl _⟩, ⟨bA⟩⟩
 case round =>
  clear H'
  obtain ⟨x5_1, rfl, HA, HK1, HB⟩ := hrel
  cases gk with
  | zero => exact absurd HA.out (by simp [spec_IsTogether.l0])
  | succ k1 =>
   have H := HA.out
   clear HA
   simp only [spec_IsTogether.l0] at H
   by_cases c3 : x5_1 < (l1.length : Int)
   ·
    rw [if_pos c3] at H
    have c3b0 := decide_eq_true c3
    clear c3
    have c4 : 0 ≤ x5_1 := ifN H
    replace H := ifT H
    have c4b0 := decide_eq_true c4
    clear c4
    obtain ⟨t423, A5, H⟩ := bindE H
    try dsimp only at H
    have HC6 := Aside0.mk H
    clear H
    obtain ⟨p422, q422⟩ : 0 ≤ (x5_1 : Int) ∧ x5_1 < (l1.length : Int) := ⟨dA, dA⟩
    obtain ⟨ad422, e422, hx422_0⟩ := Kd.at_int (Kd.C_below HR1.out HB.out) x5_1 p422 q422
    cases e422
    obtain ⟨p422, q422⟩ := eT p422 q422
    go_upto_region 5 with (first | ((with_reducible refine gate_callee (f := 144) rfl ?_); refine gL (some 19) Try.func144 #[.slice A0 l0.length c0, .int .i64 (rd l1 x5_1)] ?_; (with_reducible refine (spec_FindPath.calls k1 _ _ l0 (rd l1 x5_1) t423 _ ?_ ?_ A5.out).mono ?_); exact cB HR0; exact HC0.out; rintro e w' ⟨rfl, ⟨nd, rfl⟩⟩; refine ⟨_, rfl, ?_⟩))
    (try simp only [Act.put, List.setIfInBounds_toArray, List.set_cons_zero, List.set_cons_succ])
    go_cut [37] (fun v37 wc => ∃ (kq : Nat) (x37_5 : Bool), v37 = .bool x37_5 ∧ Aside0 (spec_IsTogether.j1 kq l0 l1 x5_1 t423 x37_5 = some r) ∧ Aside0 (kq ≤ k1) ∧ Aside0 (Below w.heap.size w wc))
    case first =>
     have H := HC6.out
     clear HC6
     by_cases c7 : t423 < 0
     ·
      rw [if_pos c7] at H
      have c7b0 := decide_eq_true c7
      clear c7
      (first | rw [c7b0] | (simp only [i64_w, i32_w]; rw [c7b0]) | skip)
      have H' := Aside0.mk H
      clear H
      try go_wp2
      have HBo := HB
      replace HB := db HB
      refine start_ (n := 18) (S := fun w' => True) (ds := []) (mb 18 0) (by kernel_rfl) rfl rfl trivial (fun hHeld => ?_); refine with_tabW spec_IsTogether.tab5 spec_IsTogether.bits5 (fun HT_ HW_ => ?_)
      generalize wr.drew = w8 at HB hHeld ⊢
      refine pa 0 20 (mb 18 1) HT_ ?_
      refine pa 1 21 (mb 18 3) HT_ ?_
      refine pa 2 22 (mb 18 7) HT_ ?_
      refine pu 3 23 (mb 18 15) HT_ ?_
      refine pu 4 24 (mb 18 31) HT_ ?_
      refine pu 5 25 (mb 18 63) HT_ ?_
      refine pu 6 26 (mb 18 127) HT_ ?_
      refine pu 7 27 (mb 18 255) HT_ ?_
      refine pu 8 28 (mb 18 511) HT_ ?_
      refine pu 9 29 (mb 18 1023) HT_ ?_
      refine pu 10 30 (mb 18 2047) HT_ ?_
      refine pu 11 31 (mb 18 4095) HT_ ?_
      refine pu 12 32 (mb 18 8191) HT_ ?_
      refine pu 13 33 (mb 18 16383) HT_ ?_
      refine pu 14 34 (mb 18 32767) HT_ ?_
      refine pu 15 35 (mb 18 65535) HT_ ?_
      refine pu 16 36 (mb 18 131071) HT_ ?_
      refine pa 17 37 (mb 18 262143) HT_ ?_
      refine eA HT_ ?_
      try go_wp2
      go_meet
      case rel => exact ⟨_, (true), rS, H', ⟨by have := HK1.out; first | omega | exact Nat.le_refl _⟩, ⟨bA⟩⟩
     rw [if_neg c7] at H
     have c7b0 := decide_eq_false c7
     clear c7
     (first | rw [c7b0] | (simp only [i64_w, i32_w]; rw [c7b0]) | skip)
     by_cases c9 : x5_1 > 0
     ·
      rw [if_pos c9] at H
      have c9b0 := decide_eq_true c9
      clear c9
      obtain ⟨ji10, hji10⟩ : ∃ j_ : Int, (wrap64 (x5_1 - 1)) = j_ := ⟨_, rfl⟩
      replace H : (if 0 ≤ (ji10) then (if (ji10) < (l1.length : Int) then (spec_IsTogether.j1 k1 l0 l1 x5_1 t423 (decide ((rd l1 (ji10)) ≥ (rd l1 x5_1)))) else (none)) else (none)) = some r := by first | (rw [hji10] at H; exact H) | (simp only [hji10] at H ⊢; exact H)
      have hji10w : (IntKind.i64.wrap (x5_1 - 1)) = ji10 := (i64_w _).trans hji10
      have c11 : 0 ≤ (ji10) := ifN H
      replace H := ifT H
      have c11b0 := decide_eq_true c11
      clear c11
      have c12 : (ji10) < (l1.length : Int) := ifN H
      replace H := ifT H
      have c12b0 := decide_eq_true c12
      clear c12
      have H' := Aside0.mk H
      clear H
      try go_wp2
      have HBo := HB
      replace HB := db HB
      obtain ⟨p424, q424⟩ : 0 ≤ ((ji10) : Int) ∧ (ji10) < (l1.length : Int) := ⟨dA, dA⟩
      obtain ⟨ad424, e424, hx424_0⟩ := Kd.at_int HR1.out (ji10) p424 q424
      have hw424_0 := hx424_0
      obtain rfl : ad422 = ad424 := (by injection e424)
      replace hx424_0 := hC HB hx424_0
      obtain ⟨p424, q424⟩ := eT p424 q424
      obtain ⟨p425, q425⟩ : 0 ≤ (x5_1 : Int) ∧ x5_1 < (l1.length : Int) := ⟨dA, dA⟩
      obtain ⟨ad425, e425, hx425_0⟩ := Kd.at_int HR1.out x5_1 p425 q425
      have hw425_0 := hx425_0
      obtain rfl : ad422 = ad425 := (by injection e425)
      replace hx425_0 := hC HB hx425_0
      obtain ⟨p425, q425⟩ := eT p425 q425
      refine start_ (n := 18) (S := fun w' => w'.cell? (ad422.add ((ji10)).toNat) = some (.int .i64 (rd l1 (ji10))) ∧ w'.cell? (ad422.add (x5_1).toNat) = some (.int .i64 (rd l1 x5_1))) (ds := []) (mb 18 0) (by kernel_rfl) rfl rfl ⟨(hC HB hw424_0), (hC HB hw425_0)⟩ (fun hHeld => ?_); refine with_tabW spec_IsTogether.tab5 spec_IsTogether.bits5 (fun HT_ HW_ => ?_)
      generalize wr.drew = w13 at HB hx424_0 hx425_0 hHeld ⊢
      refine pa 0 20 (mb 18 1) HT_ ?_
      refine pa 1 21 (mb 18 3) HT_ ?_
      refine pa 2 22 (mb 18 7) HT_ ?_
      refine pa 3 23 (mb 18 15) HT_ ?_
      refine pa 4 24 (mb 18 31) HT_ ?_
      refine pa 5 25 (mb 18 63) HT_ ?_
      refine pa 6 26 (mb 18 127) HT_ ?_
      refine pa 7 27 (mb 18 255) HT_ ?_
      refine pa 8 28 (mb 18 511) HT_ ?_
      refine pa 9 29 (mb 18 1023) HT_ ?_
      refine pa 11 31 (mb 18 3071) HT_ ?_
      refine pa 12 32 (mb 18 7167) HT_ ?_
      refine pa 13 33 (mb 18 15359) HT_ ?_
      refine ta2 10 30 (mb 18 16383) HT_ HW_ hHeld ?_
      refine ta2 14 34 (mb 18 32767) HT_ HW_ hHeld ?_
      refine pa 15 35 (mb 18 65535) HT_ ?_
      refine pa 16 36 (mb 18 131071) HT_ ?_
      refine pa 17 37 (mb 18 262143) HT_ ?_
      refine eA HT_ ?_
      try go_wp2
      go_meet
      case rel => exact ⟨_, (decide ((rd l1 (ji10)) ≥ (rd l1 x5_1))), (by first | rfl | (simp; done) | (simp only [← hji10] <;> (first | rfl | simp)) | (simp [*]; done)), H', ⟨by have := HK1.out; first | omega | exact Nat.le_refl _⟩, ⟨bA⟩⟩
     rw [if_neg c9] at H
     have c9b0 := decide_eq_false c9
     clear c9
     have H' := Aside0.mk H
     clear H
     try go_wp2
     have HBo := HB
     replace HB := db HB
     refine start_ (n := 18) (S := fun w' => True) (ds := []) (mb 18 0) (by kernel_rfl) rfl rfl trivial (fun hHeld => ?_); refine with_tabW spec_IsTogether.tab5 spec_IsTogether.bits5 (fun HT_ HW_ => ?_)
     generalize wr.drew = w14 at HB hHeld ⊢
     refine pa 0 20 (mb 18 1) HT_ ?_
     refine pa 1 21 (mb 18 3) HT_ ?_
     refine pa 2 22 (mb 18 7) HT_ ?_
     refine pa 3 23 (mb 18 15) HT_ ?_
     refine pa 4 24 (mb 18 31) HT_ ?_
     refine pa 5 25 (mb 18 63) HT_ ?_
     refine pu 6 26 (mb 18 127) HT_ ?_
     refine pu 7 27 (mb 18 255) HT_ ?_
     refine pu 8 28 (mb 18 511) HT_ ?_
     refine pu 9 29 (mb 18 1023) HT_ ?_
     refine pu 10 30 (mb 18 2047) HT_ ?_
     refine pu 11 31 (mb 18 4095) HT_ ?_
     refine pu 12 32 (mb 18 8191) HT_ ?_
     refine pu 13 33 (mb 18 16383) HT_ ?_
     refine pu 14 34 (mb 18 32767) HT_ ?_
     refine pu 15 35 (mb 18 65535) HT_ ?_
     refine pa 16 36 (mb 18 131071) HT_ ?_
     refine pa 17 37 (mb 18 262143) HT_ ?_
     refine eA HT_ ?_
     try go_wp2
     go_meet
     case rel => exact ⟨_, (false), rS, H', ⟨by have := HK1.out; first | omega | exact Nat.le_refl _⟩, ⟨bA⟩⟩
    case rest =>
     clear HC6
     obtain ⟨kq, x37_5, rfl, HA, HJ5, HB⟩ := hcut
     cases kq with
     | zero => exact absurd HA.out (by simp [spec_IsTogether.j1])
     | succ kj5 =>
      have H := HA.out
      clear HA
      simp only [spec_IsTogether.j1] at H
      by_cases c15 : x37_5 = true
      ·
       subst c15
       have H1 : (some false) = some r := by rw [if_pos rfl] at H; exact H
       clear H
       have H := H1
       clear H1
       obtain rfl := Option.some.inj H
       go_wp2
       go_ret
       exact ⟨rA, bA⟩
      replace c15 := Bool.eq_false_iff.mpr c15
      subst c15
      have H1 : (spec_IsTogether.l1 kj5 l0 l1 x5_1 t423 0) = some r := by rw [if_neg (show ¬ (false = true) by decide)] at H; exact H
      clear H
      have H := H1
      clear H1
      have H' := Aside0.mk H
      clear H
      go_wp2
      go_loopg [7] kj5 (fun kq v7 w' => ∃ (x7_3 : Int), v7 = .int .i64 x7_3 ∧ Aside0 (spec_IsTogether.l1 kq l0 l1 x5_1 t423 x7_3 = some r) ∧ Aside0 (kq ≤ kj5) ∧ Aside0 (Below w.heap.size w w'))
      case atStart => exact ⟨(0), rS, H', ⟨Nat.le_refl _⟩, ⟨bA⟩⟩
      case round =>
       clear H'
       obtain ⟨x7_3, rfl, HA, HK3, HB⟩ := hrel
       cases gk with
       | zero => exact absurd HA.out (by simp [spec_IsTogether.l1])
       | succ k3 =>
        have H := HA.out
        clear HA
        simp only [spec_IsTogether.l1] at H
        by_cases c16 : x7_3 < x5_1
        ·
         rw [if_pos c16] at H
         have c16b0 := decide_eq_true c16
         clear c16
         have c17 : 0 ≤ t423 := ifN H
         replace H := ifT H
         have c17b0 := decide_eq_true c17
         clear c17
         have c18 : t423 < (l0.length : Int) := ifN H
         replace H := ifT H
         have c18b0 := decide_eq_true c18
         clear c18
         have c19 : 0 ≤ x7_3 := ifN H
         replace H := ifT H
         have c19b0 := decide_eq_true c19
         clear c19
         have c20 : x7_3 < (l1.length : Int) := ifN H
         replace H := ifT H
         have c20b0 := decide_eq_true c20
         clear c20
         obtain ⟨t428, A21, H⟩ := bindE H
         try dsimp only at H
         have c22 : 0 ≤ t428 := ifN H
         replace H := ifT H
         have c22b0 := decide_eq_true c22
         clear c22
         have c23 : t428 < (l0.length : Int) := ifN H
         replace H := ifT H
         have c23b0 := decide_eq_true c23
         clear c23
         obtain ⟨t430, A24, H⟩ := bindE H
         try dsimp only at H
         by_cases c25 : t430 = true
         ·
          subst c25
          have H1 : (some false) = some r := by rw [if_pos rfl] at H; exact H
          clear H
          have H := H1
          clear H1
          obtain rfl := Option.some.inj H
          try go_wp2
          have HBo := HB
          replace HB := db HB
          obtain ⟨p426, q426⟩ : 0 ≤ (t423 : Int) ∧ t423 < (l0.length : Int) := ⟨dA, dA⟩
          obtain ⟨ad426, e426, hx426_0, hx426_1, hx426_2, hx426_3⟩ := at_T50 HR0.out t423 p426 q426
          have hw426_3 := hx426_3
          have hw426_2 := hx426_2
          have hw426_1 := hx426_1
          have hw426_0 := hx426_0
          cases e426
          replace hx426_0 := hC HB hx426_0
          replace hx426_1 := hC HB hx426_1
          replace hx426_2 := hC HB hx426_2
          replace hx426_3 := hC HB hx426_3
          obtain ⟨p426, q426⟩ := eT p426 q426
          obtain ⟨p427, q427⟩ : 0 ≤ (x7_3 : Int) ∧ x7_3 < (l1.length : Int) := ⟨dA, dA⟩
          obtain ⟨ad427, e427, hx427_0⟩ := Kd.at_int HR1.out x7_3 p427 q427
          have hw427_0 := hx427_0
          obtain rfl : ad422 = ad427 := (by injection e427)
          replace hx427_0 := hC HB hx427_0
          obtain ⟨p427, q427⟩ := eT p427 q427
          obtain ⟨p429, q429⟩ : 0 ≤ (t428 : Int) ∧ t428 < (l0.length : Int) := ⟨dA, dA⟩
          obtain ⟨ad429, e429, hx429_0, hx429_1, hx429_2, hx429_3⟩ := at_T50 HR0.out t428 p429 q429
          have hw429_3 := hx429_3
          have hw429_2 := hx429_2
          have hw429_1 := hx429_1
          have hw429_0 := hx429_0
          obtain rfl : ad426 = ad429 := (by injection e429)
          replace hx429_0 := hC HB hx429_0
          replace hx429_1 := hC HB hx429_1
          replace hx429_2 := hC HB hx429_2
          replace hx429_3 := hC HB hx429_3
          obtain ⟨p429, q429⟩ := eT p429 q429
          refine start_ (n := 14) (S := fun w' => w'.cell? (ad426.add ((t423).toNat * 4)) = some (.int .i64 ((rd_T50 l0 t423).f0)) ∧ w'.cell? ⟨(ad426.add ((t423).toNat * 4)).block, (ad426.add ((t423).toNat * 4)).off + 1, none⟩ = some (.int .i64 ((rd_T50 l0 t423).f1)) ∧ w'.cell? ⟨(ad426.add ((t423).toNat * 4)).block, (ad426.add ((t423).toNat * 4)).off + 2, none⟩ = some (.int .i64 ((rd_T50 l0 t423).f2)) ∧ w'.cell? ⟨(ad426.add ((t423).toNat * 4)).block, (ad426.add ((t423).toNat * 4)).off + 3, none⟩ = some (.int .i64 ((rd_T50 l0 t423).f3)) ∧ w'.cell? (ad422.add (x7_3).toNat) = some (.int .i64 (rd l1 x7_3)) ∧ w'.cell? (ad426.add ((t428).toNat * 4)) = some (.int .i64 ((rd_T50 l0 t428).f0)) ∧ w'.cell? ⟨(ad426.add ((t428).toNat * 4)).block, (ad426.add ((t428).toNat * 4)).off + 1, none⟩ = some (.int .i64 ((rd_T50 l0 t428).f1)) ∧ w'.cell? ⟨(ad426.add ((t428).toNat * 4)).block, (ad426.add ((t428).toNat * 4)).off + 2, none⟩ = some (.int .i64 ((rd_T50 l0 t428).f2)) ∧ w'.cell? ⟨(ad426.add ((t428).toNat * 4)).block, (ad426.add ((t428).toNat * 4)).off + 3, none⟩ = some (.int .i64 ((rd_T50 l0 t428).f3))) (ds := []) (mb 14 0) (by kernel_rfl) rfl rfl ⟨(hC HB hw426_0), (hC HB hw426_1), (hC HB hw426_2), (hC HB hw426_3), (hC HB hw427_0), (hC HB hw429_0), (hC HB hw429_1), (hC HB hw429_2), (hC HB hw429_3)⟩ (fun hHeld => ?_); refine with_tabW spec_IsTogether.tab10 spec_IsTogether.bits10 (fun HT_ HW_ => ?_)
          generalize wr.drew = w26 at HB hx426_0 hx426_1 hx426_2 hx426_3 hx427_0 hx429_0 hx429_1 hx429_2 hx429_3 hHeld ⊢
          refine pa 0 43 (mb 14 1) HT_ ?_
          refine pa 1 44 (mb 14 3) HT_ ?_
          refine pa 2 45 (mb 14 7) HT_ ?_
          refine pa 4 47 (mb 14 23) HT_ ?_
          refine pa 5 48 (mb 14 55) HT_ ?_
          refine pa 6 49 (mb 14 119) HT_ ?_
          refine pa 7 50 (mb 14 247) HT_ ?_
          refine pa 8 51 (mb 14 503) HT_ ?_
          refine ta9 3 46 (mb 14 511) HT_ HW_ hHeld ?_
          refine ta9 9 52 (mb 14 1023) HT_ HW_ hHeld ?_
          refine oa 10 53 (mb 14 2047) HT_ (fun K hK => ?_)
          refine gA Try.func144 #[.slice (some ad426) l0.length c0, .int .i64 (rd l1 x7_3)] ?_
          with_reducible refine (spec_FindPath.calls k3 _ _ l0 (rd l1 x7_3) t428 _ ?side1 ?side2 A21.out).mono ?_
          (case side1 => exact cB HR0)
          (case side2 => exact HC0.out)
          rintro e w' ⟨rfl, ⟨nd, rfl⟩⟩
          refine ⟨_, rfl, ?_⟩
          refine hK.out _ _ ⟨(hC HB hw426_0), (hC HB hw426_1), (hC HB hw426_2), (hC HB hw426_3), (hC HB hw427_0), (hC HB hw429_0), (hC HB hw429_1), (hC HB hw429_2), (hC HB hw429_3)⟩ (fun hHeld => ?_)
          clear hK K
          refine nB ?_
          refine pa 11 54 (mb 14 4095) HT_ ?_
          refine ta9 12 55 (mb 14 8191) HT_ HW_ hHeld ?_
          refine oa 13 56 (mb 14 16383) HT_ (fun K hK => ?_)
          refine gA Try.func145 #[.agg #[.int .i64 ((rd_T50 l0 t423).f0), .int .i64 ((rd_T50 l0 t423).f1), .int .i64 ((rd_T50 l0 t423).f2), .int .i64 ((rd_T50 l0 t423).f3)], .agg #[.int .i64 ((rd_T50 l0 t428).f0), .int .i64 ((rd_T50 l0 t428).f1), .int .i64 ((rd_T50 l0 t428).f2), .int .i64 ((rd_T50 l0 t428).f3)]] ?_
          with_reducible refine (spec_Conflict.calls k3 ((rd_T50 l0 t423).f0) ((rd_T50 l0 t423).f1) ((rd_T50 l0 t423).f2) ((rd_T50 l0 t423).f3) ((rd_T50 l0 t428).f0) ((rd_T50 l0 t428).f1) ((rd_T50 l0 t428).f2) ((rd_T50 l0 t428).f3) true _ A24.out).mono ?_
          rintro e w27 ⟨rfl, hb⟩
          refine ⟨_, rfl, ?_⟩
          replace HB := bs HB hb
          (try clear hb)
          (try clear hb2)
          (try clear hk)
          (try clear hi)
          refine hK.out _ _ ⟨(hC HB hw426_0), (hC HB hw426_1), (hC HB hw426_2), (hC HB hw426_3), (hC HB hw427_0), (hC HB hw429_0), (hC HB hw429_1), (hC HB hw429_2), (hC HB hw429_3)⟩ (fun hHeld => ?_)
          clear hK K
          refine nB ?_
          refine eA HT_ ?_
          try go_wp2
          go_ret
          exact ⟨rA, bA⟩
         replace c25 := Bool.eq_false_iff.mpr c25
         subst c25
         have H1 : (spec_IsTogether.l1 k3 l0 l1 x5_1 t423 (wrap64 (x7_3 + 1))) = some r := by rw [if_neg (show ¬ (false = true) by decide)] at H; exact H
         clear H
         have H := H1
         clear H1
         have H' := Aside0.mk H
         clear H
         try go_wp2
         have HBo := HB
         replace HB := db HB
         obtain ⟨p426, q426⟩ : 0 ≤ (t423 : Int) ∧ t423 < (l0.length : Int) := ⟨dA, dA⟩
         obtain ⟨ad426, e426, hx426_0, hx426_1, hx426_2, hx426_3⟩ := at_T50 HR0.out t423 p426 q426
         have hw426_3 := hx426_3
         have hw426_2 := hx426_2
         have hw426_1 := hx426_1
         have hw426_0 := hx426_0
         cases e426
         replace hx426_0 := hC HB hx426_0
         replace hx426_1 := hC HB hx426_1
         replace hx426_2 := hC HB hx426_2
         replace hx426_3 := hC HB hx426_3
         obtain ⟨p426, q426⟩ := eT p426 q426
         obtain ⟨p427, q427⟩ : 0 ≤ (x7_3 : Int) ∧ x7_3 < (l1.length : Int) := ⟨dA, dA⟩
         obtain ⟨ad427, e427, hx427_0⟩ := Kd.at_int HR1.out x7_3 p427 q427
         have hw427_0 := hx427_0
         obtain rfl : ad422 = ad427 := (by injection e427)
         replace hx427_0 := hC HB hx427_0
         obtain ⟨p427, q427⟩ := eT p427 q427
         obtain ⟨p429, q429⟩ : 0 ≤ (t428 : Int) ∧ t428 < (l0.length : Int) := ⟨dA, dA⟩
         obtain ⟨ad429, e429, hx429_0, hx429_1, hx429_2, hx429_3⟩ := at_T50 HR0.out t428 p429 q429
         have hw429_3 := hx429_3
         have hw429_2 := hx429_2
         have hw429_1 := hx429_1
         have hw429_0 := hx429_0
         obtain rfl : ad426 = ad429 := (by injection e429)
         replace hx429_0 := hC HB hx429_0
         replace hx429_1 := hC HB hx429_1
         replace hx429_2 := hC HB hx429_2
         replace hx429_3 := hC HB hx429_3
         obtain ⟨p429, q429⟩ := eT p429 q429
         refine start_ (n := 14) (S := fun w' => w'.cell? (ad426.add ((t423).toNat * 4)) = some (.int .i64 ((rd_T50 l0 t423).f0)) ∧ w'.cell? ⟨(ad426.add ((t423).toNat * 4)).block, (ad426.add ((t423).toNat * 4)).off + 1, none⟩ = some (.int .i64 ((rd_T50 l0 t423).f1)) ∧ w'.cell? ⟨(ad426.add ((t423).toNat * 4)).block, (ad426.add ((t423).toNat * 4)).off + 2, none⟩ = some (.int .i64 ((rd_T50 l0 t423).f2)) ∧ w'.cell? ⟨(ad426.add ((t423).toNat * 4)).block, (ad426.add ((t423).toNat * 4)).off + 3, none⟩ = some (.int .i64 ((rd_T50 l0 t423).f3)) ∧ w'.cell? (ad422.add (x7_3).toNat) = some (.int .i64 (rd l1 x7_3)) ∧ w'.cell? (ad426.add ((t428).toNat * 4)) = some (.int .i64 ((rd_T50 l0 t428).f0)) ∧ w'.cell? ⟨(ad426.add ((t428).toNat * 4)).block, (ad426.add ((t428).toNat * 4)).off + 1, none⟩ = some (.int .i64 ((rd_T50 l0 t428).f1)) ∧ w'.cell? ⟨(ad426.add ((t428).toNat * 4)).block, (ad426.add ((t428).toNat * 4)).off + 2, none⟩ = some (.int .i64 ((rd_T50 l0 t428).f2)) ∧ w'.cell? ⟨(ad426.add ((t428).toNat * 4)).block, (ad426.add ((t428).toNat * 4)).off + 3, none⟩ = some (.int .i64 ((rd_T50 l0 t428).f3))) (ds := []) (mb 14 0) (by kernel_rfl) rfl rfl ⟨(hC HB hw426_0), (hC HB hw426_1), (hC HB hw426_2), (hC HB hw426_3), (hC HB hw427_0), (hC HB hw429_0), (hC HB hw429_1), (hC HB hw429_2), (hC HB hw429_3)⟩ (fun hHeld => ?_); refine with_tabW spec_IsTogether.tab10 spec_IsTogether.bits10 (fun HT_ HW_ => ?_)
         generalize wr.drew = w28 at HB hx426_0 hx426_1 hx426_2 hx426_3 hx427_0 hx429_0 hx429_1 hx429_2 hx429_3 hHeld ⊢
         refine pa 0 43 (mb 14 1) HT_ ?_
         refine pa 1 44 (mb 14 3) HT_ ?_
         refine pa 2 45 (mb 14 7) HT_ ?_
         refine pa 4 47 (mb 14 23) HT_ ?_
         refine pa 5 48 (mb 14 55) HT_ ?_
         refine pa 6 49 (mb 14 119) HT_ ?_
         refine pa 7 50 (mb 14 247) HT_ ?_
         refine pa 8 51 (mb 14 503) HT_ ?_
         refine ta9 3 46 (mb 14 511) HT_ HW_ hHeld ?_
         refine ta9 9 52 (mb 14 1023) HT_ HW_ hHeld ?_
         refine oa 10 53 (mb 14 2047) HT_ (fun K hK => ?_)
         refine gA Try.func144 #[.slice (some ad426) l0.length c0, .int .i64 (rd l1 x7_3)] ?_
         with_reducible refine (spec_FindPath.calls k3 _ _ l0 (rd l1 x7_3) t428 _ ?side1 ?side2 A21.out).mono ?_
         (case side1 => exact cB HR0)
         (case side2 => exact HC0.out)
         rintro e w' ⟨rfl, ⟨nd, rfl⟩⟩
         refine ⟨_, rfl, ?_⟩
         refine hK.out _ _ ⟨(hC HB hw426_0), (hC HB hw426_1), (hC HB hw426_2), (hC HB hw426_3), (hC HB hw427_0), (hC HB hw429_0), (hC HB hw429_1), (hC HB hw429_2), (hC HB hw429_3)⟩ (fun hHeld => ?_)
         clear hK K
         refine nB ?_
         refine pa 11 54 (mb 14 4095) HT_ ?_
         refine ta9 12 55 (mb 14 8191) HT_ HW_ hHeld ?_
         refine oa 13 56 (mb 14 16383) HT_ (fun K hK => ?_)
         refine gA Try.func145 #[.agg #[.int .i64 ((rd_T50 l0 t423).f0), .int .i64 ((rd_T50 l0 t423).f1), .int .i64 ((rd_T50 l0 t423).f2), .int .i64 ((rd_T50 l0 t423).f3)], .agg #[.int .i64 ((rd_T50 l0 t428).f0), .int .i64 ((rd_T50 l0 t428).f1), .int .i64 ((rd_T50 l0 t428).f2), .int .i64 ((rd_T50 l0 t428).f3)]] ?_
         with_reducible refine (spec_Conflict.calls k3 ((rd_T50 l0 t423).f0) ((rd_T50 l0 t423).f1) ((rd_T50 l0 t423).f2) ((rd_T50 l0 t423).f3) ((rd_T50 l0 t428).f0) ((rd_T50 l0 t428).f1) ((rd_T50 l0 t428).f2) ((rd_T50 l0 t428).f3) false _ A24.out).mono ?_
         rintro e w29 ⟨rfl, hb⟩
         refine ⟨_, rfl, ?_⟩
         replace HB := bs HB hb
         (try clear hb)
         (try clear hb2)
         (try clear hk)
         (try clear hi)
         refine hK.out _ _ ⟨(hC HB hw426_0), (hC HB hw426_1), (hC HB hw426_2), (hC HB hw426_3), (hC HB hw427_0), (hC HB hw429_0), (hC HB hw429_1), (hC HB hw429_2), (hC HB hw429_3)⟩ (fun hHeld => ?_)
         clear hK K
         refine nB ?_
         refine eA HT_ ?_
         try go_wp2
         go_roundg k3
         case measure => have := HK1.out; have := HJ5.out; have := HK3.out; omega
         case rel => exact ⟨(wrap64 (x7_3 + 1)), rS, H', ⟨by have := HK1.out; have := HJ5.out; have := HK3.out; omega⟩, ⟨bA⟩⟩
        rw [if_neg c16] at H
        have c16b0 := decide_eq_false c16
        clear c16
        have H' := Aside0.mk H
        clear H
        go_wp2
        go_roundg k3
        case measure => have := HK1.out; have := HJ5.out; have := HK3.out; omega
        case rel => exact ⟨(wrap64 (x5_1 + 1)), rS, H', ⟨by have := HK1.out; have := HJ5.out; have := HK3.out; omega⟩, ⟨bA⟩⟩
   rw [if_neg c3] at H
   have c3b0 := decide_eq_false c3
   clear c3
   obtain ⟨t421, A30, H⟩ := bindE H
   try dsimp only at H
   obtain rfl := Option.some.inj H
   go_wp2_with (first | ((with_reducible refine gate_callee (f := 33) rfl ?_); refine gL (some 58) Try.func33 #[.slice A0 l0.length c0] ?_; (with_reducible refine (spec_ArePaths.calls k1 _ _ l0 t421 _ ?_ ?_ A30.out).mono ?_); exact cB HR0; exact HC0.out; rintro e w31 ⟨rfl, hb⟩; refine ⟨_, rfl, ?_⟩; replace HB := bs HB hb; (try clear hb)))
   go_ret
   exact ⟨rA, bA⟩

/-! ### spec_LeastGreen: function 113 -/
def spec_LeastGreen.l0 : Nat → List (S50) → List Int → Int → Option (Int)
 | 0, _, _, _ => none
 | k + 1, x0, x1, x5 => if x5 < (x1.length : Int) then (if 0 ≤ x5 then ((spec_FindPath.f k x0 (rd x1 x5)).bind fun t432 => (if t432 ≥ 0 then (if 0 ≤ t432 then (if t432 < (x0.length : Int) then (if ((rd_T50 x0 t432).f1) = 2 then (some 7) else (spec_LeastGreen.l0 k x0 x1 (wrap64 (x5 + 1)))) else (none)) else (none)) else (spec_LeastGreen.l0 k x0 x1 (wrap64 (x5 + 1))))) else (none)) else (some 5)
def spec_LeastGreen.f (k : Nat) (l0 : List (S50)) (l1 : List Int) : Option (Int) := spec_LeastGreen.l0 k l0 l1 0
theorem spec_LeastGreen.mono_l : ∀ k, (∀ y0 y1 y2, LeO (spec_LeastGreen.l0 k y0 y1 y2) (spec_LeastGreen.l0 (k + 1) y0 y1 y2))
 | 0 => fun _ _ _ r h => by simp [spec_LeastGreen.l0] at h
 | k + 1 => by
  have ih0 := spec_LeastGreen.mono_l k
  ·
   intro y0 y1 y2
   unfold spec_LeastGreen.l0
   exact mz2 ih0 spec_FindPath.mono
theorem spec_LeastGreen.mono : ∀ a0 a1 k, LeO (spec_LeastGreen.f k a0 a1) (spec_LeastGreen.f (k + 1) a0 a1) := by
 intro a0 a1 k
 have ih0 := spec_LeastGreen.mono_l k
 unfold spec_LeastGreen.f
 exact mz2 ih0 spec_FindPath.mono
set_option maxHeartbeats 8000000 in
set_option maxRecDepth 100000 in
theorem spec_LeastGreen.calls (k : Nat) (A0 : Option Addr) (c0 : Nat) (l0 : List (S50)) (A1 : Option Addr) (c1 : Nat) (l1 : List Int) (r : Int) (w : World) (hr0 : Kd.C k50 w A0 l0.length l0) (hc0 : l0.length ≤ c0) (hr1 : Kd.C (Kd.int .i64) w A1 l1.length l1) (hc1 : l1.length ≤ c1) (h : spec_LeastGreen.f k l0 l1 = some r) :
  Calls Try.prog 113 #[.slice A0 l0.length c0, .slice A1 l1.length c1] w fun e w' => e = .returned (.int .i64 r) ∧ Drawn0 w w' := by
 have HR0 := Aside0.mk hr0
 have HC0 := Aside0.mk hc0
 clear hr0 hc0
 have HR1 := Aside0.mk hr1
 have HC1 := Aside0.mk hc1
 clear hr1 hc1
 have H : (spec_LeastGreen.l0 k l0 l1 0) = some r := h
 clear h
 have H' := Aside0.mk H
 clear H
 go_enter Try.func113, Try.ntmps113
 go_wp2
 go_loopg [5] k (fun kq v5 w' => ∃ (x5_1 : Int), v5 = .int .i64 x5_1 ∧ Aside0 (spec_LeastGreen.l0 kq l0 l1 x5_1 = some r) ∧ Aside0 (kq ≤ k) ∧ Drawn0 w w')
 case atStart => exact ⟨(0), rS, H', ⟨Nat.le_refl _⟩, by repeat (first | exact Drawn0.refl _ | apply Drawn0.step)⟩
 case round =>
  clear H'
  obtain ⟨x5_1, rfl, HA, HK1, ⟨m1, rfl⟩⟩ := hrel
  cases gk with
  | zero => exact absurd HA.out (by simp [spec_LeastGreen.l0])
  | succ k1 =>
   have H := HA.out
   clear HA
   simp only [spec_LeastGreen.l0] at H
   by_cases c3 : x5_1 < (l1.length : Int)
   ·
    rw [if_pos c3] at H
    have c3b0 := decide_eq_true c3
    clear c3
    have c4 : 0 ≤ x5_1 := ifN H
    replace H := ifT H
    have c4b0 := decide_eq_true c4
    clear c4
    obtain ⟨t432, A5, H⟩ := bindE H
    try dsimp only at H
    by_cases c6 : t432 ≥ 0
    ·
     rw [if_pos c6] at H
     have c6b0 := decide_eq_true c6
     clear c6
     have c7 : 0 ≤ t432 := ifN H
     replace H := ifT H
     have c7b0 := decide_eq_true c7
     clear c7
     have c8 : t432 < (l0.length : Int) := ifN H
     replace H := ifT H
     have c8b0 := decide_eq_true c8
     clear c8
     by_cases c9 : ((rd_T50 l0 t432).f1) = 2
     ·
      rw [if_pos c9] at H
      have c9b0 : (((rd_T50 l0 t432).f1) == 2) = true := beq_iff_eq.mpr c9
      have c9b1 : (((rd_T50 l0 t432).f1) != 2) = false := bne_eq_false_iff_eq.mpr c9
      clear c9
      obtain rfl := Option.some.inj H
      obtain ⟨p431, q431⟩ : 0 ≤ (x5_1 : Int) ∧ x5_1 < (l1.length : Int) := ⟨dA, dA⟩
      obtain ⟨ad431, e431, hx431_0⟩ := Kd.at_int HR1.out x5_1 p431 q431
      cases e431
      obtain ⟨p431, q431⟩ := eT p431 q431
      go_wp2_with (first | ((with_reducible refine gate_callee (f := 144) rfl ?_); refine gL (some 18) Try.func144 #[.slice A0 l0.length c0, .int .i64 (rd l1 x5_1)] ?_; (with_reducible refine (spec_FindPath.calls k1 _ _ l0 (rd l1 x5_1) t432 _ ?_ ?_ A5.out).mono ?_); exact cO HR0; exact HC0.out; rintro e w' ⟨rfl, ⟨nd, rfl⟩⟩; refine ⟨_, rfl, ?_⟩; have p433 : 0 ≤ (t432 : Int) := dA; have q433 : t432 < (l0.length : Int) := dA; obtain ⟨ad433, e433, hx433_0, hx433_1, hx433_2, hx433_3⟩ := at_T50 HR0.out t432 p433 q433; cases e433; replace p433 := eq_true p433; replace q433 := eq_true q433))
      go_ret
      exact ⟨rS, dD⟩
     rw [if_neg c9] at H
     have c9b0 : (((rd_T50 l0 t432).f1) == 2) = false := beq_eq_false_iff_ne.mpr c9
     have c9b1 : (((rd_T50 l0 t432).f1) != 2) = true := bne_iff_ne.mpr c9
     have H' := Aside0.mk H
     clear H
     obtain ⟨p431, q431⟩ : 0 ≤ (x5_1 : Int) ∧ x5_1 < (l1.length : Int) := ⟨dA, dA⟩
     obtain ⟨ad431, e431, hx431_0⟩ := Kd.at_int HR1.out x5_1 p431 q431
     cases e431
     obtain ⟨p431, q431⟩ := eT p431 q431
     go_wp2_with (first | ((with_reducible refine gate_callee (f := 144) rfl ?_); refine gL (some 18) Try.func144 #[.slice A0 l0.length c0, .int .i64 (rd l1 x5_1)] ?_; (with_reducible refine (spec_FindPath.calls k1 _ _ l0 (rd l1 x5_1) t432 _ ?_ ?_ A5.out).mono ?_); exact cO HR0; exact HC0.out; rintro e w' ⟨rfl, ⟨nd, rfl⟩⟩; refine ⟨_, rfl, ?_⟩; have p433 : 0 ≤ (t432 : Int) := dA; have q433 : t432 < (l0.length : Int) := dA; obtain ⟨ad433, e433, hx433_0, hx433_1, hx433_2, hx433_3⟩ := at_T50 HR0.out t432 p433 q433; cases e433; replace p433 := eq_true p433; replace q433 := eq_true q433))
     go_roundg k1
     case measure => have := HK1.out; omega
     case rel => exact ⟨(wrap64 (x5_1 + 1)), rS, H', ⟨by have := HK1.out; omega⟩, by repeat (first | exact Drawn0.refl _ | apply Drawn0.step)⟩
    rw [if_neg c6] at H
    have c6b0 := decide_eq_false c6
    clear c6
    have H' := Aside0.mk H
    clear H
    obtain ⟨p431, q431⟩ : 0 ≤ (x5_1 : Int) ∧ x5_1 < (l1.length : Int) := ⟨dA, dA⟩
    obtain ⟨ad431, e431, hx431_0⟩ := Kd.at_int HR1.out x5_1 p431 q431
    cases e431
    obtain ⟨p431, q431⟩ := eT p431 q431
    go_wp2_with (first | ((with_reducible refine gate_callee (f := 144) rfl ?_); refine gL (some 18) Try.func144 #[.slice A0 l0.length c0, .int .i64 (rd l1 x5_1)] ?_; (with_reducible refine (spec_FindPath.calls k1 _ _ l0 (rd l1 x5_1) t432 _ ?_ ?_ A5.out).mono ?_); exact cO HR0; exact HC0.out; rintro e w' ⟨rfl, ⟨nd, rfl⟩⟩; refine ⟨_, rfl, ?_⟩))
    go_roundg k1
    case measure => have := HK1.out; omega
    case rel => exact ⟨(wrap64 (x5_1 + 1)), rS, H', ⟨by have := HK1.out; omega⟩, by repeat (first | exact Drawn0.refl _ | apply Drawn0.step)⟩
   rw [if_neg c3] at H
   have c3b0 := decide_eq_false c3
   clear c3
   obtain rfl := Option.some.inj H
   go_wp2
   go_ret
   exact ⟨rS, dD⟩

/-! ### spec_l6Has: function 133 -/
def spec_l6Has.l0 : Nat → List Int → Int → Int → Option (Bool)
 | 0, _, _, _ => none
 | k + 1, x0, x1, x5 => if x5 < (x0.length : Int) then (if 0 ≤ x5 then (if (rd x0 x5) = x1 then (some true) else (spec_l6Has.l0 k x0 x1 (wrap64 (x5 + 1)))) else (none)) else (some false)
def spec_l6Has.f (k : Nat) (l0 : List Int) (a1 : Int) : Option (Bool) := spec_l6Has.l0 k l0 a1 0
theorem spec_l6Has.mono_l : ∀ k, (∀ y0 y1 y2, LeO (spec_l6Has.l0 k y0 y1 y2) (spec_l6Has.l0 (k + 1) y0 y1 y2))
 | 0 => fun _ _ _ r h => by simp [spec_l6Has.l0] at h
 | k + 1 => by
  have ih0 := spec_l6Has.mono_l k
  ·
   intro y0 y1 y2
   unfold spec_l6Has.l0
   exact mz1 ih0
theorem spec_l6Has.mono : ∀ a0 a1 k, LeO (spec_l6Has.f k a0 a1) (spec_l6Has.f (k + 1) a0 a1) := by
 intro a0 a1 k
 have ih0 := spec_l6Has.mono_l k
 unfold spec_l6Has.f
 exact mz1 ih0
set_option maxHeartbeats 8000000 in
set_option maxRecDepth 100000 in
theorem spec_l6Has.calls (k : Nat) (A0 : Option Addr) (c0 : Nat) (l0 : List Int) (a1 : Int) (r : Bool) (w : World) (hr0 : Kd.C (Kd.int .i64) w A0 l0.length l0) (hc0 : l0.length ≤ c0) (h : spec_l6Has.f k l0 a1 = some r) :
  Calls Try.prog 133 #[.slice A0 l0.length c0, .int .i64 a1] w fun e w' => e = .returned (.bool r) ∧ Drawn0 w w' := by
 have HR0 := Aside0.mk hr0
 have HC0 := Aside0.mk hc0
 clear hr0 hc0
 have H : (spec_l6Has.l0 k l0 a1 0) = some r := h
 clear h
 have H' := Aside0.mk H
 clear H
 go_enter Try.func133, Try.ntmps133
 go_wp2
 go_loopg [5] k (fun kq v5 w' => ∃ (x5_1 : Int), v5 = .int .i64 x5_1 ∧ Aside0 (spec_l6Has.l0 kq l0 a1 x5_1 = some r) ∧ Aside0 (kq ≤ k) ∧ Drawn0 w w')
 case atStart => exact ⟨(0), rS, H', ⟨Nat.le_refl _⟩, by repeat (first | exact Drawn0.refl _ | apply Drawn0.step)⟩
 case round =>
  clear H'
  obtain ⟨x5_1, rfl, HA, HK1, ⟨m1, rfl⟩⟩ := hrel
  cases gk with
  | zero => exact absurd HA.out (by simp [spec_l6Has.l0])
  | succ k1 =>
   have H := HA.out
   clear HA
   simp only [spec_l6Has.l0] at H
   by_cases c3 : x5_1 < (l0.length : Int)
   ·
    rw [if_pos c3] at H
    have c3b0 := decide_eq_true c3
    clear c3
    have c4 : 0 ≤ x5_1 := ifN H
    replace H := ifT H
    have c4b0 := decide_eq_true c4
    clear c4
    by_cases c5 : (rd l0 x5_1) = a1
    ·
     rw [if_pos c5] at H
     have c5b0 : ((rd l0 x5_1) == a1) = true := beq_iff_eq.mpr c5
     have c5b1 : ((rd l0 x5_1) != a1) = false := bne_eq_false_iff_eq.mpr c5
     clear c5
     obtain rfl := Option.some.inj H
     obtain ⟨p434, q434⟩ : 0 ≤ (x5_1 : Int) ∧ x5_1 < (l0.length : Int) := ⟨dA, dA⟩
     obtain ⟨ad434, e434, hx434_0⟩ := Kd.at_int HR0.out x5_1 p434 q434
     cases e434
     obtain ⟨p434, q434⟩ := eT p434 q434
     go_wp2
     go_ret
     exact ⟨rS, dD⟩
    rw [if_neg c5] at H
    have c5b0 : ((rd l0 x5_1) == a1) = false := beq_eq_false_iff_ne.mpr c5
    have c5b1 : ((rd l0 x5_1) != a1) = true := bne_iff_ne.mpr c5
    have H' := Aside0.mk H
    clear H
    obtain ⟨p434, q434⟩ : 0 ≤ (x5_1 : Int) ∧ x5_1 < (l0.length : Int) := ⟨dA, dA⟩
    obtain ⟨ad434, e434, hx434_0⟩ := Kd.at_int HR0.out x5_1 p434 q434
    cases e434
    obtain ⟨p434, q434⟩ := eT p434 q434
    go_wp2
    go_roundg k1
    case measure => have := HK1.out; omega
    case rel => exact ⟨(wrap64 (x5_1 + 1)), rS, H', ⟨by have := HK1.out; omega⟩, by repeat (first | exact Drawn0.refl _ | apply Drawn0.step)⟩
   rw [if_neg c3] at H
   have c3b0 := decide_eq_false c3
   clear c3
   obtain rfl := Option.some.inj H
   go_wp2
   go_ret
   exact ⟨rS, dD⟩

/-! ### spec_Covers: function 114 -/
mutual
def spec_Covers.l0 : Nat → List (S50) → List (List Int) → Int → Option (Bool)
 | 0, _, _, _ => none
 | k + 1, x0, x1, x5 => if x5 < (x1.length : Int) then (if 0 ≤ x5 then ((spec_IsTogether.f k x0 (rd_L4 x1 x5)).bind fun t436 => (if t436 = true then (spec_Covers.l0 k x0 x1 (wrap64 (x5 + 1))) else (some false))) else (none)) else (spec_Covers.l1 k x0 x1 0)
def spec_Covers.l1 : Nat → List (S50) → List (List Int) → Int → Option (Bool)
 | 0, _, _, _ => none
 | k + 1, x0, x1, x6 => if x6 < (x0.length : Int) then (spec_Covers.l2 k x0 x1 x6 false 0) else ((spec_ArePaths.f k x0).bind fun t437 => (some t437))
def spec_Covers.l2 : Nat → List (S50) → List (List Int) → Int → Bool → Int → Option (Bool)
 | 0, _, _, _, _, _ => none
 | k + 1, x0, x1, x6, x7, x8 => if x8 < (x1.length : Int) then (if x7 = true then (spec_Covers.l2 k x0 x1 x6 true (wrap64 (x8 + 1))) else (if 0 ≤ x8 then (if 0 ≤ x6 then (if x6 < (x0.length : Int) then ((spec_l6Has.f k (rd_L4 x1 x8) ((rd_T50 x0 x6).f0)).bind fun t440 => (spec_Covers.l2 k x0 x1 x6 t440 (wrap64 (x8 + 1)))) else (none)) else (none)) else (none))) else (if x7 = true then (spec_Covers.l1 k x0 x1 (wrap64 (x6 + 1))) else (some false))
end
def spec_Covers.f (k : Nat) (l0 : List (S50)) (l1 : List (List Int)) : Option (Bool) := spec_Covers.l0 k l0 l1 0
theorem spec_Covers.mono_l : ∀ k, (∀ y0 y1 y2, LeO (spec_Covers.l0 k y0 y1 y2) (spec_Covers.l0 (k + 1) y0 y1 y2)) ∧ (∀ y0 y1 y2, LeO (spec_Covers.l1 k y0 y1 y2) (spec_Covers.l1 (k + 1) y0 y1 y2)) ∧ (∀ y0 y1 y2 y3 y4, LeO (spec_Covers.l2 k y0 y1 y2 y3 y4) (spec_Covers.l2 (k + 1) y0 y1 y2 y3 y4))
 | 0 => ⟨fun _ _ _ r h => by simp [spec_Covers.l0] at h, fun _ _ _ r h => by simp [spec_Covers.l1] at h, fun _ _ _ _ _ r h => by simp [spec_Covers.l2] at h⟩
 | k + 1 => by
  obtain ⟨ih0, ih1, ih2⟩ := spec_Covers.mono_l k
  refine ⟨?_, ?_, ?_⟩
  ·
   intro y0 y1 y2
   unfold spec_Covers.l0
   exact mz6 ih0 ih1 ih2 spec_ArePaths.mono spec_IsTogether.mono spec_l6Has.mono
  ·
   intro y0 y1 y2
   unfold spec_Covers.l1
   exact mz6 ih0 ih1 ih2 spec_ArePaths.mono spec_IsTogether.mono spec_l6Has.mono
  ·
   intro y0 y1 y2 y3 y4
   unfold spec_Covers.l2
   exact mz6 ih0 ih1 ih2 spec_ArePaths.mono spec_IsTogether.mono spec_l6Has.mono
theorem spec_Covers.mono : ∀ a0 a1 k, LeO (spec_Covers.f k a0 a1) (spec_Covers.f (k + 1) a0 a1) := by
 intro a0 a1 k
 obtain ⟨ih0, ih1, ih2⟩ := spec_Covers.mono_l k
 unfold spec_Covers.f
 exact mz6 ih0 ih1 ih2 spec_ArePaths.mono spec_IsTogether.mono spec_l6Has.mono
set_option maxHeartbeats 8000000 in
set_option maxRecDepth 100000 in
theorem spec_Covers.calls (k : Nat) (A0 : Option Addr) (c0 : Nat) (l0 : List (S50)) (A1 : Option Addr) (c1 : Nat) (l1 : List (List Int)) (r : Bool) (w : World) (hr0 : Kd.C k50 w A0 l0.length l0) (hc0 : l0.length ≤ c0) (hr1 : Kd.C (Kd.slice 3 (Kd.int .i64)) w A1 l1.length l1) (hc1 : l1.length ≤ c1) (h : spec_Covers.f k l0 l1 = some r) :
  Calls Try.prog 114 #[.slice A0 l0.length c0, .slice A1 l1.length c1] w fun e w' => e = .returned (.bool r) ∧ Below w.heap.size w w' := by
 have HR0 := Aside0.mk hr0
 have HC0 := Aside0.mk hc0
 clear hr0 hc0
 have HR1 := Aside0.mk hr1
 have HC1 := Aside0.mk hc1
 clear hr1 hc1
 have HB := Aside0.mk (Below.refl w.heap.size w)
 have H : (spec_Covers.l0 k l0 l1 0) = some r := h
 clear h
 have H' := Aside0.mk H
 clear H
 go_enter Try.func114, Try.ntmps114
 go_wp2
 repeat (go_quiet (fail); try go_wp2)
 go_loopg [5] k (fun kq v5 w' => ∃ (x5_1 : Int), v5 = .int .i64 x5_1 ∧ Aside0 (spec_Covers.l0 kq l0 l1 x5_1 = some r) ∧ Aside0 (kq ≤ k) ∧ Aside0 (Below w.heap.size w w'))
 case atStart => exact ⟨(0), rS, H', ⟨Nat.le_refl _⟩, ⟨bA⟩⟩
 case round =>
  clear H'
  obtain ⟨x5_1, rfl, HA, HK1, HB⟩ := hrel
  cases gk with
  | zero => exact absurd HA.out (by simp [spec_Covers.l0])
  | succ k1 =>
   have H := HA.out
   clear HA
   simp only [spec_Covers.l0] at H
   by_cases c3 : x5_1 < (l1.length : Int)
   ·
    rw [if_pos c3] at H
    have c3b0 := decide_eq_true c3
    clear c3
    have c4 : 0 ≤ x5_1 := ifN H
    replace H := ifT H
    have c4b0 := decide_eq_true c4
    clear c4
    obtain ⟨t436, A5, H⟩ := bindE H
    try dsimp only at H
    by_cases c6 : t436 = true
    ·
     subst c6
     have H1 : (spec_Covers.l0 k1 l0 l1 (wrap64 (x5_1 + 1))) = some r := by rw [if_pos rfl] at H; exact H
     clear H
     have H := H1
     clear H1
     have H' := Aside0.mk H
     clear H
     obtain ⟨p435, q435⟩ : 0 ≤ (x5_1 : Int) ∧ x5_1 < (l1.length : Int) := ⟨dA, dA⟩
     obtain ⟨ad435, A435_0, c435_0, e435, hx435_0, hl435_0, hi435_0⟩ := at_L4 HR1.out x5_1 p435 q435
     cases e435
     replace hx435_0 := hC HB hx435_0
     have HR435_0 := Aside0.mk hi435_0
     have HC435_0 := Aside0.mk hl435_0
     clear hi435_0 hl435_0
     obtain ⟨p435, q435⟩ := eT p435 q435
     go_wp2_with (first | (go_at_call 112; (with_reducible refine (spec_IsTogether.calls k1 _ _ l0 _ _ (rd_L4 l1 x5_1) true _ ?_ ?_ ?_ ?_ A5.out).mono ?_); exact cB HR0; exact HC0.out; exact cB HR435_0; exact HC435_0.out; rintro e w7 ⟨rfl, hb⟩; replace HB := bs HB hb; (try clear hb)))
     repeat (go_quiet (first | (go_at_call 112; (with_reducible refine (spec_IsTogether.calls k1 _ _ l0 _ _ (rd_L4 l1 x5_1) true _ ?_ ?_ ?_ ?_ A5.out).mono ?_); exact cB HR0; exact HC0.out; exact cB HR435_0; exact HC435_0.out; rintro e w7 ⟨rfl, hb⟩; replace HB := bs HB hb; (try clear hb))); try go_wp2_with (first | (go_at_call 112; (with_reducible refine (spec_IsTogether.calls k1 _ _ l0 _ _ (rd_L4 l1 x5_1) true _ ?_ ?_ ?_ ?_ A5.out).mono ?_); exact cB HR0; exact HC0.out; exact cB HR435_0; exact HC435_0.out; rintro e w7 ⟨rfl, hb⟩; replace HB := bs HB hb; (try clear hb))))
     go_roundg k1
     case measure => have := HK1.out; omega
     case rel => exact ⟨(wrap64 (x5_1 + 1)), rS, H', ⟨by have := HK1.out; omega⟩, ⟨bA⟩⟩
    replace c6 := Bool.eq_false_iff.mpr c6
    subst c6
    have H1 : (some false) = some r := by rw [if_neg (show ¬ (false = true) by decide)] at H; exact H
    clear H
    have H := H1
    clear H1
    obtain rfl := Option.some.inj H
    obtain ⟨p435, q435⟩ : 0 ≤ (x5_1 : Int) ∧ x5_1 < (l1.length : Int) := ⟨dA, dA⟩
    obtain ⟨ad435, A435_0, c435_0, e435, hx435_0, hl435_0, hi435_0⟩ := at_L4 HR1.out x5_1 p435 q435
    cases e435
    replace hx435_0 := hC HB hx435_0
    have HR435_0 := Aside0.mk hi435_0
    have HC435_0 := Aside0.mk hl435_0
    clear hi435_0 hl435_0
    obtain ⟨p435, q435⟩ := eT p435 q435
    go_wp2_with (first | (go_at_call 112; (with_reducible refine (spec_IsTogether.calls k1 _ _ l0 _ _ (rd_L4 l1 x5_1) false _ ?_ ?_ ?_ ?_ A5.out).mono ?_); exact cB HR0; exact HC0.out; exact cB HR435_0; exact HC435_0.out; rintro e w8 ⟨rfl, hb⟩; replace HB := bs HB hb; (try clear hb)))
    repeat (go_quiet (first | (go_at_call 112; (with_reducible refine (spec_IsTogether.calls k1 _ _ l0 _ _ (rd_L4 l1 x5_1) false _ ?_ ?_ ?_ ?_ A5.out).mono ?_); exact cB HR0; exact HC0.out; exact cB HR435_0; exact HC435_0.out; rintro e w8 ⟨rfl, hb⟩; replace HB := bs HB hb; (try clear hb))); try go_wp2_with (first | (go_at_call 112; (with_reducible refine (spec_IsTogether.calls k1 _ _ l0 _ _ (rd_L4 l1 x5_1) false _ ?_ ?_ ?_ ?_ A5.out).mono ?_); exact cB HR0; exact HC0.out; exact cB HR435_0; exact HC435_0.out; rintro e w8 ⟨rfl, hb⟩; replace HB := bs HB hb; (try clear hb))))
    go_ret
    exact ⟨rA, bA⟩
   rw [if_neg c3] at H
   have c3b0 := decide_eq_false c3
   clear c3
   have H' := Aside0.mk H
   clear H
   go_wp2
   repeat (go_quiet (fail); try go_wp2)
   go_loopg [6] k1 (fun kq v6 w' => ∃ (x6_2 : Int), v6 = .int .i64 x6_2 ∧ Aside0 (spec_Covers.l1 kq l0 l1 x6_2 = some r) ∧ Aside0 (kq ≤ k1) ∧ Aside0 (Below w.heap.size w w'))
   case atStart => exact ⟨(0), rS, H', ⟨Nat.le_refl _⟩, ⟨bA⟩⟩
   case round =>
    clear H'
    obtain ⟨x6_2, rfl, HA, HK2, HB⟩ := hrel
    cases gk with
    | zero => exact absurd HA.out (by simp [spec_Covers.l1])
    | succ k2 =>
     have H := HA.out
     clear HA
     simp only [spec_Covers.l1] at H
     by_cases c9 : x6_2 < (l0.length : Int)
     ·
      rw [if_pos c9] at H
      have c9b0 := decide_eq_true c9
      clear c9
      have H' := Aside0.mk H
      clear H
      go_wp2
      repeat (go_quiet (fail); try go_wp2)
      go_loopg [7, 8] k2 (fun kq v7 v8 w' => ∃ (x7_3 : Bool) (x8_3 : Int), v7 = .bool x7_3 ∧ v8 = .int .i64 x8_3 ∧ Aside0 (spec_Covers.l2 kq l0 l1 x6_2 x7_3 x8_3 = some r) ∧ Aside0 (kq ≤ k2) ∧ Aside0 (Below w.heap.size w w'))
      case atStart => exact ⟨(false), (0), rS, rS, H', ⟨Nat.le_refl _⟩, ⟨bA⟩⟩
      case round =>
       clear H'
       obtain ⟨x7_3, x8_3, rfl, rfl, HA, HK3, HB⟩ := hrel
       cases gk with
       | zero => exact absurd HA.out (by simp [spec_Covers.l2])
       | succ k3 =>
        have H := HA.out
        clear HA
        simp only [spec_Covers.l2] at H
        by_cases c10 : x8_3 < (l1.length : Int)
        ·
         rw [if_pos c10] at H
         have c10b0 := decide_eq_true c10
         clear c10
         by_cases c11 : x7_3 = true
         ·
          subst c11
          have H1 : (spec_Covers.l2 k3 l0 l1 x6_2 true (wrap64 (x8_3 + 1))) = some r := by rw [if_pos rfl] at H; exact H
          clear H
          have H := H1
          clear H1
          have H' := Aside0.mk H
          clear H
          go_wp2
          repeat (go_quiet (fail); try go_wp2)
          go_roundg k3
          case measure => have := HK1.out; have := HK2.out; have := HK3.out; omega
          case rel => exact ⟨(true), (wrap64 (x8_3 + 1)), rS, rS, H', ⟨by have := HK1.out; have := HK2.out; have := HK3.out; omega⟩, ⟨bA⟩⟩
         replace c11 := Bool.eq_false_iff.mpr c11
         subst c11
         have H1 : (if 0 ≤ x8_3 then (if 0 ≤ x6_2 then (if x6_2 < (l0.length : Int) then ((spec_l6Has.f k3 (rd_L4 l1 x8_3) ((rd_T50 l0 x6_2).f0)).bind fun t440 => (spec_Covers.l2 k3 l0 l1 x6_2 t440 (wrap64 (x8_3 + 1)))) else (none)) else (none)) else (none)) = some r := by rw [if_neg (show ¬ (false = true) by decide)] at H; exact H
         clear H
         have H := H1
         clear H1
         have c12 : 0 ≤ x8_3 := ifN H
         replace H := ifT H
         have c12b0 := decide_eq_true c12
         clear c12
         have c13 : 0 ≤ x6_2 := ifN H
         replace H := ifT H
         have c13b0 := decide_eq_true c13
         clear c13
         have c14 : x6_2 < (l0.length : Int) := ifN H
         replace H := ifT H
         have c14b0 := decide_eq_true c14
         clear c14
         obtain ⟨t440, A15, H⟩ := bindE H
         try dsimp only at H
         have H' := Aside0.mk H
         clear H
         obtain ⟨p438, q438⟩ : 0 ≤ (x8_3 : Int) ∧ x8_3 < (l1.length : Int) := ⟨dA, dA⟩
         obtain ⟨ad438, A438_0, c438_0, e438, hx438_0, hl438_0, hi438_0⟩ := at_L4 HR1.out x8_3 p438 q438
         cases e438
         replace hx438_0 := hC HB hx438_0
         have HR438_0 := Aside0.mk hi438_0
         have HC438_0 := Aside0.mk hl438_0
         clear hi438_0 hl438_0
         obtain ⟨p438, q438⟩ := eT p438 q438
         obtain ⟨p439, q439⟩ : 0 ≤ (x6_2 : Int) ∧ x6_2 < (l0.length : Int) := ⟨dA, dA⟩
         obtain ⟨ad439, e439, hx439_0, hx439_1, hx439_2, hx439_3⟩ := at_T50 (Kd.C_below HR0.out HB.out) x6_2 p439 q439
         cases e439
         obtain ⟨p439, q439⟩ := eT p439 q439
         go_wp2_with (first | (go_at_call 133; (with_reducible refine (spec_l6Has.calls k3 _ _ (rd_L4 l1 x8_3) ((rd_T50 l0 x6_2).f0) t440 _ ?_ ?_ A15.out).mono ?_); exact cB HR438_0; exact HC438_0.out; rintro e w' ⟨rfl, ⟨nd, rfl⟩⟩; (try first | exact ⟨rfl, _, World.drewN_drewN _ _ _⟩ | exact ⟨rfl, _, Eq.trans (World.drewN_drewN _ _ _) (congrArg (World.drewN _) (Nat.add_assoc _ _ _))⟩)))
         repeat (go_quiet (first | (go_at_call 133; (with_reducible refine (spec_l6Has.calls k3 _ _ (rd_L4 l1 x8_3) ((rd_T50 l0 x6_2).f0) t440 _ ?_ ?_ A15.out).mono ?_); exact cB HR438_0; exact HC438_0.out; rintro e w' ⟨rfl, ⟨nd, rfl⟩⟩; (try first | exact ⟨rfl, _, World.drewN_drewN _ _ _⟩ | exact ⟨rfl, _, Eq.trans (World.drewN_drewN _ _ _) (congrArg (World.drewN _) (Nat.add_assoc _ _ _))⟩))); try go_wp2_with (first | (go_at_call 133; (with_reducible refine (spec_l6Has.calls k3 _ _ (rd_L4 l1 x8_3) ((rd_T50 l0 x6_2).f0) t440 _ ?_ ?_ A15.out).mono ?_); exact cB HR438_0; exact HC438_0.out; rintro e w' ⟨rfl, ⟨nd, rfl⟩⟩; (try first | exact ⟨rfl, _, World.drewN_drewN _ _ _⟩ | exact ⟨rfl, _, Eq.trans (World.drewN_drewN _ _ _) (congrArg (World.drewN _) (Nat.add_assoc _ _ _))⟩))))
         go_roundg k3
         case measure => have := HK1.out; have := HK2.out; have := HK3.out; omega
         case rel => exact ⟨(t440), (wrap64 (x8_3 + 1)), rS, rS, H', ⟨by have := HK1.out; have := HK2.out; have := HK3.out; omega⟩, ⟨bA⟩⟩
        rw [if_neg c10] at H
        have c10b0 := decide_eq_false c10
        clear c10
        by_cases c16 : x7_3 = true
        ·
         subst c16
         have H1 : (spec_Covers.l1 k3 l0 l1 (wrap64 (x6_2 + 1))) = some r := by rw [if_pos rfl] at H; exact H
         clear H
         have H := H1
         clear H1
         have H' := Aside0.mk H
         clear H
         go_wp2
         repeat (go_quiet (fail); try go_wp2)
         go_roundg k3
         case measure => have := HK1.out; have := HK2.out; have := HK3.out; omega
         case rel => exact ⟨(wrap64 (x6_2 + 1)), rS, H', ⟨by have := HK1.out; have := HK2.out; have := HK3.out; omega⟩, ⟨bA⟩⟩
        replace c16 := Bool.eq_false_iff.mpr c16
        subst c16
        have H1 : (some false) = some r := by rw [if_neg (show ¬ (false = true) by decide)] at H; exact H
        clear H
        have H := H1
        clear H1
        obtain rfl := Option.some.inj H
        go_wp2
        repeat (go_quiet (fail); try go_wp2)
        go_ret
        exact ⟨rA, bA⟩
     rw [if_neg c9] at H
     have c9b0 := decide_eq_false c9
     clear c9
     obtain ⟨t437, A17, H⟩ := bindE H
     try dsimp only at H
     obtain rfl := Option.some.inj H
     go_wp2_with (first | (go_at_call 33; (with_reducible refine (spec_ArePaths.calls k2 _ _ l0 t437 _ ?_ ?_ A17.out).mono ?_); exact cB HR0; exact HC0.out; rintro e w18 ⟨rfl, hb⟩; replace HB := bs HB hb; (try clear hb)))
     repeat (go_quiet (first | (go_at_call 33; (with_reducible refine (spec_ArePaths.calls k2 _ _ l0 t437 _ ?_ ?_ A17.out).mono ?_); exact cB HR0; exact HC0.out; rintro e w18 ⟨rfl, hb⟩; replace HB := bs HB hb; (try clear hb))); try go_wp2_with (first | (go_at_call 33; (with_reducible refine (spec_ArePaths.calls k2 _ _ l0 t437 _ ?_ ?_ A17.out).mono ?_); exact cB HR0; exact HC0.out; rintro e w18 ⟨rfl, hb⟩; replace HB := bs HB hb; (try clear hb))))
     go_ret
     exact ⟨rA, bA⟩

/-! ### spec_l8Stages: function 115 -/
def spec_l8Stages.l0 : Nat → List (S85) → List (List Int) → Int → Option ((List (List Int)))
 | 0, _, _, _ => none
 | k + 1, x0, x3, x4 => if x4 < (x0.length : Int) then (if 0 ≤ x4 then (if x3.length < 5864062014805 then (spec_l8Stages.l0 k x0 (x3 ++ [(rd_T85 x0 x4).f0]) (wrap64 (x4 + 1))) else (none)) else (none)) else (some x3)
def spec_l8Stages.f (k : Nat) (l0 : List (S85)) : Option ((List (List Int))) := spec_l8Stages.l0 k l0 (([] : List (List Int))) 0
theorem spec_l8Stages.mono_l : ∀ k, (∀ y0 y1 y2, LeO (spec_l8Stages.l0 k y0 y1 y2) (spec_l8Stages.l0 (k + 1) y0 y1 y2))
 | 0 => fun _ _ _ r h => by simp [spec_l8Stages.l0] at h
 | k + 1 => by
  have ih0 := spec_l8Stages.mono_l k
  ·
   intro y0 y1 y2
   unfold spec_l8Stages.l0
   exact mz1 ih0
theorem spec_l8Stages.mono : ∀ a0 k, LeO (spec_l8Stages.f k a0) (spec_l8Stages.f (k + 1) a0) := by
 intro a0 k
 have ih0 := spec_l8Stages.mono_l k
 unfold spec_l8Stages.f
 exact mz1 ih0
set_option maxHeartbeats 8000000 in
set_option maxRecDepth 100000 in
theorem spec_l8Stages.calls (k : Nat) (P0_ : Nat → Prop) (A0 : Option Addr) (c0 : Nat) (l0 : List (S85)) (r : List (List Int)) (w : World) (hs0 : Kd.V k85 85 w w.heap.size (fun k_ => P0_ k_) (.slice A0 l0.length c0) l0) (h : spec_l8Stages.f k l0 = some r) :
  Calls Try.prog 115 #[.slice A0 l0.length c0] w fun e w' => ∃ v0_ : Value, e = .returned (v0_) ∧ Kd.N (Kd.slice 3 (Kd.int .i64)) 35 w' w.heap.size (fun k_ => (P0_ k_ ∨ w.heap.size ≤ k_)) v0_ r ∧ Below w.heap.size w w' := by
 have HO0 := Aside0.mk (show Kd.V k85 85 w w.heap.size (fun k_ => (P0_ k_ ∨ w.heap.size ≤ k_)) (.slice A0 l0.length c0) l0 from Kd.V_mono hs0 (fun k_ hk => .inl hk))
 have HB := Aside0.mk (Below.refl w.heap.size w)
 have H : (spec_l8Stages.l0 k l0 (([] : List (List Int))) 0) = some r := h
 clear h
 obtain ⟨y441, hy441⟩ : ∃ y_ : List (List Int), y_ = (([] : List (List Int))) := ⟨_, rfl⟩
 replace H : (spec_l8Stages.l0 k l0 y441 0) = some r := rH H hy441
 have Ny441 := Aside0.mk hy441
 clear hy441
 have H' := Aside0.mk H
 clear H
 go_enter Try.func115, Try.ntmps115
 go_wp2_with (first | ((with_reducible refine gate_dst (N := 5) rfl ?_); refine Kd.N_lit (Kd.slice 3 (Kd.int .i64)) _ 35 ?hg (N' := 5) ?hd (xs := ([] : List (List Int))) (inner := []) (ok := (fun k_ => (P0_ k_ ∨ w.heap.size ≤ k_))) (okp := (fun k_ => (P0_ k_ ∨ w.heap.size ≤ k_))) ?hr ?hp (fun _ hk => hk) ((show ∀ k_, w.heap.size ≤ k_ → (fun k_ => (P0_ k_ ∨ w.heap.size ≤ k_)) k_ from fun k_ hk => (.inr (Nat.le_trans (below_size bA) hk))) _ (Nat.le_refl _)) (Below.refl _ _) (Nat.le_refl _) (by simp) ?_; (case hd => rfl); (case hg => rfl); (case hr => first | (go_simp; done) | (go_simp; rfl)); (case hp => exact (Reps.none _ _)); intro v442 w2 ho3 hb hg_ hnew_; clear hg_ hnew_; (first | rw [← Ny441.out] at ho3 | (simp only [Int.reduceToNat] at ho3; rw [← Ny441.out] at ho3)); have n0_ := Aside0.mk (Kd.V_elder' (by (with_reducible repeat (first | apply Kd.V_alloc | apply Kd.V_drewN | apply Kd.V_drew)); exact HO0.out) (by first | exact Kd.N_base ho3 | exact Kd.N_base (Kd.S_N ho3)) hb); have n1_ := Aside0.mk (Kd.N_lower ho3 (below_size bA)); have n2_ := bs HB hb; clear HO0; clear HB; have HO0 := n0_; have HO443 := n1_; have HB := n2_; clear n0_ n1_ n2_; clear hb ho3))
 go_loopg [3, 4] k (fun kq v3 v4 w' => ∃ (x3_1 : List (List Int)) (x4_1 : Int), v4 = .int .i64 x4_1 ∧ Aside0 (spec_l8Stages.l0 kq l0 x3_1 x4_1 = some r) ∧ Aside0 (kq ≤ k) ∧ Aside0 (Kd.V k85 85 w' w.heap.size (fun k_ => (P0_ k_ ∨ w.heap.size ≤ k_) ∧ some k_ ≠ (v3 : Value).ownBlock) (.slice A0 l0.length c0) l0) ∧ Aside0 (Kd.N (Kd.slice 3 (Kd.int .i64)) 35 w' w.heap.size (fun k_ => (P0_ k_ ∨ w.heap.size ≤ k_)) v3 x3_1) ∧ Aside0 (Below w.heap.size w w'))
 case atStart => exact ⟨(y441), (0), rS, H', ⟨Nat.le_refl _⟩, ⟨by (with_reducible repeat (first | apply Kd.V_alloc | apply Kd.V_drewN | apply Kd.V_drew)); exact HO0.out⟩, ⟨by (with_reducible repeat (first | apply Kd.N_alloc | apply Kd.N_drewN | apply Kd.N_drew)); exact HO443.out⟩, ⟨bA⟩⟩
 case round =>
  clear H'
  obtain ⟨x3_1, x4_1, rfl, HA, HK1, HO_0, HO_3, HB⟩ := hrel
  cases gk with
  | zero => exact absurd HA.out (by simp [spec_l8Stages.l0])
  | succ k1 =>
   have H := HA.out
   clear HA
   simp only [spec_l8Stages.l0] at H
   by_cases c4 : x4_1 < (l0.length : Int)
   ·
    rw [if_pos c4] at H
    have c4b0 := decide_eq_true c4
    clear c4
    have c5 : 0 ≤ x4_1 := ifN H
    replace H := ifT H
    have c5b0 := decide_eq_true c5
    clear c5
    have c6 : x3_1.length < 5864062014805 := ifN H
    replace H := ifT H
    have LMc6 := Aside0.mk c6
    clear c6
    obtain ⟨y445, hy445⟩ : ∃ y_ : List (List Int), y_ = (x3_1 ++ [(rd_T85 l0 x4_1).f0]) := ⟨_, rfl⟩
    replace H : (spec_l8Stages.l0 k1 l0 y445 (wrap64 (x4_1 + 1))) = some r := rH H hy445
    have Ny445 := Aside0.mk hy445
    clear hy445
    have H' := Aside0.mk H
    clear H
    obtain ⟨p444, q444⟩ : 0 ≤ (x4_1 : Int) ∧ x4_1 < (l0.length : Int) := ⟨dA, dA⟩
    obtain ⟨ad444, A444_0, c444_0, e444, hx444_0, hx444_1, hl444_0, hi444_0⟩ := at_T85 (Kd.V_reads' HO_0.out).2.2 x4_1 p444 q444
    cases e444
    obtain ⟨ce444, hce444, hMe444, hcc444⟩ := Kd.V_get HO_0.out z85 x4_1 p444 (by first | exact q444 | exact dA | (have e_ := (Kd.V_reads' HO_0.out).1; omega))
    obtain ⟨ua444_0, uc444_0, rfl, ul444_0, ge444_0⟩ := k85_openF hMe444
    have hv444_0 := hcc444 0 _ rfl
    rw [Nat.add_zero] at hv444_0
    replace hv444_0 := Option.some.inj (hv444_0.symm.trans hx444_0)
    injection hv444_0 with hva_ hvn_ hvc_
    rw [hva_] at ge444_0
    rw [hvc_] at ul444_0
    have HL444_0 := Aside0.mk (show Kd.V (Kd.int .i64) 3 _ w.heap.size _ _ ((rd_T85 l0 x4_1).f0) from Kd.V_mk ul444_0 ge444_0)
    clear hva_ hvn_ hvc_ ge444_0 ul444_0
    clear hcc444 hce444
    have HR444_0 := Aside0.mk hi444_0
    have HC444_0 := Aside0.mk hl444_0
    clear hi444_0 hl444_0
    obtain ⟨p444, q444⟩ := eT p444 q444
    go_wp2_with (first | ((with_reducible refine gate_builtin (b := .append) (xs := #[.tmp 12, .tmp 18]) rfl ?_); at_builtin; refine Kd.N_append (Kd.slice 3 (Kd.int .i64)) (w0 := w) w.heap.size rfl (.tmp 12) (.tmp 18) 103 35 (.slice none 0 0) 24 rfl Try.underlying103 info35 rfl (by decide) (by omega) u3 x3_1 ((rd_T85 l0 x4_1).f0) [.slice A444_0 ((rd_T85 l0 x4_1).f0).length c444_0] (fun k_ => (P0_ k_ ∨ w.heap.size ≤ k_)) (fun k_ => ((fun k_ => (P0_ k_ ∨ w.heap.size ≤ k_))) k_ ∧ some k_ ≠ (u3 : Value).ownBlock) rfl rfl ?aP (fun _ hk => hk) ?aF ?aO ?aB ?aS ?aL ?_; (case aP => exact (Kd.FK_slice_mk (Kd.V_reads' (Kd.V_mono (ok' := (fun k_ => ((fun k_ => (P0_ k_ ∨ w.heap.size ≤ k_))) k_ ∧ some k_ ≠ (u3 : Value).ownBlock)) (HL444_0.out) (fun k_ hk => ⟨hk.1, hk.2⟩))).2.1 (Kd.V_F (Kd.V_mono (ok' := (fun k_ => ((fun k_ => (P0_ k_ ∨ w.heap.size ≤ k_))) k_ ∧ some k_ ≠ (u3 : Value).ownBlock)) (HL444_0.out) (fun k_ hk => ⟨hk.1, hk.2⟩))))); (case aB => exact bA); (case aF => exact (fun k_ hk => (.inr (Nat.le_trans (below_size bA) hk)))); (case aO => exact (by (with_reducible repeat (first | apply Kd.N_alloc | apply Kd.N_drewN | apply Kd.N_drew)); exact HO_3.out)); (case aS => exact (below_size bA)); (case aL => have := LMc6.out; omega); intro v446 w7 ho hb hg hat; rw [← Ny445.out] at ho; have n0_ := Aside0.mk (Kd.V_afterv (ok := (fun k_ => (P0_ k_ ∨ w.heap.size ≤ k_))) (by (with_reducible repeat (first | apply Kd.V_alloc | apply Kd.V_drewN | apply Kd.V_drew)); exact HO_0.out) hg hat); have n1_ := Aside0.mk (Kd.V_afterv (ok := (fun k_ => (P0_ k_ ∨ w.heap.size ≤ k_))) (by (with_reducible repeat (first | apply Kd.V_alloc | apply Kd.V_drewN | apply Kd.V_drew)); exact HL444_0.out) hg hat); have n2_ := Aside0.mk (hb); have n3_ := Aside0.mk (ho); clear HO_0; clear HL444_0; clear HB; clear HO_3; have HO_0 := n0_; have HL444_0 := n1_; have HB := n2_; have HO447 := n3_; clear n0_ n1_ n2_ n3_; clear ho hb hg hat))
    go_roundg k1
    case measure => have := HK1.out; omega
    case rel => exact ⟨(y445), (wrap64 (x4_1 + 1)), rS, H', ⟨by have := HK1.out; omega⟩, ⟨by (with_reducible repeat (first | apply Kd.V_alloc | apply Kd.V_drewN | apply Kd.V_drew)); exact HO_0.out⟩, ⟨by (with_reducible repeat (first | apply Kd.N_alloc | apply Kd.N_drewN | apply Kd.N_drew)); exact HO447.out⟩, ⟨bA⟩⟩
   rw [if_neg c4] at H
   have c4b0 := decide_eq_false c4
   clear c4
   obtain rfl := Option.some.inj H
   go_wp2
   go_ret
   exact ⟨_, rA, by (with_reducible repeat (first | apply Kd.N_alloc | apply Kd.N_drewN | apply Kd.N_drew)); exact HO_3.out, bA⟩

/-! ### spec_IsPlan: function 61 -/
def spec_IsPlan.l0 : Nat → List (S50) → List (S85) → Int → Option (Bool)
 | 0, _, _, _ => none
 | k + 1, x0, x1, x5 => if x5 < (x1.length : Int) then (if 0 ≤ x5 then (if (((rd_T85 x1 x5).f0).length : Int) = 0 then (some false) else ((spec_IsTogether.f k x0 ((rd_T85 x1 x5).f0)).bind fun t455 => (if t455 = true then ((spec_LeastGreen.f k x0 ((rd_T85 x1 x5).f0)).bind fun t458 => ((spec_l1In.f ((rd_T85 x1 x5).f1) t458 60).bind fun t459 => (if t459 = true then (spec_IsPlan.l0 k x0 x1 (wrap64 (x5 + 1))) else (some false)))) else (some false)))) else (none)) else ((spec_l8Stages.f k x1).bind fun t449 => ((spec_Covers.f k x0 t449).bind fun t452 => (some t452)))
def spec_IsPlan.f (k : Nat) (l0 : List (S50)) (l1 : List (S85)) : Option (Bool) := (spec_l1In.f (l1.length : Int) 1 6).bind fun t448 => (if t448 = true then (spec_IsPlan.l0 k l0 l1 0) else (some false))
theorem spec_IsPlan.mono_l : ∀ k, (∀ y0 y1 y2, LeO (spec_IsPlan.l0 k y0 y1 y2) (spec_IsPlan.l0 (k + 1) y0 y1 y2))
 | 0 => fun _ _ _ r h => by simp [spec_IsPlan.l0] at h
 | k + 1 => by
  have ih0 := spec_IsPlan.mono_l k
  ·
   intro y0 y1 y2
   unfold spec_IsPlan.l0
   exact mz5 ih0 spec_Covers.mono spec_IsTogether.mono spec_LeastGreen.mono spec_l8Stages.mono
theorem spec_IsPlan.mono : ∀ a0 a1 k, LeO (spec_IsPlan.f k a0 a1) (spec_IsPlan.f (k + 1) a0 a1) := by
 intro a0 a1 k
 have ih0 := spec_IsPlan.mono_l k
 unfold spec_IsPlan.f
 exact mz5 ih0 spec_Covers.mono spec_IsTogether.mono spec_LeastGreen.mono spec_l8Stages.mono
def spec_IsPlan.T6 : Bool × List (List Nat × List Nat) := (true, [([], []), ([], []), ([0, 1], [0, 1]), ([2], [2]), ([3], [3]), ([4], [4]), ([5], [5]), ([6], [6]), ([7], [7]), ([7], [7]), ([7], [7]), ([9, 10, 7], [7, 9, 10]), ([11, 7], [7, 11]), ([12, 7], [7, 12]), ([8, 13, 7, 7], [7, 8, 13]), ([14, 7], [7, 14]), ([7, 15], [7, 15]), ([16, 14], [16]), ([17], [17]), ([17], [17]), ([18, 19, 17], [17, 18, 19]), ([20, 17], [17, 20]), ([21, 17], [17, 21]), ([17], [17]), ([17], [17]), ([17], [17]), ([24, 25, 17], [17, 24, 25]), ([26, 17], [17, 26]), ([27, 17], [17, 27]), ([23, 28, 17, 17], [17, 23, 28]), ([22, 29, 29, 17], [17, 22, 29]), ([30, 17], [17, 30]), ([17, 31], [17, 31])])
def spec_IsPlan.B6 : List Nat := [0, 0, 3, 7, 15, 31, 63, 127, 255, 255, 255, 1791, 3839, 7935, 16383, 32767, 65535, 131071, 262143, 262143, 1048575, 2097151, 4194303, 262143, 262143, 262143, 50593791, 117702655, 251920383, 528744447, 1073741823, 2147483647, 4294967295]
theorem spec_IsPlan.tab6 : rtab .any (opsOf Try.f61 6) = spec_IsPlan.T6 := by kernel_rfl
theorem spec_IsPlan.bits6 : waitsOk spec_IsPlan.T6.2 spec_IsPlan.B6 = true := by kernel_rfl
set_option maxHeartbeats 8000000 in
set_option maxRecDepth 100000 in
theorem spec_IsPlan.calls (k : Nat) (A0 : Option Addr) (c0 : Nat) (l0 : List (S50)) (A1 : Option Addr) (c1 : Nat) (l1 : List (S85)) (r : Bool) (w : World) (hr0 : Kd.C k50 w A0 l0.length l0) (hc0 : l0.length ≤ c0) (hr1 : Kd.C k85 w A1 l1.length l1) (hc1 : l1.length ≤ c1) (h : spec_IsPlan.f k l0 l1 = some r) :
  Calls Try.prog 61 #[.slice A0 l0.length c0, .slice A1 l1.length c1] w fun e w' => e = .returned (.bool r) ∧ Below w.heap.size w w' := by
 have HR0 := Aside0.mk hr0
 have HC0 := Aside0.mk hc0
 clear hr0 hc0
 have HR1 := Aside0.mk hr1
 have HC1 := Aside0.mk hc1
 clear hr1 hc1
 have HB := Aside0.mk (Below.refl w.heap.size w)
 have H : ((spec_l1In.f (l1.length : Int) 1 6).bind fun t448 => (if t448 = true then (spec_IsPlan.l0 k l0 l1 0) else (some false))) = some r := h
 clear h
 obtain ⟨t448, A3, H⟩ := bindE H
 try dsimp only at H
 by_cases c4 : t448 = true
 ·
  subst c4
  have H1 : (spec_IsPlan.l0 k l0 l1 0) = some r := by rw [if_pos rfl] at H; exact H
  clear H
  have H := H1
  clear H1
  have H' := Aside0.mk H
  clear H
  go_enter Try.func61, Try.ntmps61
  go_wp2_with (first | ((with_reducible refine gate_callee (f := 111) rfl ?_); refine gL (some 8) Try.func111 #[.int .i64 (l1.length : Int), .int .i64 1, .int .i64 6] ?_; (with_reducible refine (spec_l1In.calls (l1.length : Int) 1 6 true _ A3.out).mono ?_); rintro e w' ⟨rfl, ⟨nd, rfl⟩⟩; refine ⟨_, rfl, ?_⟩))
  go_loopg [5] k (fun kq v5 w' => ∃ (x5_1 : Int), v5 = .int .i64 x5_1 ∧ Aside0 (spec_IsPlan.l0 kq l0 l1 x5_1 = some r) ∧ Aside0 (kq ≤ k) ∧ Aside0 (Below w.heap.size w w'))
  case atStart => exact ⟨(0), rS, H', ⟨Nat.le_refl _⟩, ⟨bA⟩⟩
  case round =>
   clear H'
   obtain ⟨x5_1, rfl, HA, HK1, HB⟩ := hrel
   cases gk with
   | zero => exact absurd HA.out (by simp [spec_IsPlan.l0])
   | succ k1 =>
    have H := HA.out
    clear HA
    simp only [spec_IsPlan.l0] at H
    by_cases c5 : x5_1 < (l1.length : Int)
    ·
     rw [if_pos c5] at H
     have c5b0 := decide_eq_true c5
     clear c5
     have c6 : 0 ≤ x5_1 := ifN H
     replace H := ifT H
     have c6b0 := decide_eq_true c6
     clear c6
     by_cases c7 : (((rd_T85 l1 x5_1).f0).length : Int) = 0
     ·
      rw [if_pos c7] at H
      have c7b0 : ((((rd_T85 l1 x5_1).f0).length : Int) == 0) = true := beq_iff_eq.mpr c7
      have c7b1 : ((((rd_T85 l1 x5_1).f0).length : Int) != 0) = false := bne_eq_false_iff_eq.mpr c7
      clear c7
      obtain rfl := Option.some.inj H
      try go_wp2
      have HBo := HB
      replace HB := db HB
      obtain ⟨p453, q453⟩ : 0 ≤ (x5_1 : Int) ∧ x5_1 < (l1.length : Int) := ⟨dA, dA⟩
      obtain ⟨ad453, A453_0, c453_0, e453, hx453_0, hx453_1, hl453_0, hi453_0⟩ := at_T85 HR1.out x5_1 p453 q453
      have hw453_1 := hx453_1
      have hw453_0 := hx453_0
      cases e453
      replace hx453_0 := hC HB hx453_0
      replace hx453_1 := hC HB hx453_1
      have HR453_0 := Aside0.mk hi453_0
      have HC453_0 := Aside0.mk hl453_0
      clear hi453_0 hl453_0
      obtain ⟨p453, q453⟩ := eT p453 q453
      refine start_ (n := 33) (S := fun w' => w'.cell? (ad453.add ((x5_1).toNat * 2)) = some (.slice A453_0 ((rd_T85 l1 x5_1).f0).length c453_0) ∧ w'.cell? ⟨(ad453.add ((x5_1).toNat * 2)).block, (ad453.add ((x5_1).toNat * 2)).off + 1, none⟩ = some (.int .i64 ((rd_T85 l1 x5_1).f1))) (ds := []) (mb 33 0) (by kernel_rfl) rfl rfl ⟨(hC HB hw453_0), (hC HB hw453_1)⟩ (fun hHeld => ?_); refine with_tabW spec_IsPlan.tab6 spec_IsPlan.bits6 (fun HT_ HW_ => ?_)
      generalize wr.drew = w8 at HB HR453_0 hx453_0 hx453_1 hHeld ⊢
      refine pa 0 16 (mb 33 1) HT_ ?_
      refine pa 1 17 (mb 33 3) HT_ ?_
      refine pa 2 18 (mb 33 7) HT_ ?_
      refine pa 3 19 (mb 33 15) HT_ ?_
      refine ta2 4 20 (mb 33 31) HT_ HW_ hHeld ?_
      refine pa 5 21 (mb 33 63) HT_ ?_
      refine pa 6 22 (mb 33 127) HT_ ?_
      refine pa 7 23 (mb 33 255) HT_ ?_
      refine pu 8 24 (mb 33 511) HT_ ?_
      refine pu 9 25 (mb 33 1023) HT_ ?_
      refine pu 10 26 (mb 33 2047) HT_ ?_
      refine pu 11 27 (mb 33 4095) HT_ ?_
      refine pu 12 28 (mb 33 8191) HT_ ?_
      refine pu 13 29 (mb 33 16383) HT_ ?_
      refine pu 14 30 (mb 33 32767) HT_ ?_
      refine pu 15 31 (mb 33 65535) HT_ ?_
      refine pa 16 32 (mb 33 131071) HT_ ?_
      refine pa 17 33 (mb 33 262143) HT_ ?_
      refine pu 18 34 (mb 33 524287) HT_ ?_
      refine pu 19 35 (mb 33 1048575) HT_ ?_
      refine pu 20 36 (mb 33 2097151) HT_ ?_
      refine pu 21 37 (mb 33 4194303) HT_ ?_
      refine pu 22 38 (mb 33 8388607) HT_ ?_
      refine pu 23 39 (mb 33 16777215) HT_ ?_
      refine pu 24 40 (mb 33 33554431) HT_ ?_
      refine pu 25 41 (mb 33 67108863) HT_ ?_
      refine pu 26 42 (mb 33 134217727) HT_ ?_
      refine pu 27 43 (mb 33 268435455) HT_ ?_
      refine pu 28 44 (mb 33 536870911) HT_ ?_
      refine pu 29 45 (mb 33 1073741823) HT_ ?_
      refine pu 30 46 (mb 33 2147483647) HT_ ?_
      refine pu 31 47 (mb 33 4294967295) HT_ ?_
      refine pa 32 48 (mb 33 8589934591) HT_ ?_
      refine eA HT_ ?_
      try go_wp2
      go_ret
      exact ⟨rA, bA⟩
     rw [if_neg c7] at H
     have c7b0 : ((((rd_T85 l1 x5_1).f0).length : Int) == 0) = false := beq_eq_false_iff_ne.mpr c7
     have c7b1 : ((((rd_T85 l1 x5_1).f0).length : Int) != 0) = true := bne_iff_ne.mpr c7
     have c7b2 : ¬ (((rd_T85 l1 x5_1).f0) = []) := fun h_ => c7 (by rw [h_]; rfl)
     obtain ⟨t455, A9, H⟩ := bindE H
     try dsimp only at H
     by_cases c10 : t455 = true
     ·
      subst c10
      have H1 : ((spec_LeastGreen.f k1 l0 ((rd_T85 l1 x5_1).f0)).bind fun t458 => ((spec_l1In.f ((rd_T85 l1 x5_1).f1) t458 60).bind fun t459 => (if t459 = true then (spec_IsPlan.l0 k1 l0 l1 (wrap64 (x5_1 + 1))) else (some false)))) = some r := by rw [if_pos rfl] at H; exact H
      clear H
      have H := H1
      clear H1
      obtain ⟨t458, A11, H⟩ := bindE H
      try dsimp only at H
      obtain ⟨t459, A12, H⟩ := bindE H
      try dsimp only at H
      by_cases c13 : t459 = true
      ·
       subst c13
       have H1 : (spec_IsPlan.l0 k1 l0 l1 (wrap64 (x5_1 + 1))) = some r := by rw [if_pos rfl] at H; exact H
       clear H
       have H := H1
       clear H1
       have H' := Aside0.mk H
       clear H
       try go_wp2
       have HBo := HB
       replace HB := db HB
       obtain ⟨p453, q453⟩ : 0 ≤ (x5_1 : Int) ∧ x5_1 < (l1.length : Int) := ⟨dA, dA⟩
       obtain ⟨ad453, A453_0, c453_0, e453, hx453_0, hx453_1, hl453_0, hi453_0⟩ := at_T85 HR1.out x5_1 p453 q453
       have hw453_1 := hx453_1
       have hw453_0 := hx453_0
       cases e453
       replace hx453_0 := hC HB hx453_0
       replace hx453_1 := hC HB hx453_1
       have HR453_0 := Aside0.mk hi453_0
       have HC453_0 := Aside0.mk hl453_0
       clear hi453_0 hl453_0
       obtain ⟨p453, q453⟩ := eT p453 q453
       obtain ⟨p454, q454⟩ : 0 ≤ (x5_1 : Int) ∧ x5_1 < (l1.length : Int) := ⟨dA, dA⟩
       obtain ⟨ad454, A454_0, c454_0, e454, hx454_0, hx454_1, hl454_0, hi454_0⟩ := at_T85 HR1.out x5_1 p454 q454
       have hw454_1 := hx454_1
       have hw454_0 := hx454_0
       obtain rfl : ad453 = ad454 := (by injection e454)
       replace hx454_0 := hC HB hx454_0
       replace hx454_1 := hC HB hx454_1
       have HR454_0 := Aside0.mk hi454_0
       have HC454_0 := Aside0.mk hl454_0
       clear hi454_0 hl454_0
       obtain ⟨p454, q454⟩ := eT p454 q454
       have ea_ := Option.some.inj (hx453_0.symm.trans hx454_0)
       injection ea_ with ea_ en_ ec_
       subst ea_
       subst ec_
       clear en_
       obtain ⟨p456, q456⟩ : 0 ≤ (x5_1 : Int) ∧ x5_1 < (l1.length : Int) := ⟨dA, dA⟩
       obtain ⟨ad456, A456_0, c456_0, e456, hx456_0, hx456_1, hl456_0, hi456_0⟩ := at_T85 HR1.out x5_1 p456 q456
       have hw456_1 := hx456_1
       have hw456_0 := hx456_0
       obtain rfl : ad453 = ad456 := (by injection e456)
       replace hx456_0 := hC HB hx456_0
       replace hx456_1 := hC HB hx456_1
       have HR456_0 := Aside0.mk hi456_0
       have HC456_0 := Aside0.mk hl456_0
       clear hi456_0 hl456_0
       obtain ⟨p456, q456⟩ := eT p456 q456
       first | have ea_ := Option.some.inj (hw453_0.symm.trans hw456_0) | have ea_ := Option.some.inj (hx453_0.symm.trans hx456_0)
       injection ea_ with ea_ en_ ec_
       subst ea_
       subst ec_
       clear en_
       obtain ⟨p457, q457⟩ : 0 ≤ (x5_1 : Int) ∧ x5_1 < (l1.length : Int) := ⟨dA, dA⟩
       obtain ⟨ad457, A457_0, c457_0, e457, hx457_0, hx457_1, hl457_0, hi457_0⟩ := at_T85 HR1.out x5_1 p457 q457
       have hw457_1 := hx457_1
       have hw457_0 := hx457_0
       obtain rfl : ad453 = ad457 := (by injection e457)
       replace hx457_0 := hC HB hx457_0
       replace hx457_1 := hC HB hx457_1
       have HR457_0 := Aside0.mk hi457_0
       have HC457_0 := Aside0.mk hl457_0
       clear hi457_0 hl457_0
       obtain ⟨p457, q457⟩ := eT p457 q457
       first | have ea_ := Option.some.inj (hw453_0.symm.trans hw457_0) | have ea_ := Option.some.inj (hx453_0.symm.trans hx457_0)
       injection ea_ with ea_ en_ ec_
       subst ea_
       subst ec_
       clear en_
       refine start_ (n := 33) (S := fun w' => w'.cell? (ad453.add ((x5_1).toNat * 2)) = some (.slice A453_0 ((rd_T85 l1 x5_1).f0).length c453_0) ∧ w'.cell? ⟨(ad453.add ((x5_1).toNat * 2)).block, (ad453.add ((x5_1).toNat * 2)).off + 1, none⟩ = some (.int .i64 ((rd_T85 l1 x5_1).f1)) ∧ w'.cell? (ad453.add ((x5_1).toNat * 2)) = some (.slice A453_0 ((rd_T85 l1 x5_1).f0).length c453_0) ∧ w'.cell? ⟨(ad453.add ((x5_1).toNat * 2)).block, (ad453.add ((x5_1).toNat * 2)).off + 1, none⟩ = some (.int .i64 ((rd_T85 l1 x5_1).f1)) ∧ w'.cell? (ad453.add ((x5_1).toNat * 2)) = some (.slice A453_0 ((rd_T85 l1 x5_1).f0).length c453_0) ∧ w'.cell? ⟨(ad453.add ((x5_1).toNat * 2)).block, (ad453.add ((x5_1).toNat * 2)).off + 1, none⟩ = some (.int .i64 ((rd_T85 l1 x5_1).f1)) ∧ w'.cell? (ad453.add ((x5_1).toNat * 2)) = some (.slice A453_0 ((rd_T85 l1 x5_1).f0).length c453_0) ∧ w'.cell? ⟨(ad453.add ((x5_1).toNat * 2)).block, (ad453.add ((x5_1).toNat * 2)).off + 1, none⟩ = some (.int .i64 ((rd_T85 l1 x5_1).f1))) (ds := []) (mb 33 0) (by kernel_rfl) rfl rfl ⟨(hC HB hw453_0), (hC HB hw453_1), (hC HB hw454_0), (hC HB hw454_1), (hC HB hw456_0), (hC HB hw456_1), (hC HB hw457_0), (hC HB hw457_1)⟩ (fun hHeld => ?_); refine with_tabW spec_IsPlan.tab6 spec_IsPlan.bits6 (fun HT_ HW_ => ?_)
       generalize wr.drew = w14 at HB HR453_0 HR454_0 HR456_0 HR457_0 hx453_0 hx453_1 hx454_0 hx454_1 hx456_0 hx456_1 hx457_0 hx457_1 hHeld ⊢
       refine pa 0 16 (mb 33 1) HT_ ?_
       refine pa 1 17 (mb 33 3) HT_ ?_
       refine pa 2 18 (mb 33 7) HT_ ?_
       refine pa 3 19 (mb 33 15) HT_ ?_
       refine ta8 4 20 (mb 33 31) HT_ HW_ hHeld ?_
       refine pa 5 21 (mb 33 63) HT_ ?_
       refine pa 6 22 (mb 33 127) HT_ ?_
       refine pa 7 23 (mb 33 255) HT_ ?_
       refine pa 8 24 (mb 33 511) HT_ ?_
       refine pa 9 25 (mb 33 1023) HT_ ?_
       refine pa 10 26 (mb 33 2047) HT_ ?_
       refine pa 11 27 (mb 33 4095) HT_ ?_
       refine pa 12 28 (mb 33 8191) HT_ ?_
       refine ta8 13 29 (mb 33 16383) HT_ HW_ hHeld ?_
       refine oa 14 30 (mb 33 32767) HT_ (fun K hK => ?_)
       refine gA Try.func112 #[.slice A0 l0.length c0, .slice A453_0 ((rd_T85 l1 x5_1).f0).length c453_0] ?_
       with_reducible refine (spec_IsTogether.calls k1 _ _ l0 _ _ ((rd_T85 l1 x5_1).f0) true _ ?side1 ?side2 ?side3 ?side4 A9.out).mono ?_
       (case side1 => exact cB HR0)
       (case side2 => exact HC0.out)
       (case side3 => exact cB HR454_0)
       (case side4 => exact HC454_0.out)
       rintro e w15 ⟨rfl, hb⟩
       refine ⟨_, rfl, ?_⟩
       replace HB := bs HB hb
       (try clear hb)
       (try clear hb2)
       (try clear hk)
       (try clear hi)
       refine hK.out _ _ ⟨(hC HB hw453_0), (hC HB hw453_1), (hC HB hw454_0), (hC HB hw454_1), (hC HB hw456_0), (hC HB hw456_1), (hC HB hw457_0), (hC HB hw457_1)⟩ (fun hHeld => ?_)
       clear hK K
       refine nB ?_
       refine pa 15 31 (mb 33 65535) HT_ ?_
       refine pa 16 32 (mb 33 131071) HT_ ?_
       refine pa 17 33 (mb 33 262143) HT_ ?_
       refine pa 18 34 (mb 33 524287) HT_ ?_
       refine pa 19 35 (mb 33 1048575) HT_ ?_
       refine pa 20 36 (mb 33 2097151) HT_ ?_
       refine pa 21 37 (mb 33 4194303) HT_ ?_
       refine pa 23 39 (mb 33 12582911) HT_ ?_
       refine pa 24 40 (mb 33 29360127) HT_ ?_
       refine pa 25 41 (mb 33 62914559) HT_ ?_
       refine pa 26 42 (mb 33 130023423) HT_ ?_
       refine pa 27 43 (mb 33 264241151) HT_ ?_
       refine ta8 22 38 (mb 33 268435455) HT_ HW_ hHeld ?_
       refine ta8 28 44 (mb 33 536870911) HT_ HW_ hHeld ?_
       refine oa 29 45 (mb 33 1073741823) HT_ (fun K hK => ?_)
       refine gA Try.func113 #[.slice A0 l0.length c0, .slice A453_0 ((rd_T85 l1 x5_1).f0).length c453_0] ?_
       with_reducible refine (spec_LeastGreen.calls k1 _ _ l0 _ _ ((rd_T85 l1 x5_1).f0) t458 _ ?side1 ?side2 ?side3 ?side4 A11.out).mono ?_
       (case side1 => exact cB HR0)
       (case side2 => exact HC0.out)
       (case side3 => exact cB HR457_0)
       (case side4 => exact HC457_0.out)
       rintro e w' ⟨rfl, ⟨nd, rfl⟩⟩
       refine ⟨_, rfl, ?_⟩
       refine hK.out _ _ ⟨(hC HB hw453_0), (hC HB hw453_1), (hC HB hw454_0), (hC HB hw454_1), (hC HB hw456_0), (hC HB hw456_1), (hC HB hw457_0), (hC HB hw457_1)⟩ (fun hHeld => ?_)
       clear hK K
       refine nB ?_
       refine oa 30 46 (mb 33 2147483647) HT_ (fun K hK => ?_)
       refine gA Try.func111 #[.int .i64 ((rd_T85 l1 x5_1).f1), .int .i64 t458, .int .i64 60] ?_
       with_reducible refine (spec_l1In.calls ((rd_T85 l1 x5_1).f1) t458 60 true _ A12.out).mono ?_
       rintro e w' ⟨rfl, ⟨nd, rfl⟩⟩
       refine ⟨_, rfl, ?_⟩
       refine hK.out _ _ ⟨(hC HB hw453_0), (hC HB hw453_1), (hC HB hw454_0), (hC HB hw454_1), (hC HB hw456_0), (hC HB hw456_1), (hC HB hw457_0), (hC HB hw457_1)⟩ (fun hHeld => ?_)
       clear hK K
       refine nB ?_
       refine pa 31 47 (mb 33 4294967295) HT_ ?_
       refine pa 32 48 (mb 33 8589934591) HT_ ?_
       refine eA HT_ ?_
       try go_wp2
       go_roundg k1
       case measure => have := HK1.out; omega
       case rel => exact ⟨(wrap64 (x5_1 + 1)), rS, H', ⟨by have := HK1.out; omega⟩, ⟨bA⟩⟩
      replace c13 := Bool.eq_false_iff.mpr c13
      subst c13
      have H1 : (some false) = some r := by rw [if_neg (show ¬ (false = true) by decide)] at H; exact H
      clear H
      have H := H1
      clear H1
      obtain rfl := Option.some.inj H
      try go_wp2
      have HBo := HB
      replace HB := db HB
      obtain ⟨p453, q453⟩ : 0 ≤ (x5_1 : Int) ∧ x5_1 < (l1.length : Int) := ⟨dA, dA⟩
      obtain ⟨ad453, A453_0, c453_0, e453, hx453_0, hx453_1, hl453_0, hi453_0⟩ := at_T85 HR1.out x5_1 p453 q453
      have hw453_1 := hx453_1
      have hw453_0 := hx453_0
      cases e453
      replace hx453_0 := hC HB hx453_0
      replace hx453_1 := hC HB hx453_1
      have HR453_0 := Aside0.mk hi453_0
      have HC453_0 := Aside0.mk hl453_0
      clear hi453_0 hl453_0
      obtain ⟨p453, q453⟩ := eT p453 q453
      obtain ⟨p454, q454⟩ : 0 ≤ (x5_1 : Int) ∧ x5_1 < (l1.length : Int) := ⟨dA, dA⟩
      obtain ⟨ad454, A454_0, c454_0, e454, hx454_0, hx454_1, hl454_0, hi454_0⟩ := at_T85 HR1.out x5_1 p454 q454
      have hw454_1 := hx454_1
      have hw454_0 := hx454_0
      obtain rfl : ad453 = ad454 := (by injection e454)
      replace hx454_0 := hC HB hx454_0
      replace hx454_1 := hC HB hx454_1
      have HR454_0 := Aside0.mk hi454_0
      have HC454_0 := Aside0.mk hl454_0
      clear hi454_0 hl454_0
      obtain ⟨p454, q454⟩ := eT p454 q454
      have ea_ := Option.some.inj (hx453_0.symm.trans hx454_0)
      injection ea_ with ea_ en_ ec_
      subst ea_
      subst ec_
      clear en_
      obtain ⟨p456, q456⟩ : 0 ≤ (x5_1 : Int) ∧ x5_1 < (l1.length : Int) := ⟨dA, dA⟩
      obtain ⟨ad456, A456_0, c456_0, e456, hx456_0, hx456_1, hl456_0, hi456_0⟩ := at_T85 HR1.out x5_1 p456 q456
      have hw456_1 := hx456_1
      have hw456_0 := hx456_0
      obtain rfl : ad453 = ad456 := (by injection e456)
      replace hx456_0 := hC HB hx456_0
      replace hx456_1 := hC HB hx456_1
      have HR456_0 := Aside0.mk hi456_0
      have HC456_0 := Aside0.mk hl456_0
      clear hi456_0 hl456_0
      obtain ⟨p456, q456⟩ := eT p456 q456
      first | have ea_ := Option.some.inj (hw453_0.symm.trans hw456_0) | have ea_ := Option.some.inj (hx453_0.symm.trans hx456_0)
      injection ea_ with ea_ en_ ec_
      subst ea_
      subst ec_
      clear en_
      obtain ⟨p457, q457⟩ : 0 ≤ (x5_1 : Int) ∧ x5_1 < (l1.length : Int) := ⟨dA, dA⟩
      obtain ⟨ad457, A457_0, c457_0, e457, hx457_0, hx457_1, hl457_0, hi457_0⟩ := at_T85 HR1.out x5_1 p457 q457
      have hw457_1 := hx457_1
      have hw457_0 := hx457_0
      obtain rfl : ad453 = ad457 := (by injection e457)
      replace hx457_0 := hC HB hx457_0
      replace hx457_1 := hC HB hx457_1
      have HR457_0 := Aside0.mk hi457_0
      have HC457_0 := Aside0.mk hl457_0
      clear hi457_0 hl457_0
      obtain ⟨p457, q457⟩ := eT p457 q457
      first | have ea_ := Option.some.inj (hw453_0.symm.trans hw457_0) | have ea_ := Option.some.inj (hx453_0.symm.trans hx457_0)
      injection ea_ with ea_ en_ ec_
      subst ea_
      subst ec_
      clear en_
      refine start_ (n := 33) (S := fun w' => w'.cell? (ad453.add ((x5_1).toNat * 2)) = some (.slice A453_0 ((rd_T85 l1 x5_1).f0).length c453_0) ∧ w'.cell? ⟨(ad453.add ((x5_1).toNat * 2)).block, (ad453.add ((x5_1).toNat * 2)).off + 1, none⟩ = some (.int .i64 ((rd_T85 l1 x5_1).f1)) ∧ w'.cell? (ad453.add ((x5_1).toNat * 2)) = some (.slice A453_0 ((rd_T85 l1 x5_1).f0).length c453_0) ∧ w'.cell? ⟨(ad453.add ((x5_1).toNat * 2)).block, (ad453.add ((x5_1).toNat * 2)).off + 1, none⟩ = some (.int .i64 ((rd_T85 l1 x5_1).f1)) ∧ w'.cell? (ad453.add ((x5_1).toNat * 2)) = some (.slice A453_0 ((rd_T85 l1 x5_1).f0).length c453_0) ∧ w'.cell? ⟨(ad453.add ((x5_1).toNat * 2)).block, (ad453.add ((x5_1).toNat * 2)).off + 1, none⟩ = some (.int .i64 ((rd_T85 l1 x5_1).f1)) ∧ w'.cell? (ad453.add ((x5_1).toNat * 2)) = some (.slice A453_0 ((rd_T85 l1 x5_1).f0).length c453_0) ∧ w'.cell? ⟨(ad453.add ((x5_1).toNat * 2)).block, (ad453.add ((x5_1).toNat * 2)).off + 1, none⟩ = some (.int .i64 ((rd_T85 l1 x5_1).f1))) (ds := []) (mb 33 0) (by kernel_rfl) rfl rfl ⟨(hC HB hw453_0), (hC HB hw453_1), (hC HB hw454_0), (hC HB hw454_1), (hC HB hw456_0), (hC HB hw456_1), (hC HB hw457_0), (hC HB hw457_1)⟩ (fun hHeld => ?_); refine with_tabW spec_IsPlan.tab6 spec_IsPlan.bits6 (fun HT_ HW_ => ?_)
      generalize wr.drew = w16 at HB HR453_0 HR454_0 HR456_0 HR457_0 hx453_0 hx453_1 hx454_0 hx454_1 hx456_0 hx456_1 hx457_0 hx457_1 hHeld ⊢
      refine pa 0 16 (mb 33 1) HT_ ?_
      refine pa 1 17 (mb 33 3) HT_ ?_
      refine pa 2 18 (mb 33 7) HT_ ?_
      refine pa 3 19 (mb 33 15) HT_ ?_
      refine ta8 4 20 (mb 33 31) HT_ HW_ hHeld ?_
      refine pa 5 21 (mb 33 63) HT_ ?_
      refine pa 6 22 (mb 33 127) HT_ ?_
      refine pa 7 23 (mb 33 255) HT_ ?_
      refine pa 8 24 (mb 33 511) HT_ ?_
      refine pa 9 25 (mb 33 1023) HT_ ?_
      refine pa 10 26 (mb 33 2047) HT_ ?_
      refine pa 11 27 (mb 33 4095) HT_ ?_
      refine pa 12 28 (mb 33 8191) HT_ ?_
      refine ta8 13 29 (mb 33 16383) HT_ HW_ hHeld ?_
      refine oa 14 30 (mb 33 32767) HT_ (fun K hK => ?_)
      refine gA Try.func112 #[.slice A0 l0.length c0, .slice A453_0 ((rd_T85 l1 x5_1).f0).length c453_0] ?_
      with_reducible refine (spec_IsTogether.calls k1 _ _ l0 _ _ ((rd_T85 l1 x5_1).f0) true _ ?side1 ?side2 ?side3 ?side4 A9.out).mono ?_
      (case side1 => exact cB HR0)
      (case side2 => exact HC0.out)
      (case side3 => exact cB HR454_0)
      (case side4 => exact HC454_0.out)
      rintro e w17 ⟨rfl, hb⟩
      refine ⟨_, rfl, ?_⟩
      replace HB := bs HB hb
      (try clear hb)
      (try clear hb2)
      (try clear hk)
      (try clear hi)
      refine hK.out _ _ ⟨(hC HB hw453_0), (hC HB hw453_1), (hC HB hw454_0), (hC HB hw454_1), (hC HB hw456_0), (hC HB hw456_1), (hC HB hw457_0), (hC HB hw457_1)⟩ (fun hHeld => ?_)
      clear hK K
      refine nB ?_
      refine pa 15 31 (mb 33 65535) HT_ ?_
      refine pa 16 32 (mb 33 131071) HT_ ?_
      refine pa 17 33 (mb 33 262143) HT_ ?_
      refine pa 18 34 (mb 33 524287) HT_ ?_
      refine pa 19 35 (mb 33 1048575) HT_ ?_
      refine pa 20 36 (mb 33 2097151) HT_ ?_
      refine pa 21 37 (mb 33 4194303) HT_ ?_
      refine pa 23 39 (mb 33 12582911) HT_ ?_
      refine pa 24 40 (mb 33 29360127) HT_ ?_
      refine pa 25 41 (mb 33 62914559) HT_ ?_
      refine pa 26 42 (mb 33 130023423) HT_ ?_
      refine pa 27 43 (mb 33 264241151) HT_ ?_
      refine ta8 22 38 (mb 33 268435455) HT_ HW_ hHeld ?_
      refine ta8 28 44 (mb 33 536870911) HT_ HW_ hHeld ?_
      refine oa 29 45 (mb 33 1073741823) HT_ (fun K hK => ?_)
      refine gA Try.func113 #[.slice A0 l0.length c0, .slice A453_0 ((rd_T85 l1 x5_1).f0).length c453_0] ?_
      with_reducible refine (spec_LeastGreen.calls k1 _ _ l0 _ _ ((rd_T85 l1 x5_1).f0) t458 _ ?side1 ?side2 ?side3 ?side4 A11.out).mono ?_
      (case side1 => exact cB HR0)
      (case side2 => exact HC0.out)
      (case side3 => exact cB HR457_0)
      (case side4 => exact HC457_0.out)
      rintro e w' ⟨rfl, ⟨nd, rfl⟩⟩
      refine ⟨_, rfl, ?_⟩
      refine hK.out _ _ ⟨(hC HB hw453_0), (hC HB hw453_1), (hC HB hw454_0), (hC HB hw454_1), (hC HB hw456_0), (hC HB hw456_1), (hC HB hw457_0), (hC HB hw457_1)⟩ (fun hHeld => ?_)
      clear hK K
      refine nB ?_
      refine oa 30 46 (mb 33 2147483647) HT_ (fun K hK => ?_)
      refine gA Try.func111 #[.int .i64 ((rd_T85 l1 x5_1).f1), .int .i64 t458, .int .i64 60] ?_
      with_reducible refine (spec_l1In.calls ((rd_T85 l1 x5_1).f1) t458 60 false _ A12.out).mono ?_
      rintro e w' ⟨rfl, ⟨nd, rfl⟩⟩
      refine ⟨_, rfl, ?_⟩
      refine hK.out _ _ ⟨(hC HB hw453_0), (hC HB hw453_1), (hC HB hw454_0), (hC HB hw454_1), (hC HB hw456_0), (hC HB hw456_1), (hC HB hw457_0), (hC HB hw457_1)⟩ (fun hHeld => ?_)
      clear hK K
      refine nB ?_
      refine pa 31 47 (mb 33 4294967295) HT_ ?_
      refine pa 32 48 (mb 33 8589934591) HT_ ?_
      refine eA HT_ ?_
      try go_wp2
      go_ret
      exact ⟨rA, bA⟩
     replace c10 := Bool.eq_false_iff.mpr c10
     subst c10
     have H1 : (some false) = some r := by rw [if_neg (show ¬ (false = true) by decide)] at H; exact H
     clear H
     have H := H1
     clear H1
     obtain rfl := Option.some.inj H
     try go_wp2
     have HBo := HB
     replace HB := db HB
     obtain ⟨p453, q453⟩ : 0 ≤ (x5_1 : Int) ∧ x5_1 < (l1.length : Int) := ⟨dA, dA⟩
     obtain ⟨ad453, A453_0, c453_0, e453, hx453_0, hx453_1, hl453_0, hi453_0⟩ := at_T85 HR1.out x5_1 p453 q453
     have hw453_1 := hx453_1
     have hw453_0 := hx453_0
     cases e453
     replace hx453_0 := hC HB hx453_0
     replace hx453_1 := hC HB hx453_1
     have HR453_0 := Aside0.mk hi453_0
     have HC453_0 := Aside0.mk hl453_0
     clear hi453_0 hl453_0
     obtain ⟨p453, q453⟩ := eT p453 q453
     obtain ⟨p454, q454⟩ : 0 ≤ (x5_1 : Int) ∧ x5_1 < (l1.length : Int) := ⟨dA, dA⟩
     obtain ⟨ad454, A454_0, c454_0, e454, hx454_0, hx454_1, hl454_0, hi454_0⟩ := at_T85 HR1.out x5_1 p454 q454
     have hw454_1 := hx454_1
     have hw454_0 := hx454_0
     obtain rfl : ad453 = ad454 := (by injection e454)
     replace hx454_0 := hC HB hx454_0
     replace hx454_1 := hC HB hx454_1
     have HR454_0 := Aside0.mk hi454_0
     have HC454_0 := Aside0.mk hl454_0
     clear hi454_0 hl454_0
     obtain ⟨p454, q454⟩ := eT p454 q454
     have ea_ := Option.some.inj (hx453_0.symm.trans hx454_0)
     injection ea_ with ea_ en_ ec_
     subst ea_
     subst ec_
     clear en_
     refine start_ (n := 33) (S := fun w' => w'.cell? (ad453.add ((x5_1).toNat * 2)) = some (.slice A453_0 ((rd_T85 l1 x5_1).f0).length c453_0) ∧ w'.cell? ⟨(ad453.add ((x5_1).toNat * 2)).block, (ad453.add ((x5_1).toNat * 2)).off + 1, none⟩ = some (.int .i64 ((rd_T85 l1 x5_1).f1)) ∧ w'.cell? (ad453.add ((x5_1).toNat * 2)) = some (.slice A453_0 ((rd_T85 l1 x5_1).f0).length c453_0) ∧ w'.cell? ⟨(ad453.add ((x5_1).toNat * 2)).block, (ad453.add ((x5_1).toNat * 2)).off + 1, none⟩ = some (.int .i64 ((rd_T85 l1 x5_1).f1))) (ds := []) (mb 33 0) (by kernel_rfl) rfl rfl ⟨(hC HB hw453_0), (hC HB hw453_1), (hC HB hw454_0), (hC HB hw454_1)⟩ (fun hHeld => ?_); refine with_tabW spec_IsPlan.tab6 spec_IsPlan.bits6 (fun HT_ HW_ => ?_)
     generalize wr.drew = w18 at HB HR453_0 HR454_0 hx453_0 hx453_1 hx454_0 hx454_1 hHeld ⊢
     refine pa 0 16 (mb 33 1) HT_ ?_
     refine pa 1 17 (mb 33 3) HT_ ?_
     refine pa 2 18 (mb 33 7) HT_ ?_
     refine pa 3 19 (mb 33 15) HT_ ?_
     refine ta4 4 20 (mb 33 31) HT_ HW_ hHeld ?_
     refine pa 5 21 (mb 33 63) HT_ ?_
     refine pa 6 22 (mb 33 127) HT_ ?_
     refine pa 7 23 (mb 33 255) HT_ ?_
     refine pa 8 24 (mb 33 511) HT_ ?_
     refine pa 9 25 (mb 33 1023) HT_ ?_
     refine pa 10 26 (mb 33 2047) HT_ ?_
     refine pa 11 27 (mb 33 4095) HT_ ?_
     refine pa 12 28 (mb 33 8191) HT_ ?_
     refine ta4 13 29 (mb 33 16383) HT_ HW_ hHeld ?_
     refine oa 14 30 (mb 33 32767) HT_ (fun K hK => ?_)
     refine gA Try.func112 #[.slice A0 l0.length c0, .slice A453_0 ((rd_T85 l1 x5_1).f0).length c453_0] ?_
     with_reducible refine (spec_IsTogether.calls k1 _ _ l0 _ _ ((rd_T85 l1 x5_1).f0) false _ ?side1 ?side2 ?side3 ?side4 A9.out).mono ?_
     (case side1 => exact cB HR0)
     (case side2 => exact HC0.out)
     (case side3 => exact cB HR454_0)
     (case side4 => exact HC454_0.out)
     rintro e w19 ⟨rfl, hb⟩
     refine ⟨_, rfl, ?_⟩
     replace HB := bs HB hb
     (try clear hb)
     (try clear hb2)
     (try clear hk)
     (try clear hi)
     refine hK.out _ _ ⟨(hC HB hw453_0), (hC HB hw453_1), (hC HB hw454_0), (hC HB hw454_1)⟩ (fun hHeld => ?_)
     clear hK K
     refine nB ?_
     refine pa 15 31 (mb 33 65535) HT_ ?_
     refine pa 16 32 (mb 33 131071) HT_ ?_
     refine pa 17 33 (mb 33 262143) HT_ ?_
     refine pu 18 34 (mb 33 524287) HT_ ?_
     refine pu 19 35 (mb 33 1048575) HT_ ?_
     refine pu 20 36 (mb 33 2097151) HT_ ?_
     refine pu 21 37 (mb 33 4194303) HT_ ?_
     refine pu 22 38 (mb 33 8388607) HT_ ?_
     refine pu 23 39 (mb 33 16777215) HT_ ?_
     refine pu 24 40 (mb 33 33554431) HT_ ?_
     refine pu 25 41 (mb 33 67108863) HT_ ?_
     refine pu 26 42 (mb 33 134217727) HT_ ?_
     refine pu 27 43 (mb 33 268435455) HT_ ?_
     refine pu 28 44 (mb 33 536870911) HT_ ?_
     refine pu 29 45 (mb 33 1073741823) HT_ ?_
     refine pu 30 46 (mb 33 2147483647) HT_ ?_
     refine pu 31 47 (mb 33 4294967295) HT_ ?_
     refine pa 32 48 (mb 33 8589934591) HT_ ?_
     refine eA HT_ ?_
     try go_wp2
     go_ret
     exact ⟨rA, bA⟩
    rw [if_neg c5] at H
    have c5b0 := decide_eq_false c5
    clear c5
    obtain ⟨t449, A20, H⟩ := bindE H
    try dsimp only at H
    obtain ⟨t452, A21, H⟩ := bindE H
    try dsimp only at H
    obtain rfl := Option.some.inj H
    go_wp2_with (first | ((with_reducible refine gate_callee (f := 115) rfl ?_); refine gL (some 51) Try.func115 #[.slice A1 l1.length c1] ?_; (with_reducible refine (spec_l8Stages.calls k1 (fun k_ => k_ < w.heap.size) _ _ l1 t449 _ ?_ A20.out).mono ?_); exact Kd.V_mk HC1.out (Kd.F_below (Kd.C_F k85_heap HR1.out) bA); rintro e w22 ⟨v450, rfl, ho0, hb⟩; refine ⟨_, rfl, ?_⟩; have HO451 := Aside0.mk (Kd.N_lower (Kd.N_mono (ok' := fun k_ => True) ho0 (fun k_ hk_ => trivial)) (below_size bA)); replace HB := bs HB hb; (try clear hb); (try clear ho0); obtain ⟨Ao23, co23, eo23⟩ := Kd.N_slice HO451.out; subst eo23) | ((with_reducible refine gate_callee (f := 114) rfl ?_); refine gL (some 52) Try.func114 #[.slice A0 l0.length c0, .slice Ao23 t449.length co23] ?_; (with_reducible refine (spec_Covers.calls k1 _ _ l0 _ _ t449 t452 _ ?_ ?_ ?_ ?_ A21.out).mono ?_); exact cB HR0; exact HC0.out; (focus repeat (first | exact (Kd.N_reads' HO451.out).2.2 | (with_reducible refine Kd.C_alloc ?_ _) | (with_reducible refine Kd.C_drewN ?_ _) | (with_reducible refine Kd.C_drew ?_))); exact (Kd.N_reads' HO451.out).2.1; rintro e w24 ⟨rfl, hb⟩; refine ⟨_, rfl, ?_⟩; have n0_ := Aside0.mk (Kd.N_below (by (with_reducible repeat (first | apply Kd.N_alloc | apply Kd.N_drewN | apply Kd.N_drew)); exact HO451.out) hb); have n1_ := bs HB hb; clear HO451; clear HB; have HO451 := n0_; have HB := n1_; clear n0_ n1_; (try clear hb)))
    go_ret
    exact ⟨rA, bA⟩
 replace c4 := Bool.eq_false_iff.mpr c4
 subst c4
 have H1 : (some false) = some r := by rw [if_neg (show ¬ (false = true) by decide)] at H; exact H
 clear H
 have H := H1
 clear H1
 obtain rfl := Option.some.inj H
 go_enter Try.func61, Try.ntmps61
 go_wp2_with (first | ((with_reducible refine gate_callee (f := 111) rfl ?_); refine gL (some 8) Try.func111 #[.int .i64 (l1.length : Int), .int .i64 1, .int .i64 6] ?_; (with_reducible refine (spec_l1In.calls (l1.length : Int) 1 6 false _ A3.out).mono ?_); rintro e w' ⟨rfl, ⟨nd, rfl⟩⟩; refine ⟨_, rfl, ?_⟩))
 go_ret
 exact ⟨rA, bA⟩

end Go.Proofs.Ytjgonpcajedkjaa.P
