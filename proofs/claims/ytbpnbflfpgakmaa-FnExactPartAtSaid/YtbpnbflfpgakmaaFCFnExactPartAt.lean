/- Printed by myprint.py (wip/tools) over the kit's print: what Go's functions compute, and that they do. Lean checks it. -/
import Derived.Test.YtbpnbflfpgakmaaF0
import Derived.Test.YtbpnbflfpgakmaaFI09
import Derived.Test.YtbpnbflfpgakmaaFLPart
import Derived.Test.YtbpnbflfpgakmaaFLPath
import Derived.Test.YtbpnbflfpgakmaaFS09
namespace Go.Proofs.Ytbpnbflfpgakmaa.P
open Go.RowKit Go.Proofs.YtbpnbflfpgakmaaW.PrintWords Go.Proofs.YtbpnbflfpgakmaaW.PrintLast Go.Proofs.YtbpnbflfpgakmaaW.PrintMore Go.Proofs.Ytbpnbflfpgakmaa.Sq
attribute [local go_sem] max2_int min2_int max_two min_two max_three min_three max_four min_four
set_option linter.unusedVariables false
set_option linter.unusedSimpArgs false

/-! ### laws_FnExactPartAt: function 8 -/
def laws_FnExactPartAt.j0 : Nat → List (S60) → List (S49) → List (S58) → List (S51) → Bool → Option (Bool)
  | 0, _, _, _, _, _ => none
  | k + 1, x0, x1, x10, x11, x51 => if x51 = true then (none) else ((laws_toPathS.f k x0).bind fun t531 => ((laws_eqPathS.f k x10 t531).bind fun t534 => (if t534 = true then ((laws_toPartS.f k x1).bind fun t535 => ((laws_eqPartS.f k x11 t535).bind fun t538 => (if t538 = true then (some true) else (none)))) else (none))))
def laws_FnExactPartAt.f (k : Nat) (l0 : List (S60)) (l1 : List (S49)) (a2 : Int) : Option (Bool) := (laws_szPathS.f l0 1048576).bind fun t513 => (if t513 < 0 then (some true) else ((laws_szPartS.f k l1 t513).bind fun t514 => (if t514 < 0 then (some true) else ((laws_toPathS.f k l0).bind fun t515 => ((laws_toPartS.f k l1).bind fun t518 => ((spec_PartAt.f k t515 t518 a2).bind fun bt521 => ((laws_toPathS.f k l0).bind fun t523 => ((laws_toPartS.f k l1).bind fun t526 => ((impl_PartAt.f k t523 t526 a2).bind fun bt529 => (if bt529.1 = bt521.1 then (laws_FnExactPartAt.j0 k l0 l1 t523 t526 (bt529.2 != bt521.2)) else (laws_FnExactPartAt.j0 k l0 l1 t523 t526 true)))))))))))
theorem laws_FnExactPartAt.mono_l : ∀ k, (∀ y0 y1 y2 y3 y4, LeO (laws_FnExactPartAt.j0 k y0 y1 y2 y3 y4) (laws_FnExactPartAt.j0 (k + 1) y0 y1 y2 y3 y4))
  | 0 => fun _ _ _ _ _ r h => by simp [laws_FnExactPartAt.j0] at h
  | k + 1 => by
    have ih0 := laws_FnExactPartAt.mono_l k
    · intro y0 y1 y2 y3 y4
      unfold laws_FnExactPartAt.j0
      repeat' first | (with_reducible first | exact LeO.refl _ | exact LeO.none _ | refine LeO.ite ?_ ?_ | refine LeO.bind ?_ (fun _ => ?_) | exact ih0 _ _ _ _ _ | exact impl_PartAt.mono _ _ _ _ | exact laws_eqPartS.mono _ _ _ | exact laws_eqPathS.mono _ _ _ | exact laws_szPartS.mono _ _ _ | exact laws_toPartS.mono _ _ | exact laws_toPathS.mono _ _ | exact spec_PartAt.mono _ _ _ _) | exact LeO.none _ | refine LeO.ite ?_ ?_ | refine LeO.bind ?_ (fun _ => ?_) | exact ih0 _ _ _ _ _ | exact impl_PartAt.mono _ _ _ _ | exact laws_eqPartS.mono _ _ _ | exact laws_eqPathS.mono _ _ _ | exact laws_szPartS.mono _ _ _ | exact laws_toPartS.mono _ _ | exact laws_toPathS.mono _ _ | exact spec_PartAt.mono _ _ _ _
theorem laws_FnExactPartAt.mono : ∀ a0 a1 a2 k, LeO (laws_FnExactPartAt.f k a0 a1 a2) (laws_FnExactPartAt.f (k + 1) a0 a1 a2) := by
  intro a0 a1 a2 k
  have ih0 := laws_FnExactPartAt.mono_l k
  unfold laws_FnExactPartAt.f
  repeat' first | (with_reducible first | exact LeO.refl _ | exact LeO.none _ | refine LeO.ite ?_ ?_ | refine LeO.bind ?_ (fun _ => ?_) | exact ih0 _ _ _ _ _ | exact impl_PartAt.mono _ _ _ _ | exact laws_eqPartS.mono _ _ _ | exact laws_eqPathS.mono _ _ _ | exact laws_szPartS.mono _ _ _ | exact laws_toPartS.mono _ _ | exact laws_toPathS.mono _ _ | exact spec_PartAt.mono _ _ _ _) | exact LeO.none _ | refine LeO.ite ?_ ?_ | refine LeO.bind ?_ (fun _ => ?_) | exact ih0 _ _ _ _ _ | exact impl_PartAt.mono _ _ _ _ | exact laws_eqPartS.mono _ _ _ | exact laws_eqPathS.mono _ _ _ | exact laws_szPartS.mono _ _ _ | exact laws_toPartS.mono _ _ | exact laws_toPathS.mono _ _ | exact spec_PartAt.mono _ _ _ _
set_option maxHeartbeats 8000000 in
set_option maxRecDepth 100000 in
theorem laws_FnExactPartAt.calls (k : Nat) (A0 : Option Addr) (c0 : Nat) (l0 : List (S60)) (A1 : Option Addr) (c1 : Nat) (l1 : List (S49)) (a2 : Int) (r : Bool) (w : World) (hr0 : Kd.C k60 w A0 l0.length l0) (hc0 : l0.length ≤ c0) (hr1 : Kd.C k49 w A1 l1.length l1) (hc1 : l1.length ≤ c1) (h : laws_FnExactPartAt.f k l0 l1 a2 = some r) :
    Calls Try.prog 8 #[.slice A0 l0.length c0, .slice A1 l1.length c1, .int .i64 a2] w fun e w' => e = .returned (.bool r) ∧ Below w.heap.size w w' := by
  have HR0 := Aside0.mk hr0
  have HC0 := Aside0.mk hc0
  clear hr0 hc0
  have HR1 := Aside0.mk hr1
  have HC1 := Aside0.mk hc1
  clear hr1 hc1
  have HB := Aside0.mk (Below.refl w.heap.size w)
  have H : ((laws_szPathS.f l0 1048576).bind fun t513 => (if t513 < 0 then (some true) else ((laws_szPartS.f k l1 t513).bind fun t514 => (if t514 < 0 then (some true) else ((laws_toPathS.f k l0).bind fun t515 => ((laws_toPartS.f k l1).bind fun t518 => ((spec_PartAt.f k t515 t518 a2).bind fun bt521 => ((laws_toPathS.f k l0).bind fun t523 => ((laws_toPartS.f k l1).bind fun t526 => ((impl_PartAt.f k t523 t526 a2).bind fun bt529 => (if bt529.1 = bt521.1 then (laws_FnExactPartAt.j0 k l0 l1 t523 t526 (bt529.2 != bt521.2)) else (laws_FnExactPartAt.j0 k l0 l1 t523 t526 true)))))))))))) = some r := h
  clear h
  obtain ⟨t513, A4, H⟩ := bindE H
  try dsimp only at H
  by_cases c5 : t513 < 0
  · rw [if_pos c5] at H
    have c5b0 : decide (t513 < 0) = true := decide_eq_true c5
    clear c5
    obtain rfl := Option.some.inj H
    go_enter Try.func8, Try.ntmps8
    go_wp2_with (first | ((with_reducible refine gate_callee (f := 15) rfl ?_); refine gL (some 16) Try.func15 #[.slice A0 l0.length c0, .int .i64 1048576] ?_; (with_reducible refine (laws_szPathS.calls _ _ l0 1048576 t513 _ ?side1 ?side2 A4.out).mono ?_); (case side1 => exact cO HR0); (case side2 => exact HC0.out); rintro e w' ⟨rfl, ⟨nd, rfl⟩⟩; refine ⟨_, rfl, ?_⟩))
    go_ret
    exact ⟨rA, bA⟩
  · rw [if_neg c5] at H
    have c5b0 : decide (t513 < 0) = false := decide_eq_false c5
    clear c5
    obtain ⟨t514, A6, H⟩ := bindE H
    try dsimp only at H
    by_cases c7 : t514 < 0
    · rw [if_pos c7] at H
      have c7b0 : decide (t514 < 0) = true := decide_eq_true c7
      clear c7
      obtain rfl := Option.some.inj H
      go_enter Try.func8, Try.ntmps8
      go_wp2_with (first | ((with_reducible refine gate_callee (f := 15) rfl ?_); refine gL (some 16) Try.func15 #[.slice A0 l0.length c0, .int .i64 1048576] ?_; (with_reducible refine (laws_szPathS.calls _ _ l0 1048576 t513 _ ?side1 ?side2 A4.out).mono ?_); (case side1 => exact cO HR0); (case side2 => exact HC0.out); rintro e w' ⟨rfl, ⟨nd, rfl⟩⟩; refine ⟨_, rfl, ?_⟩) | ((with_reducible refine gate_callee (f := 16) rfl ?_); refine gL (some 21) Try.func16 #[.slice A1 l1.length c1, .int .i64 t513] ?_; (with_reducible refine (laws_szPartS.calls k _ _ l1 t513 t514 _ ?side1 ?side2 A6.out).mono ?_); (case side1 => exact cO HR1); (case side2 => exact HC1.out); rintro e w8 ⟨rfl, hb⟩; refine ⟨_, rfl, ?_⟩; replace HB := Aside0.mk (below_step bA hb); (try clear hb); (try clear hb2); (try clear hk); (try clear hi)))
      go_ret
      exact ⟨rA, bA⟩
    · rw [if_neg c7] at H
      have c7b0 : decide (t514 < 0) = false := decide_eq_false c7
      clear c7
      obtain ⟨t515, A9, H⟩ := bindE H
      try dsimp only at H
      obtain ⟨t518, A10, H⟩ := bindE H
      try dsimp only at H
      obtain ⟨⟨t521, t522⟩, A11, H⟩ := bindE H
      try dsimp only at H
      obtain ⟨t523, A12, H⟩ := bindE H
      try dsimp only at H
      obtain ⟨t526, A13, H⟩ := bindE H
      try dsimp only at H
      obtain ⟨⟨t529, t530⟩, A14, H⟩ := bindE H
      try dsimp only at H
      have HC15 := Aside0.mk H
      clear H
      go_enter Try.func8, Try.ntmps8
      go_upto_region 12 with (first | ((with_reducible refine gate_callee (f := 15) rfl ?_); refine gL (some 16) Try.func15 #[.slice A0 l0.length c0, .int .i64 1048576] ?_; (with_reducible refine (laws_szPathS.calls _ _ l0 1048576 t513 _ ?side1 ?side2 A4.out).mono ?_); (case side1 => exact cO HR0); (case side2 => exact HC0.out); rintro e w' ⟨rfl, ⟨nd, rfl⟩⟩; refine ⟨_, rfl, ?_⟩) | ((with_reducible refine gate_callee (f := 16) rfl ?_); refine gL (some 21) Try.func16 #[.slice A1 l1.length c1, .int .i64 t513] ?_; (with_reducible refine (laws_szPartS.calls k _ _ l1 t513 t514 _ ?side1 ?side2 A6.out).mono ?_); (case side1 => exact cO HR1); (case side2 => exact HC1.out); rintro e w16 ⟨rfl, hb⟩; refine ⟨_, rfl, ?_⟩; replace HB := Aside0.mk (below_step bA hb); (try clear hb); (try clear hb2); (try clear hk); (try clear hi)) | ((with_reducible refine gate_callee (f := 18) rfl ?_); refine gL (some 26) Try.func18 #[.slice A0 l0.length c0] ?_; (with_reducible refine (laws_toPathS.calls k _ _ l0 t515 _ ?side1 ?side2 A9.out).mono ?_); (case side1 => exact cB HR0); (case side2 => exact HC0.out); rintro e w17 ⟨v516, rfl, ho0, hb⟩; refine ⟨_, rfl, ?_⟩; have HO517 := Aside0.mk (Kd.R_lower ho0 (below_size bA)); replace HB := Aside0.mk (below_step bA hb); (try clear hb); (try clear hb2); (try clear hk); (try clear hi); (try clear ho0)) | ((with_reducible refine gate_callee (f := 19) rfl ?_); refine gL (some 28) Try.func19 #[.slice A1 l1.length c1] ?_; (with_reducible refine (laws_toPartS.calls k _ _ l1 t518 _ ?side1 ?side2 A10.out).mono ?_); (case side1 => exact cB HR1); (case side2 => exact HC1.out); rintro e w18 ⟨v519, rfl, ho0, hb⟩; refine ⟨_, rfl, ?_⟩; replace HO517 := Aside0.mk (Kd.R_below (rK HO517) hb); have HO520 := Aside0.mk (Kd.S_lower ho0 (below_size bA)); replace HB := Aside0.mk (below_step bA hb); (try clear hb); (try clear hb2); (try clear hk); (try clear hi); (try clear ho0); obtain ⟨Ao19, co19, eo19⟩ := Kd.R_slice HO517.out; subst eo19; obtain ⟨Ao20, co20, eo20⟩ := Kd.S_slice HO520.out; subst eo20) | ((with_reducible refine gate_callee (f := 31) rfl ?_); refine gL (some 30) Try.func31 #[.slice Ao19 t515.length co19, .slice Ao20 t518.length co20, .int .i64 a2] ?_; (with_reducible refine (spec_PartAt.calls k _ _ t515 _ _ t518 a2 t521 t522 _ ?side1 ?side2 ?side3 ?side4 A11.out).mono ?_); (case side1 => exact cO ⟨(Kd.R_reads' HO517.out).2.2⟩); (case side2 => exact (Kd.R_reads' HO517.out).2.1); (case side3 => repeat (first | exact (Kd.S_reads' HO520.out).2.2 | (with_reducible refine Kd.C_alloc ?_ _) | (with_reducible refine Kd.C_drewN ?_ _) | (with_reducible refine Kd.C_drew ?_))); (case side4 => exact (Kd.S_reads' HO520.out).2.1); rintro e w21 ⟨rfl, hb⟩; refine ⟨_, rfl, ?_⟩; replace HO517 := Aside0.mk (Kd.R_below (rK HO517) hb); replace HO520 := Aside0.mk (Kd.S_below (sK HO520) hb); replace HB := Aside0.mk (below_step bA hb); (try clear hb); (try clear hb2); (try clear hk); (try clear hi)) | ((with_reducible refine gate_callee (f := 18) rfl ?_); refine gL (some 34) Try.func18 #[.slice A0 l0.length c0] ?_; (with_reducible refine (laws_toPathS.calls k _ _ l0 t523 _ ?side1 ?side2 A12.out).mono ?_); (case side1 => exact cB HR0); (case side2 => exact HC0.out); rintro e w22 ⟨v524, rfl, ho0, hb⟩; refine ⟨_, rfl, ?_⟩; replace HO520 := Aside0.mk (Kd.S_below (sK HO520) hb); have HO525 := Aside0.mk (Kd.R_lower (Kd.R_new' ho0 (Kd.R_lt (rK HO517))) (below_size bA)); replace HO517 := Aside0.mk (Kd.R_elder' (rK HO517) (Kd.R_base ho0) hb); replace HB := Aside0.mk (below_step bA hb); (try clear hb); (try clear hb2); (try clear hk); (try clear hi); (try clear ho0)) | ((with_reducible refine gate_callee (f := 19) rfl ?_); refine gL (some 36) Try.func19 #[.slice A1 l1.length c1] ?_; (with_reducible refine (laws_toPartS.calls k _ _ l1 t526 _ ?side1 ?side2 A13.out).mono ?_); (case side1 => exact cB HR1); (case side2 => exact HC1.out); rintro e w23 ⟨v527, rfl, ho0, hb⟩; refine ⟨_, rfl, ?_⟩; replace HO517 := Aside0.mk (Kd.R_below (rK HO517) hb); replace HO525 := Aside0.mk (Kd.R_below (rK HO525) hb); have HO528 := Aside0.mk (Kd.S_lower (Kd.S_new' ho0 (Kd.S_lt (sK HO520))) (below_size bA)); replace HO520 := Aside0.mk (Kd.S_elder' (sK HO520) (Kd.S_base ho0) hb); replace HB := Aside0.mk (below_step bA hb); (try clear hb); (try clear hb2); (try clear hk); (try clear hi); (try clear ho0); obtain ⟨Ao24, co24, eo24⟩ := Kd.R_slice HO525.out; subst eo24; obtain ⟨Ao25, co25, eo25⟩ := Kd.S_slice HO528.out; subst eo25) | ((with_reducible refine gate_callee (f := 32) rfl ?_); refine gL (some 41) Try.func32 #[.slice Ao24 t523.length co24, .slice Ao25 t526.length co25, .int .i64 a2] ?_; (with_reducible refine (impl_PartAt.calls k _ _ t523 _ _ t526 a2 t529 t530 _ ?side1 ?side2 ?side3 ?side4 A14.out).mono ?_); (case side1 => exact cO ⟨(Kd.R_reads' HO525.out).2.2⟩); (case side2 => exact (Kd.R_reads' HO525.out).2.1); (case side3 => repeat (first | exact (Kd.S_reads' HO528.out).2.2 | (with_reducible refine Kd.C_alloc ?_ _) | (with_reducible refine Kd.C_drewN ?_ _) | (with_reducible refine Kd.C_drew ?_))); (case side4 => exact (Kd.S_reads' HO528.out).2.1); rintro e w26 ⟨rfl, hb⟩; refine ⟨_, rfl, ?_⟩; replace HO517 := Aside0.mk (Kd.R_below (rK HO517) hb); replace HO520 := Aside0.mk (Kd.S_below (sK HO520) hb); replace HO525 := Aside0.mk (Kd.R_below (rK HO525) hb); replace HO528 := Aside0.mk (Kd.S_below (sK HO528) hb); replace HB := Aside0.mk (below_step bA hb); (try clear hb); (try clear hb2); (try clear hk); (try clear hi)))
      (try simp only [Act.put, List.setIfInBounds_toArray, List.set_cons_zero, List.set_cons_succ])
      go_cut [51] (fun v51 wc => ∃ (kq : Nat) (x51_14 : Bool), v51 = .bool x51_14 ∧ Aside0 (laws_FnExactPartAt.j0 kq l0 l1 t523 t526 x51_14 = some r) ∧ Aside0 (kq ≤ k) ∧ Aside0 (Kd.R k58 58 wc w.heap.size (fun _ => True) (.slice Ao24 t523.length co24) t523) ∧ Aside0 (Kd.S k51 51 wc w.heap.size (fun _ => True) (.slice Ao25 t526.length co25) t526) ∧ Aside0 (Below w.heap.size w wc))
      case first =>
        have H := HC15.out
        clear HC15
        by_cases c27 : t529 = t521
        · rw [if_pos c27] at H
          have c27b0 : (t529 == t521) = true := beq_iff_eq.mpr c27
          have c27b1 : (t529 != t521) = false := bne_eq_false_iff_eq.mpr c27
          clear c27
          (first | rw [c27b0] | (simp only [i64_w, i32_w]; rw [c27b0]) | skip)
          have H' := Aside0.mk H
          clear H
          go_wp2
          go_meet
          case rel => exact ⟨_, ((t530 != t522)), rS, H', ⟨by first | omega | exact Nat.le_refl _⟩, ⟨by (with_reducible repeat (first | apply Kd.R_alloc | apply Kd.R_drewN | apply Kd.R_drew)); exact Kd.R_mono HO525.out (fun _ hk => trivial)⟩, ⟨by (with_reducible repeat (first | apply Kd.S_alloc | apply Kd.S_drewN | apply Kd.S_drew)); exact Kd.S_mono HO528.out (fun _ hk => trivial)⟩, ⟨bA⟩⟩
        · rw [if_neg c27] at H
          have c27b0 : (t529 == t521) = false := beq_eq_false_iff_ne.mpr c27
          have c27b1 : (t529 != t521) = true := bne_iff_ne.mpr c27
          (first | rw [c27b0] | (simp only [i64_w, i32_w]; rw [c27b0]) | skip)
          have H' := Aside0.mk H
          clear H
          go_wp2
          go_meet
          case rel => exact ⟨_, (true), rS, H', ⟨by first | omega | exact Nat.le_refl _⟩, ⟨by (with_reducible repeat (first | apply Kd.R_alloc | apply Kd.R_drewN | apply Kd.R_drew)); exact Kd.R_mono HO525.out (fun _ hk => trivial)⟩, ⟨by (with_reducible repeat (first | apply Kd.S_alloc | apply Kd.S_drewN | apply Kd.S_drew)); exact Kd.S_mono HO528.out (fun _ hk => trivial)⟩, ⟨bA⟩⟩
      case rest =>
        clear HC15
        try clear c1
        try clear c2
        try clear p2
        try clear c3
        try clear c5
        try clear c5b0
        try clear c7
        try clear c7b0
        try clear c8
        try clear c15
        try clear c16
        try clear c18
        try clear c19
        try clear c27
        try clear c27b0
        try clear c27b1
        obtain ⟨kq, x51_14, rfl, HA, HJ14, HO_10, HO_11, HB⟩ := hcut
        cases kq with
        | zero => exact absurd HA.out (by simp [laws_FnExactPartAt.j0])
        | succ kj14 =>
          have H := HA.out
          clear HA
          simp only [laws_FnExactPartAt.j0] at H
          have c28 := ifN' H
          replace H := ifT' H
          replace c28 := Bool.eq_false_iff.mpr c28
          subst c28
          obtain ⟨t531, A29, H⟩ := bindE H
          try dsimp only at H
          obtain ⟨t534, A30, H⟩ := bindE H
          try dsimp only at H
          have c31 := ifN H
          replace H := ifT H
          subst c31
          obtain ⟨t535, A32, H⟩ := bindE H
          try dsimp only at H
          obtain ⟨t538, A33, H⟩ := bindE H
          try dsimp only at H
          have c34 := ifN H
          replace H := ifT H
          subst c34
          obtain rfl := Option.some.inj H
          go_wp2_with (first | ((with_reducible refine gate_callee (f := 18) rfl ?_); refine gL (some 54) Try.func18 #[.slice A0 l0.length c0] ?_; (with_reducible refine (laws_toPathS.calls kj14 _ _ l0 t531 _ ?side1 ?side2 A29.out).mono ?_); (case side1 => exact cB HR0); (case side2 => exact HC0.out); rintro e w35 ⟨v532, rfl, ho0, hb⟩; refine ⟨_, rfl, ?_⟩; replace HO_11 := Aside0.mk (Kd.S_below (sK HO_11) hb); have HO533 := Aside0.mk (Kd.R_lower (Kd.R_new' ho0 (Kd.R_lt (rK HO_10))) (below_size bA)); replace HO_10 := Aside0.mk (Kd.R_elder' (rK HO_10) (Kd.R_base ho0) hb); replace HB := Aside0.mk (below_step bA hb); (try clear hb); (try clear hb2); (try clear hk); (try clear hi); (try clear ho0); obtain ⟨Ao36, co36, eo36⟩ := Kd.R_slice HO533.out; subst eo36) | ((with_reducible refine gate_callee (f := 21) rfl ?_); refine gL (some 55) Try.func21 #[.slice Ao24 t523.length co24, .slice Ao36 t531.length co36] ?_; (with_reducible refine (laws_eqPathS.calls kj14 _ _ t523 _ _ t531 true _ ?side1 ?side2 ?side3 ?side4 A30.out).mono ?_); (case side1 => exact cO ⟨(Kd.R_reads' HO_10.out).2.2⟩); (case side2 => exact (Kd.R_reads' HO_10.out).2.1); (case side3 => exact cO ⟨(Kd.R_reads' HO533.out).2.2⟩); (case side4 => exact (Kd.R_reads' HO533.out).2.1); rintro e w37 ⟨rfl, hb⟩; refine ⟨_, rfl, ?_⟩; replace HO_10 := Aside0.mk (Kd.R_below (rK HO_10) hb); replace HO_11 := Aside0.mk (Kd.S_below (sK HO_11) hb); replace HO533 := Aside0.mk (Kd.R_below (rK HO533) hb); replace HB := Aside0.mk (below_step bA hb); (try clear hb); (try clear hb2); (try clear hk); (try clear hi)) | ((with_reducible refine gate_callee (f := 19) rfl ?_); refine gL (some 59) Try.func19 #[.slice A1 l1.length c1] ?_; (with_reducible refine (laws_toPartS.calls kj14 _ _ l1 t535 _ ?side1 ?side2 A32.out).mono ?_); (case side1 => exact cB HR1); (case side2 => exact HC1.out); rintro e w38 ⟨v536, rfl, ho0, hb⟩; refine ⟨_, rfl, ?_⟩; replace HO_10 := Aside0.mk (Kd.R_below (rK HO_10) hb); replace HO533 := Aside0.mk (Kd.R_below (rK HO533) hb); have HO537 := Aside0.mk (Kd.S_lower (Kd.S_new' ho0 (Kd.S_lt (sK HO_11))) (below_size bA)); replace HO_11 := Aside0.mk (Kd.S_elder' (sK HO_11) (Kd.S_base ho0) hb); replace HB := Aside0.mk (below_step bA hb); (try clear hb); (try clear hb2); (try clear hk); (try clear hi); (try clear ho0); obtain ⟨Ao39, co39, eo39⟩ := Kd.S_slice HO537.out; subst eo39) | ((with_reducible refine gate_callee (f := 22) rfl ?_); refine gL (some 60) Try.func22 #[.slice Ao25 t526.length co25, .slice Ao39 t535.length co39] ?_; (with_reducible refine (laws_eqPartS.calls kj14 _ _ t526 _ _ t535 true _ ?side1 ?side2 ?side3 ?side4 A33.out).mono ?_); (case side1 => repeat (first | exact (Kd.S_reads' HO_11.out).2.2 | (with_reducible refine Kd.C_alloc ?_ _) | (with_reducible refine Kd.C_drewN ?_ _) | (with_reducible refine Kd.C_drew ?_))); (case side2 => exact (Kd.S_reads' HO_11.out).2.1); (case side3 => repeat (first | exact (Kd.S_reads' HO537.out).2.2 | (with_reducible refine Kd.C_alloc ?_ _) | (with_reducible refine Kd.C_drewN ?_ _) | (with_reducible refine Kd.C_drew ?_))); (case side4 => exact (Kd.S_reads' HO537.out).2.1); rintro e w40 ⟨rfl, hb⟩; refine ⟨_, rfl, ?_⟩; replace HO_10 := Aside0.mk (Kd.R_below (rK HO_10) hb); replace HO_11 := Aside0.mk (Kd.S_below (sK HO_11) hb); replace HO533 := Aside0.mk (Kd.R_below (rK HO533) hb); replace HO537 := Aside0.mk (Kd.S_below (sK HO537) hb); replace HB := Aside0.mk (below_step bA hb); (try clear hb); (try clear hb2); (try clear hk); (try clear hi)))
          go_ret
          exact ⟨rA, bA⟩

end Go.Proofs.Ytbpnbflfpgakmaa.P
