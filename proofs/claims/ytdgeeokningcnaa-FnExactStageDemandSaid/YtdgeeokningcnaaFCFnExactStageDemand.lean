/- Printed by myprint.py (wip/tools) over the kit's print: what Go's functions compute, and that they do. Lean checks it. -/
import Derived.Test.YtdgeeokningcnaaF0
import Derived.Test.YtdgeeokningcnaaFI10
import Derived.Test.YtdgeeokningcnaaFLDetector
import Derived.Test.YtdgeeokningcnaaFLInt
import Derived.Test.YtdgeeokningcnaaFS10
namespace Go.Proofs.Ytdgeeokningcnaa.P
open Go.RowKit Go.Proofs.YtdgeeokningcnaaW.PrintWords Go.Proofs.YtdgeeokningcnaaW.PrintLast Go.Proofs.YtdgeeokningcnaaW.PrintMore Go.Proofs.Ytdgeeokningcnaa.Sq
attribute [local go_sem] max2_int min2_int max_two min_two max_three min_three max_four min_four
set_option linter.unusedVariables false
set_option linter.unusedSimpArgs false

/-! ### laws_FnExactStageDemand: function 14 -/
def laws_FnExactStageDemand.f (k : Nat) (l0 : List (S23)) (l1 : List Int) : Option (Bool) := if (l1.length : Int) > 1048576 then (some true) else ((laws_szDetectorS.f l0 1048576).bind fun t464 => (if t464 < 0 then (some true) else ((laws_toDetectorS.f k l0).bind fun t465 => ((laws_toIntS.f k l1).bind fun t468 => ((spec_StageDemand.f k t465 t468).bind fun t471 => ((laws_toDetectorS.f k l0).bind fun t472 => ((laws_toIntS.f k l1).bind fun t475 => ((impl_StageDemand.f k t472 t475).bind fun t478 => (if t478 = t471 then ((laws_toDetectorS.f k l0).bind fun t479 => ((laws_eqDetectorS.f k t472 t479).bind fun t482 => (if t482 = true then ((laws_toIntS.f k l1).bind fun t483 => ((laws_eqIntS.f k t475 t483).bind fun t486 => (if t486 = true then (some true) else (none)))) else (none)))) else (none))))))))))
theorem laws_FnExactStageDemand.mono : ∀ a0 a1 k, LeO (laws_FnExactStageDemand.f k a0 a1) (laws_FnExactStageDemand.f (k + 1) a0 a1) := by
  intro a0 a1 k
  unfold laws_FnExactStageDemand.f
  repeat' first | (with_reducible first | exact LeO.refl _ | exact LeO.none _ | refine LeO.ite ?_ ?_ | refine LeO.bind ?_ (fun _ => ?_) | exact impl_StageDemand.mono _ _ _ | exact laws_eqDetectorS.mono _ _ _ | exact laws_eqIntS.mono _ _ _ | exact laws_toDetectorS.mono _ _ | exact laws_toIntS.mono _ _ | exact spec_StageDemand.mono _ _ _) | exact LeO.none _ | refine LeO.ite ?_ ?_ | refine LeO.bind ?_ (fun _ => ?_) | exact impl_StageDemand.mono _ _ _ | exact laws_eqDetectorS.mono _ _ _ | exact laws_eqIntS.mono _ _ _ | exact laws_toDetectorS.mono _ _ | exact laws_toIntS.mono _ _ | exact spec_StageDemand.mono _ _ _
set_option maxHeartbeats 8000000 in
set_option maxRecDepth 100000 in
theorem laws_FnExactStageDemand.calls (k : Nat) (A0 : Option Addr) (c0 : Nat) (l0 : List (S23)) (A1 : Option Addr) (c1 : Nat) (l1 : List Int) (r : Bool) (w : World) (hr0 : Kd.C k23 w A0 l0.length l0) (hc0 : l0.length ≤ c0) (hr1 : Kd.C (Kd.int .i64) w A1 l1.length l1) (hc1 : l1.length ≤ c1) (h : laws_FnExactStageDemand.f k l0 l1 = some r) :
    Calls Try.prog 14 #[.slice A0 l0.length c0, .slice A1 l1.length c1] w fun e w' => e = .returned (.bool r) ∧ Below w.heap.size w w' := by
  have HR0 := Aside0.mk hr0
  have HC0 := Aside0.mk hc0
  clear hr0 hc0
  have HR1 := Aside0.mk hr1
  have HC1 := Aside0.mk hc1
  clear hr1 hc1
  have HB := Aside0.mk (Below.refl w.heap.size w)
  have H : (if (l1.length : Int) > 1048576 then (some true) else ((laws_szDetectorS.f l0 1048576).bind fun t464 => (if t464 < 0 then (some true) else ((laws_toDetectorS.f k l0).bind fun t465 => ((laws_toIntS.f k l1).bind fun t468 => ((spec_StageDemand.f k t465 t468).bind fun t471 => ((laws_toDetectorS.f k l0).bind fun t472 => ((laws_toIntS.f k l1).bind fun t475 => ((impl_StageDemand.f k t472 t475).bind fun t478 => (if t478 = t471 then ((laws_toDetectorS.f k l0).bind fun t479 => ((laws_eqDetectorS.f k t472 t479).bind fun t482 => (if t482 = true then ((laws_toIntS.f k l1).bind fun t483 => ((laws_eqIntS.f k t475 t483).bind fun t486 => (if t486 = true then (some true) else (none)))) else (none)))) else (none))))))))))) = some r := h
  clear h
  by_cases c3 : (l1.length : Int) > 1048576
  · rw [if_pos c3] at H
    have c3b0 : decide (1048576 < (l1.length : Int)) = true := decide_eq_true c3
    have c3b1 : decide (1048576 < l1.length) = true := decide_eq_true (by omega)
    clear c3
    obtain rfl := Option.some.inj H
    go_enter Try.func14, Try.ntmps14
    go_wp2
    go_ret
    exact ⟨rA, bA⟩
  · rw [if_neg c3] at H
    have c3b0 : decide (1048576 < (l1.length : Int)) = false := decide_eq_false c3
    have c3b1 : decide (1048576 < l1.length) = false := decide_eq_false (by omega)
    clear c3
    obtain ⟨t464, A4, H⟩ := bindE H
    try dsimp only at H
    by_cases c5 : t464 < 0
    · rw [if_pos c5] at H
      have c5b0 : decide (t464 < 0) = true := decide_eq_true c5
      clear c5
      obtain rfl := Option.some.inj H
      go_enter Try.func14, Try.ntmps14
      go_wp2_with (first | ((with_reducible refine gate_callee (f := 29) rfl ?_); refine gL (some 15) Try.func29 #[.slice A0 l0.length c0, .int .i64 1048576] ?_; (with_reducible refine (laws_szDetectorS.calls _ _ l0 1048576 t464 _ ?side1 ?side2 A4.out).mono ?_); (case side1 => exact cO HR0); (case side2 => exact HC0.out); rintro e w' ⟨rfl, ⟨nd, rfl⟩⟩; refine ⟨_, rfl, ?_⟩))
      go_ret
      exact ⟨rA, bA⟩
    · rw [if_neg c5] at H
      have c5b0 : decide (t464 < 0) = false := decide_eq_false c5
      clear c5
      obtain ⟨t465, A6, H⟩ := bindE H
      try dsimp only at H
      obtain ⟨t468, A7, H⟩ := bindE H
      try dsimp only at H
      obtain ⟨t471, A8, H⟩ := bindE H
      try dsimp only at H
      obtain ⟨t472, A9, H⟩ := bindE H
      try dsimp only at H
      obtain ⟨t475, A10, H⟩ := bindE H
      try dsimp only at H
      obtain ⟨t478, A11, H⟩ := bindE H
      try dsimp only at H
      have c12 : t478 = t471 := ifN H
      replace H := ifT H
      have c12b0 : (t478 == t471) = true := beq_iff_eq.mpr c12
      have c12b1 : (t478 != t471) = false := bne_eq_false_iff_eq.mpr c12
      clear c12
      obtain ⟨t479, A13, H⟩ := bindE H
      try dsimp only at H
      obtain ⟨t482, A14, H⟩ := bindE H
      try dsimp only at H
      have c15 := ifN H
      replace H := ifT H
      subst c15
      obtain ⟨t483, A16, H⟩ := bindE H
      try dsimp only at H
      obtain ⟨t486, A17, H⟩ := bindE H
      try dsimp only at H
      have c18 := ifN H
      replace H := ifT H
      subst c18
      obtain rfl := Option.some.inj H
      go_enter Try.func14, Try.ntmps14
      go_wp2_with (first | ((with_reducible refine gate_callee (f := 29) rfl ?_); refine gL (some 15) Try.func29 #[.slice A0 l0.length c0, .int .i64 1048576] ?_; (with_reducible refine (laws_szDetectorS.calls _ _ l0 1048576 t464 _ ?side1 ?side2 A4.out).mono ?_); (case side1 => exact cO HR0); (case side2 => exact HC0.out); rintro e w' ⟨rfl, ⟨nd, rfl⟩⟩; refine ⟨_, rfl, ?_⟩) | ((with_reducible refine gate_callee (f := 31) rfl ?_); refine gL (some 19) Try.func31 #[.slice A0 l0.length c0] ?_; (with_reducible refine (laws_toDetectorS.calls k _ _ l0 t465 _ ?side1 ?side2 A6.out).mono ?_); (case side1 => exact cO HR0); (case side2 => exact HC0.out); rintro e w19 ⟨v466, rfl, ho0, hb⟩; refine ⟨_, rfl, ?_⟩; have HO467 := Aside0.mk (Kd.R_lower ho0 (below_size bA)); replace HB := Aside0.mk (below_step bA hb); (try clear hb); (try clear hb2); (try clear hk); (try clear hi); (try clear ho0)) | ((with_reducible refine gate_callee (f := 22) rfl ?_); refine gL (some 21) Try.func22 #[.slice A1 l1.length c1] ?_; (with_reducible refine (laws_toIntS.calls k _ _ l1 t468 _ ?side1 ?side2 A7.out).mono ?_); (case side1 => exact cB HR1); (case side2 => exact HC1.out); rintro e w20 ⟨v469, rfl, ho0, hb⟩; refine ⟨_, rfl, ?_⟩; replace HO467 := Aside0.mk (Kd.R_below (rK HO467) hb); have HO470 := Aside0.mk (Kd.R_lower ho0 (below_size bA)); replace HB := Aside0.mk (below_step bA hb); (try clear hb); (try clear hb2); (try clear hk); (try clear hi); (try clear ho0); obtain ⟨Ao21, co21, eo21⟩ := Kd.R_slice HO467.out; subst eo21; obtain ⟨Ao22, co22, eo22⟩ := Kd.R_slice HO470.out; subst eo22) | ((with_reducible refine gate_callee (f := 56) rfl ?_); refine gL (some 22) Try.func56 #[.slice Ao21 t465.length co21, .slice Ao22 t468.length co22] ?_; (with_reducible refine (spec_StageDemand.calls k _ _ t465 _ _ t468 t471 _ ?side1 ?side2 ?side3 ?side4 A8.out).mono ?_); (case side1 => exact cO ⟨(Kd.R_reads' HO467.out).2.2⟩); (case side2 => exact (Kd.R_reads' HO467.out).2.1); (case side3 => exact cO ⟨(Kd.R_reads' HO470.out).2.2⟩); (case side4 => exact (Kd.R_reads' HO470.out).2.1); rintro e w23 ⟨rfl, hb⟩; refine ⟨_, rfl, ?_⟩; replace HO467 := Aside0.mk (Kd.R_below (rK HO467) hb); replace HO470 := Aside0.mk (Kd.R_below (rK HO470) hb); replace HB := Aside0.mk (below_step bA hb); (try clear hb); (try clear hb2); (try clear hk); (try clear hi)) | ((with_reducible refine gate_callee (f := 31) rfl ?_); refine gL (some 24) Try.func31 #[.slice A0 l0.length c0] ?_; (with_reducible refine (laws_toDetectorS.calls k _ _ l0 t472 _ ?side1 ?side2 A9.out).mono ?_); (case side1 => exact cB HR0); (case side2 => exact HC0.out); rintro e w24 ⟨v473, rfl, ho0, hb⟩; refine ⟨_, rfl, ?_⟩; replace HO470 := Aside0.mk (Kd.R_below (rK HO470) hb); have HO474 := Aside0.mk (Kd.R_lower (Kd.R_new' ho0 (Kd.R_lt (rK HO467))) (below_size bA)); replace HO467 := Aside0.mk (Kd.R_elder' (rK HO467) (Kd.R_base ho0) hb); replace HB := Aside0.mk (below_step bA hb); (try clear hb); (try clear hb2); (try clear hk); (try clear hi); (try clear ho0)) | ((with_reducible refine gate_callee (f := 22) rfl ?_); refine gL (some 26) Try.func22 #[.slice A1 l1.length c1] ?_; (with_reducible refine (laws_toIntS.calls k _ _ l1 t475 _ ?side1 ?side2 A10.out).mono ?_); (case side1 => exact cB HR1); (case side2 => exact HC1.out); rintro e w25 ⟨v476, rfl, ho0, hb⟩; refine ⟨_, rfl, ?_⟩; replace HO467 := Aside0.mk (Kd.R_below (rK HO467) hb); replace HO474 := Aside0.mk (Kd.R_below (rK HO474) hb); have HO477 := Aside0.mk (Kd.R_lower (Kd.R_new' ho0 (Kd.R_lt (rK HO470))) (below_size bA)); replace HO470 := Aside0.mk (Kd.R_elder' (rK HO470) (Kd.R_base ho0) hb); replace HB := Aside0.mk (below_step bA hb); (try clear hb); (try clear hb2); (try clear hk); (try clear hi); (try clear ho0); obtain ⟨Ao26, co26, eo26⟩ := Kd.R_slice HO474.out; subst eo26; obtain ⟨Ao27, co27, eo27⟩ := Kd.R_slice HO477.out; subst eo27) | ((with_reducible refine gate_callee (f := 57) rfl ?_); refine gL (some 29) Try.func57 #[.slice Ao26 t472.length co26, .slice Ao27 t475.length co27] ?_; (with_reducible refine (impl_StageDemand.calls k _ _ t472 _ _ t475 t478 _ ?side1 ?side2 ?side3 ?side4 A11.out).mono ?_); (case side1 => exact cO ⟨(Kd.R_reads' HO474.out).2.2⟩); (case side2 => exact (Kd.R_reads' HO474.out).2.1); (case side3 => exact cO ⟨(Kd.R_reads' HO477.out).2.2⟩); (case side4 => exact (Kd.R_reads' HO477.out).2.1); rintro e w28 ⟨rfl, hb⟩; refine ⟨_, rfl, ?_⟩; replace HO467 := Aside0.mk (Kd.R_below (rK HO467) hb); replace HO470 := Aside0.mk (Kd.R_below (rK HO470) hb); replace HO474 := Aside0.mk (Kd.R_below (rK HO474) hb); replace HO477 := Aside0.mk (Kd.R_below (rK HO477) hb); replace HB := Aside0.mk (below_step bA hb); (try clear hb); (try clear hb2); (try clear hk); (try clear hi)) | ((with_reducible refine gate_callee (f := 31) rfl ?_); refine gL (some 35) Try.func31 #[.slice A0 l0.length c0] ?_; (with_reducible refine (laws_toDetectorS.calls k _ _ l0 t479 _ ?side1 ?side2 A13.out).mono ?_); (case side1 => exact cB HR0); (case side2 => exact HC0.out); rintro e w29 ⟨v480, rfl, ho0, hb⟩; refine ⟨_, rfl, ?_⟩; replace HO470 := Aside0.mk (Kd.R_below (rK HO470) hb); replace HO477 := Aside0.mk (Kd.R_below (rK HO477) hb); have HO481 := Aside0.mk (Kd.R_lower (Kd.R_new' (Kd.R_new' ho0 (Kd.R_lt (rK HO467))) (Kd.R_lt (rK HO474))) (below_size bA)); replace HO467 := Aside0.mk (Kd.R_elder' (rK HO467) (Kd.R_base ho0) hb); replace HO474 := Aside0.mk (Kd.R_elder' (rK HO474) (Kd.R_base ho0) hb); replace HB := Aside0.mk (below_step bA hb); (try clear hb); (try clear hb2); (try clear hk); (try clear hi); (try clear ho0); obtain ⟨Ao30, co30, eo30⟩ := Kd.R_slice HO481.out; subst eo30) | ((with_reducible refine gate_callee (f := 33) rfl ?_); refine gL (some 36) Try.func33 #[.slice Ao26 t472.length co26, .slice Ao30 t479.length co30] ?_; (with_reducible refine (laws_eqDetectorS.calls k _ _ t472 _ _ t479 true _ ?side1 ?side2 ?side3 ?side4 A14.out).mono ?_); (case side1 => exact cO ⟨(Kd.R_reads' HO474.out).2.2⟩); (case side2 => exact (Kd.R_reads' HO474.out).2.1); (case side3 => exact cO ⟨(Kd.R_reads' HO481.out).2.2⟩); (case side4 => exact (Kd.R_reads' HO481.out).2.1); rintro e w31 ⟨rfl, hb⟩; refine ⟨_, rfl, ?_⟩; replace HO467 := Aside0.mk (Kd.R_below (rK HO467) hb); replace HO470 := Aside0.mk (Kd.R_below (rK HO470) hb); replace HO474 := Aside0.mk (Kd.R_below (rK HO474) hb); replace HO477 := Aside0.mk (Kd.R_below (rK HO477) hb); replace HO481 := Aside0.mk (Kd.R_below (rK HO481) hb); replace HB := Aside0.mk (below_step bA hb); (try clear hb); (try clear hb2); (try clear hk); (try clear hi)) | ((with_reducible refine gate_callee (f := 22) rfl ?_); refine gL (some 40) Try.func22 #[.slice A1 l1.length c1] ?_; (with_reducible refine (laws_toIntS.calls k _ _ l1 t483 _ ?side1 ?side2 A16.out).mono ?_); (case side1 => exact cB HR1); (case side2 => exact HC1.out); rintro e w32 ⟨v484, rfl, ho0, hb⟩; refine ⟨_, rfl, ?_⟩; replace HO467 := Aside0.mk (Kd.R_below (rK HO467) hb); replace HO474 := Aside0.mk (Kd.R_below (rK HO474) hb); replace HO481 := Aside0.mk (Kd.R_below (rK HO481) hb); have HO485 := Aside0.mk (Kd.R_lower (Kd.R_new' (Kd.R_new' ho0 (Kd.R_lt (rK HO470))) (Kd.R_lt (rK HO477))) (below_size bA)); replace HO470 := Aside0.mk (Kd.R_elder' (rK HO470) (Kd.R_base ho0) hb); replace HO477 := Aside0.mk (Kd.R_elder' (rK HO477) (Kd.R_base ho0) hb); replace HB := Aside0.mk (below_step bA hb); (try clear hb); (try clear hb2); (try clear hk); (try clear hi); (try clear ho0); obtain ⟨Ao33, co33, eo33⟩ := Kd.R_slice HO485.out; subst eo33) | ((with_reducible refine gate_callee (f := 24) rfl ?_); refine gL (some 41) Try.func24 #[.slice Ao27 t475.length co27, .slice Ao33 t483.length co33] ?_; (with_reducible refine (laws_eqIntS.calls k _ _ t475 _ _ t483 true _ ?side1 ?side2 ?side3 ?side4 A17.out).mono ?_); (case side1 => exact cO ⟨(Kd.R_reads' HO477.out).2.2⟩); (case side2 => exact (Kd.R_reads' HO477.out).2.1); (case side3 => exact cO ⟨(Kd.R_reads' HO485.out).2.2⟩); (case side4 => exact (Kd.R_reads' HO485.out).2.1); rintro e w' ⟨rfl, ⟨nd, rfl⟩⟩; refine ⟨_, rfl, ?_⟩))
      go_ret
      exact ⟨rA, bA⟩

end Go.Proofs.Ytdgeeokningcnaa.P
