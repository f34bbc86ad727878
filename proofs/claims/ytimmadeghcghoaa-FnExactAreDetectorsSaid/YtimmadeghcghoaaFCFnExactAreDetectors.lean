/- Printed by myprint.py (wip/tools) over the kit's print: what Go's functions compute, and that they do. Lean checks it. -/
import Derived.Test.YtimmadeghcghoaaF0
import Derived.Test.YtimmadeghcghoaaFI10
import Derived.Test.YtimmadeghcghoaaFLDetector
import Derived.Test.YtimmadeghcghoaaFLPath
import Derived.Test.YtimmadeghcghoaaFS10
namespace Go.Proofs.Ytimmadeghcghoaa.P
open Go.RowKit Go.Proofs.YtimmadeghcghoaaW.PrintWords Go.Proofs.YtimmadeghcghoaaW.PrintLast Go.Proofs.YtimmadeghcghoaaW.PrintMore Go.Proofs.Ytimmadeghcghoaa.Sq
attribute [local go_sem] max2_int min2_int max_two min_two max_three min_three max_four min_four
set_option linter.unusedVariables false
set_option linter.unusedSimpArgs false

/-! ### laws_FnExactAreDetectors: function 7 -/
def laws_FnExactAreDetectors.f (k : Nat) (l0 : List (S92)) (l1 : List (S100)) : Option (Bool) := (laws_szPathS.f l0 1048576).bind fun t390 => (if t390 < 0 then (some true) else ((laws_szDetectorS.f l1 t390).bind fun t391 => (if t391 < 0 then (some true) else ((laws_toPathS.f k l0).bind fun t392 => ((laws_toDetectorS.f k l1).bind fun t395 => ((spec_AreDetectors.f k t392 t395).bind fun t398 => ((laws_toPathS.f k l0).bind fun t399 => ((laws_toDetectorS.f k l1).bind fun t402 => ((impl_AreDetectors.f k t399 t402).bind fun t405 => (if (t405 != t398) = true then (none) else ((laws_toPathS.f k l0).bind fun t406 => ((laws_eqPathS.f k t399 t406).bind fun t409 => (if t409 = true then ((laws_toDetectorS.f k l1).bind fun t410 => ((laws_eqDetectorS.f k t402 t410).bind fun t413 => (if t413 = true then (some true) else (none)))) else (none))))))))))))))
theorem laws_FnExactAreDetectors.mono : ∀ a0 a1 k, LeO (laws_FnExactAreDetectors.f k a0 a1) (laws_FnExactAreDetectors.f (k + 1) a0 a1) := by
  intro a0 a1 k
  unfold laws_FnExactAreDetectors.f
  repeat' first | (with_reducible first | exact LeO.refl _ | exact LeO.none _ | refine LeO.ite ?_ ?_ | refine LeO.bind ?_ (fun _ => ?_) | exact impl_AreDetectors.mono _ _ _ | exact laws_eqDetectorS.mono _ _ _ | exact laws_eqPathS.mono _ _ _ | exact laws_toDetectorS.mono _ _ | exact laws_toPathS.mono _ _ | exact spec_AreDetectors.mono _ _ _) | exact LeO.none _ | refine LeO.ite ?_ ?_ | refine LeO.bind ?_ (fun _ => ?_) | exact impl_AreDetectors.mono _ _ _ | exact laws_eqDetectorS.mono _ _ _ | exact laws_eqPathS.mono _ _ _ | exact laws_toDetectorS.mono _ _ | exact laws_toPathS.mono _ _ | exact spec_AreDetectors.mono _ _ _
set_option maxHeartbeats 8000000 in
set_option maxRecDepth 100000 in
theorem laws_FnExactAreDetectors.calls (k : Nat) (A0 : Option Addr) (c0 : Nat) (l0 : List (S92)) (A1 : Option Addr) (c1 : Nat) (l1 : List (S100)) (r : Bool) (w : World) (hr0 : Kd.C k92 w A0 l0.length l0) (hc0 : l0.length ≤ c0) (hr1 : Kd.C k100 w A1 l1.length l1) (hc1 : l1.length ≤ c1) (h : laws_FnExactAreDetectors.f k l0 l1 = some r) :
    Calls Try.prog 7 #[.slice A0 l0.length c0, .slice A1 l1.length c1] w fun e w' => e = .returned (.bool r) ∧ Below w.heap.size w w' := by
  have HR0 := Aside0.mk hr0
  have HC0 := Aside0.mk hc0
  clear hr0 hc0
  have HR1 := Aside0.mk hr1
  have HC1 := Aside0.mk hc1
  clear hr1 hc1
  have HB := Aside0.mk (Below.refl w.heap.size w)
  have H : ((laws_szPathS.f l0 1048576).bind fun t390 => (if t390 < 0 then (some true) else ((laws_szDetectorS.f l1 t390).bind fun t391 => (if t391 < 0 then (some true) else ((laws_toPathS.f k l0).bind fun t392 => ((laws_toDetectorS.f k l1).bind fun t395 => ((spec_AreDetectors.f k t392 t395).bind fun t398 => ((laws_toPathS.f k l0).bind fun t399 => ((laws_toDetectorS.f k l1).bind fun t402 => ((impl_AreDetectors.f k t399 t402).bind fun t405 => (if (t405 != t398) = true then (none) else ((laws_toPathS.f k l0).bind fun t406 => ((laws_eqPathS.f k t399 t406).bind fun t409 => (if t409 = true then ((laws_toDetectorS.f k l1).bind fun t410 => ((laws_eqDetectorS.f k t402 t410).bind fun t413 => (if t413 = true then (some true) else (none)))) else (none))))))))))))))) = some r := h
  clear h
  obtain ⟨t390, A3, H⟩ := bindE H
  try dsimp only at H
  by_cases c4 : t390 < 0
  · rw [if_pos c4] at H
    have c4b0 : decide (t390 < 0) = true := decide_eq_true c4
    clear c4
    obtain rfl := Option.some.inj H
    go_enter Try.func7, Try.ntmps7
    go_wp2_with (first | ((with_reducible refine gate_callee (f := 31) rfl ?_); refine gL (some 12) Try.func31 #[.slice A0 l0.length c0, .int .i64 1048576] ?_; (with_reducible refine (laws_szPathS.calls _ _ l0 1048576 t390 _ ?side1 ?side2 A3.out).mono ?_); (case side1 => exact cO HR0); (case side2 => exact HC0.out); rintro e w' ⟨rfl, ⟨nd, rfl⟩⟩; refine ⟨_, rfl, ?_⟩))
    go_ret
    exact ⟨rA, bA⟩
  · rw [if_neg c4] at H
    have c4b0 : decide (t390 < 0) = false := decide_eq_false c4
    clear c4
    obtain ⟨t391, A5, H⟩ := bindE H
    try dsimp only at H
    by_cases c6 : t391 < 0
    · rw [if_pos c6] at H
      have c6b0 : decide (t391 < 0) = true := decide_eq_true c6
      clear c6
      obtain rfl := Option.some.inj H
      go_enter Try.func7, Try.ntmps7
      go_wp2_with (first | ((with_reducible refine gate_callee (f := 31) rfl ?_); refine gL (some 12) Try.func31 #[.slice A0 l0.length c0, .int .i64 1048576] ?_; (with_reducible refine (laws_szPathS.calls _ _ l0 1048576 t390 _ ?side1 ?side2 A3.out).mono ?_); (case side1 => exact cO HR0); (case side2 => exact HC0.out); rintro e w' ⟨rfl, ⟨nd, rfl⟩⟩; refine ⟨_, rfl, ?_⟩) | ((with_reducible refine gate_callee (f := 39) rfl ?_); refine gL (some 17) Try.func39 #[.slice A1 l1.length c1, .int .i64 t390] ?_; (with_reducible refine (laws_szDetectorS.calls _ _ l1 t390 t391 _ ?side1 ?side2 A5.out).mono ?_); (case side1 => exact cO HR1); (case side2 => exact HC1.out); rintro e w' ⟨rfl, ⟨nd, rfl⟩⟩; refine ⟨_, rfl, ?_⟩))
      go_ret
      exact ⟨rA, bA⟩
    · rw [if_neg c6] at H
      have c6b0 : decide (t391 < 0) = false := decide_eq_false c6
      clear c6
      obtain ⟨t392, A7, H⟩ := bindE H
      try dsimp only at H
      obtain ⟨t395, A8, H⟩ := bindE H
      try dsimp only at H
      obtain ⟨t398, A9, H⟩ := bindE H
      try dsimp only at H
      obtain ⟨t399, A10, H⟩ := bindE H
      try dsimp only at H
      obtain ⟨t402, A11, H⟩ := bindE H
      try dsimp only at H
      obtain ⟨t405, A12, H⟩ := bindE H
      try dsimp only at H
      have c13 : ¬ ((t405 != t398) = true) := ifN' H
      replace H := ifT' H
      have c13b0 : (t405 != t398) = false := by simpa using c13
      (try (have c13b1 : decide (t405 = t398) = true := by simpa using c13))
      (try (have c13b2 : (t405 == t398) = true := by simpa using c13))
      clear c13
      obtain ⟨t406, A14, H⟩ := bindE H
      try dsimp only at H
      obtain ⟨t409, A15, H⟩ := bindE H
      try dsimp only at H
      have c16 := ifN H
      replace H := ifT H
      subst c16
      obtain ⟨t410, A17, H⟩ := bindE H
      try dsimp only at H
      obtain ⟨t413, A18, H⟩ := bindE H
      try dsimp only at H
      have c19 := ifN H
      replace H := ifT H
      subst c19
      obtain rfl := Option.some.inj H
      go_enter Try.func7, Try.ntmps7
      go_wp2_with (first | ((with_reducible refine gate_callee (f := 31) rfl ?_); refine gL (some 12) Try.func31 #[.slice A0 l0.length c0, .int .i64 1048576] ?_; (with_reducible refine (laws_szPathS.calls _ _ l0 1048576 t390 _ ?side1 ?side2 A3.out).mono ?_); (case side1 => exact cO HR0); (case side2 => exact HC0.out); rintro e w' ⟨rfl, ⟨nd, rfl⟩⟩; refine ⟨_, rfl, ?_⟩) | ((with_reducible refine gate_callee (f := 39) rfl ?_); refine gL (some 17) Try.func39 #[.slice A1 l1.length c1, .int .i64 t390] ?_; (with_reducible refine (laws_szDetectorS.calls _ _ l1 t390 t391 _ ?side1 ?side2 A5.out).mono ?_); (case side1 => exact cO HR1); (case side2 => exact HC1.out); rintro e w' ⟨rfl, ⟨nd, rfl⟩⟩; refine ⟨_, rfl, ?_⟩) | ((with_reducible refine gate_callee (f := 34) rfl ?_); refine gL (some 21) Try.func34 #[.slice A0 l0.length c0] ?_; (with_reducible refine (laws_toPathS.calls k _ _ l0 t392 _ ?side1 ?side2 A7.out).mono ?_); (case side1 => exact cO HR0); (case side2 => exact HC0.out); rintro e w20 ⟨v393, rfl, ho0, hb⟩; refine ⟨_, rfl, ?_⟩; have HO394 := Aside0.mk (Kd.R_lower ho0 (below_size bA)); replace HB := Aside0.mk (below_step bA hb); (try clear hb); (try clear hb2); (try clear hk); (try clear hi); (try clear ho0)) | ((with_reducible refine gate_callee (f := 41) rfl ?_); refine gL (some 23) Try.func41 #[.slice A1 l1.length c1] ?_; (with_reducible refine (laws_toDetectorS.calls k _ _ l1 t395 _ ?side1 ?side2 A8.out).mono ?_); (case side1 => exact cB HR1); (case side2 => exact HC1.out); rintro e w21 ⟨v396, rfl, ho0, hb⟩; refine ⟨_, rfl, ?_⟩; replace HO394 := Aside0.mk (Kd.R_below (rK HO394) hb); have HO397 := Aside0.mk (Kd.R_lower ho0 (below_size bA)); replace HB := Aside0.mk (below_step bA hb); (try clear hb); (try clear hb2); (try clear hk); (try clear hi); (try clear ho0); obtain ⟨Ao22, co22, eo22⟩ := Kd.R_slice HO394.out; subst eo22; obtain ⟨Ao23, co23, eo23⟩ := Kd.R_slice HO397.out; subst eo23) | ((with_reducible refine gate_callee (f := 40) rfl ?_); refine gL (some 24) Try.func40 #[.slice Ao22 t392.length co22, .slice Ao23 t395.length co23] ?_; (with_reducible refine (spec_AreDetectors.calls k _ _ t392 _ _ t395 t398 _ ?side1 ?side2 ?side3 ?side4 A9.out).mono ?_); (case side1 => exact cO ⟨(Kd.R_reads' HO394.out).2.2⟩); (case side2 => exact (Kd.R_reads' HO394.out).2.1); (case side3 => exact cO ⟨(Kd.R_reads' HO397.out).2.2⟩); (case side4 => exact (Kd.R_reads' HO397.out).2.1); rintro e w24 ⟨rfl, hb⟩; refine ⟨_, rfl, ?_⟩; replace HO394 := Aside0.mk (Kd.R_below (rK HO394) hb); replace HO397 := Aside0.mk (Kd.R_below (rK HO397) hb); replace HB := Aside0.mk (below_step bA hb); (try clear hb); (try clear hb2); (try clear hk); (try clear hi)) | ((with_reducible refine gate_callee (f := 34) rfl ?_); refine gL (some 26) Try.func34 #[.slice A0 l0.length c0] ?_; (with_reducible refine (laws_toPathS.calls k _ _ l0 t399 _ ?side1 ?side2 A10.out).mono ?_); (case side1 => exact cB HR0); (case side2 => exact HC0.out); rintro e w25 ⟨v400, rfl, ho0, hb⟩; refine ⟨_, rfl, ?_⟩; replace HO397 := Aside0.mk (Kd.R_below (rK HO397) hb); have HO401 := Aside0.mk (Kd.R_lower (Kd.R_new' ho0 (Kd.R_lt (rK HO394))) (below_size bA)); replace HO394 := Aside0.mk (Kd.R_elder' (rK HO394) (Kd.R_base ho0) hb); replace HB := Aside0.mk (below_step bA hb); (try clear hb); (try clear hb2); (try clear hk); (try clear hi); (try clear ho0)) | ((with_reducible refine gate_callee (f := 41) rfl ?_); refine gL (some 28) Try.func41 #[.slice A1 l1.length c1] ?_; (with_reducible refine (laws_toDetectorS.calls k _ _ l1 t402 _ ?side1 ?side2 A11.out).mono ?_); (case side1 => exact cB HR1); (case side2 => exact HC1.out); rintro e w26 ⟨v403, rfl, ho0, hb⟩; refine ⟨_, rfl, ?_⟩; replace HO394 := Aside0.mk (Kd.R_below (rK HO394) hb); replace HO401 := Aside0.mk (Kd.R_below (rK HO401) hb); have HO404 := Aside0.mk (Kd.R_lower (Kd.R_new' ho0 (Kd.R_lt (rK HO397))) (below_size bA)); replace HO397 := Aside0.mk (Kd.R_elder' (rK HO397) (Kd.R_base ho0) hb); replace HB := Aside0.mk (below_step bA hb); (try clear hb); (try clear hb2); (try clear hk); (try clear hi); (try clear ho0); obtain ⟨Ao27, co27, eo27⟩ := Kd.R_slice HO401.out; subst eo27; obtain ⟨Ao28, co28, eo28⟩ := Kd.R_slice HO404.out; subst eo28) | ((with_reducible refine gate_callee (f := 42) rfl ?_); refine gL (some 31) Try.func42 #[.slice Ao27 t399.length co27, .slice Ao28 t402.length co28] ?_; (with_reducible refine (impl_AreDetectors.calls k _ _ t399 _ _ t402 t405 _ ?side1 ?side2 ?side3 ?side4 A12.out).mono ?_); (case side1 => exact cO ⟨(Kd.R_reads' HO401.out).2.2⟩); (case side2 => exact (Kd.R_reads' HO401.out).2.1); (case side3 => exact cO ⟨(Kd.R_reads' HO404.out).2.2⟩); (case side4 => exact (Kd.R_reads' HO404.out).2.1); rintro e w29 ⟨rfl, hb⟩; refine ⟨_, rfl, ?_⟩; replace HO394 := Aside0.mk (Kd.R_below (rK HO394) hb); replace HO397 := Aside0.mk (Kd.R_below (rK HO397) hb); replace HO401 := Aside0.mk (Kd.R_below (rK HO401) hb); replace HO404 := Aside0.mk (Kd.R_below (rK HO404) hb); replace HB := Aside0.mk (below_step bA hb); (try clear hb); (try clear hb2); (try clear hk); (try clear hi)) | ((with_reducible refine gate_callee (f := 34) rfl ?_); refine gL (some 37) Try.func34 #[.slice A0 l0.length c0] ?_; (with_reducible refine (laws_toPathS.calls k _ _ l0 t406 _ ?side1 ?side2 A14.out).mono ?_); (case side1 => exact cB HR0); (case side2 => exact HC0.out); rintro e w30 ⟨v407, rfl, ho0, hb⟩; refine ⟨_, rfl, ?_⟩; replace HO397 := Aside0.mk (Kd.R_below (rK HO397) hb); replace HO404 := Aside0.mk (Kd.R_below (rK HO404) hb); have HO408 := Aside0.mk (Kd.R_lower (Kd.R_new' (Kd.R_new' ho0 (Kd.R_lt (rK HO394))) (Kd.R_lt (rK HO401))) (below_size bA)); replace HO394 := Aside0.mk (Kd.R_elder' (rK HO394) (Kd.R_base ho0) hb); replace HO401 := Aside0.mk (Kd.R_elder' (rK HO401) (Kd.R_base ho0) hb); replace HB := Aside0.mk (below_step bA hb); (try clear hb); (try clear hb2); (try clear hk); (try clear hi); (try clear ho0); obtain ⟨Ao31, co31, eo31⟩ := Kd.R_slice HO408.out; subst eo31) | ((with_reducible refine gate_callee (f := 37) rfl ?_); refine gL (some 38) Try.func37 #[.slice Ao27 t399.length co27, .slice Ao31 t406.length co31] ?_; (with_reducible refine (laws_eqPathS.calls k _ _ t399 _ _ t406 true _ ?side1 ?side2 ?side3 ?side4 A15.out).mono ?_); (case side1 => exact cO ⟨(Kd.R_reads' HO401.out).2.2⟩); (case side2 => exact (Kd.R_reads' HO401.out).2.1); (case side3 => exact cO ⟨(Kd.R_reads' HO408.out).2.2⟩); (case side4 => exact (Kd.R_reads' HO408.out).2.1); rintro e w32 ⟨rfl, hb⟩; refine ⟨_, rfl, ?_⟩; replace HO394 := Aside0.mk (Kd.R_below (rK HO394) hb); replace HO397 := Aside0.mk (Kd.R_below (rK HO397) hb); replace HO401 := Aside0.mk (Kd.R_below (rK HO401) hb); replace HO404 := Aside0.mk (Kd.R_below (rK HO404) hb); replace HO408 := Aside0.mk (Kd.R_below (rK HO408) hb); replace HB := Aside0.mk (below_step bA hb); (try clear hb); (try clear hb2); (try clear hk); (try clear hi)) | ((with_reducible refine gate_callee (f := 41) rfl ?_); refine gL (some 42) Try.func41 #[.slice A1 l1.length c1] ?_; (with_reducible refine (laws_toDetectorS.calls k _ _ l1 t410 _ ?side1 ?side2 A17.out).mono ?_); (case side1 => exact cB HR1); (case side2 => exact HC1.out); rintro e w33 ⟨v411, rfl, ho0, hb⟩; refine ⟨_, rfl, ?_⟩; replace HO394 := Aside0.mk (Kd.R_below (rK HO394) hb); replace HO401 := Aside0.mk (Kd.R_below (rK HO401) hb); replace HO408 := Aside0.mk (Kd.R_below (rK HO408) hb); have HO412 := Aside0.mk (Kd.R_lower (Kd.R_new' (Kd.R_new' ho0 (Kd.R_lt (rK HO397))) (Kd.R_lt (rK HO404))) (below_size bA)); replace HO397 := Aside0.mk (Kd.R_elder' (rK HO397) (Kd.R_base ho0) hb); replace HO404 := Aside0.mk (Kd.R_elder' (rK HO404) (Kd.R_base ho0) hb); replace HB := Aside0.mk (below_step bA hb); (try clear hb); (try clear hb2); (try clear hk); (try clear hi); (try clear ho0); obtain ⟨Ao34, co34, eo34⟩ := Kd.R_slice HO412.out; subst eo34) | ((with_reducible refine gate_callee (f := 43) rfl ?_); refine gL (some 43) Try.func43 #[.slice Ao28 t402.length co28, .slice Ao34 t410.length co34] ?_; (with_reducible refine (laws_eqDetectorS.calls k _ _ t402 _ _ t410 true _ ?side1 ?side2 ?side3 ?side4 A18.out).mono ?_); (case side1 => exact cO ⟨(Kd.R_reads' HO404.out).2.2⟩); (case side2 => exact (Kd.R_reads' HO404.out).2.1); (case side3 => exact cO ⟨(Kd.R_reads' HO412.out).2.2⟩); (case side4 => exact (Kd.R_reads' HO412.out).2.1); rintro e w35 ⟨rfl, hb⟩; refine ⟨_, rfl, ?_⟩; replace HO394 := Aside0.mk (Kd.R_below (rK HO394) hb); replace HO397 := Aside0.mk (Kd.R_below (rK HO397) hb); replace HO401 := Aside0.mk (Kd.R_below (rK HO401) hb); replace HO404 := Aside0.mk (Kd.R_below (rK HO404) hb); replace HO408 := Aside0.mk (Kd.R_below (rK HO408) hb); replace HO412 := Aside0.mk (Kd.R_below (rK HO412) hb); replace HB := Aside0.mk (below_step bA hb); (try clear hb); (try clear hb2); (try clear hk); (try clear hi)))
      go_ret
      exact ⟨rA, bA⟩

end Go.Proofs.Ytimmadeghcghoaa.P
