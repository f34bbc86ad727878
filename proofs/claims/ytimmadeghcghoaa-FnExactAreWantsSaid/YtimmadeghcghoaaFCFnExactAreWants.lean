/- Printed by myprint.py (wip/tools) over the kit's print: what Go's functions compute, and that they do. Lean checks it. -/
import Derived.Test.YtimmadeghcghoaaF0
import Derived.Test.YtimmadeghcghoaaFI15
import Derived.Test.YtimmadeghcghoaaFLPath
import Derived.Test.YtimmadeghcghoaaFLWant
import Derived.Test.YtimmadeghcghoaaFS15
namespace Go.Proofs.Ytimmadeghcghoaa.P
open Go.RowKit Go.Proofs.YtimmadeghcghoaaW.PrintWords Go.Proofs.YtimmadeghcghoaaW.PrintLast Go.Proofs.YtimmadeghcghoaaW.PrintMore Go.Proofs.Ytimmadeghcghoaa.Sq
attribute [local go_sem] max2_int min2_int max_two min_two max_three min_three max_four min_four
set_option linter.unusedVariables false
set_option linter.unusedSimpArgs false

/-! ### laws_FnExactAreWants: function 6 -/
def laws_FnExactAreWants.f (k : Nat) (l0 : List (S92)) (l1 : List (S94)) : Option (Bool) := (laws_szPathS.f l0 1048576).bind fun t328 => (if t328 < 0 then (some true) else ((laws_szWantS.f l1 t328).bind fun t329 => (if t329 < 0 then (some true) else ((laws_toPathS.f k l0).bind fun t330 => ((laws_toWantS.f k l1).bind fun t333 => ((spec_AreWants.f k t330 t333).bind fun t336 => ((laws_toPathS.f k l0).bind fun t337 => ((laws_toWantS.f k l1).bind fun t340 => ((impl_AreWants.f k t337 t340).bind fun t343 => (if (t343 != t336) = true then (none) else ((laws_toPathS.f k l0).bind fun t344 => ((laws_eqPathS.f k t337 t344).bind fun t347 => (if t347 = true then ((laws_toWantS.f k l1).bind fun t348 => ((laws_eqWantS.f k t340 t348).bind fun t351 => (if t351 = true then (some true) else (none)))) else (none))))))))))))))
theorem laws_FnExactAreWants.mono : ∀ a0 a1 k, LeO (laws_FnExactAreWants.f k a0 a1) (laws_FnExactAreWants.f (k + 1) a0 a1) := by
  intro a0 a1 k
  unfold laws_FnExactAreWants.f
  repeat' first | (with_reducible first | exact LeO.refl _ | exact LeO.none _ | refine LeO.ite ?_ ?_ | refine LeO.bind ?_ (fun _ => ?_) | exact impl_AreWants.mono _ _ _ | exact laws_eqPathS.mono _ _ _ | exact laws_eqWantS.mono _ _ _ | exact laws_toPathS.mono _ _ | exact laws_toWantS.mono _ _ | exact spec_AreWants.mono _ _ _) | exact LeO.none _ | refine LeO.ite ?_ ?_ | refine LeO.bind ?_ (fun _ => ?_) | exact impl_AreWants.mono _ _ _ | exact laws_eqPathS.mono _ _ _ | exact laws_eqWantS.mono _ _ _ | exact laws_toPathS.mono _ _ | exact laws_toWantS.mono _ _ | exact spec_AreWants.mono _ _ _
set_option maxHeartbeats 8000000 in
set_option maxRecDepth 100000 in
theorem laws_FnExactAreWants.calls (k : Nat) (A0 : Option Addr) (c0 : Nat) (l0 : List (S92)) (A1 : Option Addr) (c1 : Nat) (l1 : List (S94)) (r : Bool) (w : World) (hr0 : Kd.C k92 w A0 l0.length l0) (hc0 : l0.length ≤ c0) (hr1 : Kd.C k94 w A1 l1.length l1) (hc1 : l1.length ≤ c1) (h : laws_FnExactAreWants.f k l0 l1 = some r) :
    Calls Try.prog 6 #[.slice A0 l0.length c0, .slice A1 l1.length c1] w fun e w' => e = .returned (.bool r) ∧ Below w.heap.size w w' := by
  have HR0 := Aside0.mk hr0
  have HC0 := Aside0.mk hc0
  clear hr0 hc0
  have HR1 := Aside0.mk hr1
  have HC1 := Aside0.mk hc1
  clear hr1 hc1
  have HB := Aside0.mk (Below.refl w.heap.size w)
  have H : ((laws_szPathS.f l0 1048576).bind fun t328 => (if t328 < 0 then (some true) else ((laws_szWantS.f l1 t328).bind fun t329 => (if t329 < 0 then (some true) else ((laws_toPathS.f k l0).bind fun t330 => ((laws_toWantS.f k l1).bind fun t333 => ((spec_AreWants.f k t330 t333).bind fun t336 => ((laws_toPathS.f k l0).bind fun t337 => ((laws_toWantS.f k l1).bind fun t340 => ((impl_AreWants.f k t337 t340).bind fun t343 => (if (t343 != t336) = true then (none) else ((laws_toPathS.f k l0).bind fun t344 => ((laws_eqPathS.f k t337 t344).bind fun t347 => (if t347 = true then ((laws_toWantS.f k l1).bind fun t348 => ((laws_eqWantS.f k t340 t348).bind fun t351 => (if t351 = true then (some true) else (none)))) else (none))))))))))))))) = some r := h
  clear h
  obtain ⟨t328, A3, H⟩ := bindE H
  try dsimp only at H
  by_cases c4 : t328 < 0
  · rw [if_pos c4] at H
    have c4b0 : decide (t328 < 0) = true := decide_eq_true c4
    clear c4
    obtain rfl := Option.some.inj H
    go_enter Try.func6, Try.ntmps6
    go_wp2_with (first | ((with_reducible refine gate_callee (f := 31) rfl ?_); refine gL (some 12) Try.func31 #[.slice A0 l0.length c0, .int .i64 1048576] ?_; (with_reducible refine (laws_szPathS.calls _ _ l0 1048576 t328 _ ?side1 ?side2 A3.out).mono ?_); (case side1 => exact cO HR0); (case side2 => exact HC0.out); rintro e w' ⟨rfl, ⟨nd, rfl⟩⟩; refine ⟨_, rfl, ?_⟩))
    go_ret
    exact ⟨rA, bA⟩
  · rw [if_neg c4] at H
    have c4b0 : decide (t328 < 0) = false := decide_eq_false c4
    clear c4
    obtain ⟨t329, A5, H⟩ := bindE H
    try dsimp only at H
    by_cases c6 : t329 < 0
    · rw [if_pos c6] at H
      have c6b0 : decide (t329 < 0) = true := decide_eq_true c6
      clear c6
      obtain rfl := Option.some.inj H
      go_enter Try.func6, Try.ntmps6
      go_wp2_with (first | ((with_reducible refine gate_callee (f := 31) rfl ?_); refine gL (some 12) Try.func31 #[.slice A0 l0.length c0, .int .i64 1048576] ?_; (with_reducible refine (laws_szPathS.calls _ _ l0 1048576 t328 _ ?side1 ?side2 A3.out).mono ?_); (case side1 => exact cO HR0); (case side2 => exact HC0.out); rintro e w' ⟨rfl, ⟨nd, rfl⟩⟩; refine ⟨_, rfl, ?_⟩) | ((with_reducible refine gate_callee (f := 32) rfl ?_); refine gL (some 17) Try.func32 #[.slice A1 l1.length c1, .int .i64 t328] ?_; (with_reducible refine (laws_szWantS.calls _ _ l1 t328 t329 _ ?side1 ?side2 A5.out).mono ?_); (case side1 => exact cO HR1); (case side2 => exact HC1.out); rintro e w' ⟨rfl, ⟨nd, rfl⟩⟩; refine ⟨_, rfl, ?_⟩))
      go_ret
      exact ⟨rA, bA⟩
    · rw [if_neg c6] at H
      have c6b0 : decide (t329 < 0) = false := decide_eq_false c6
      clear c6
      obtain ⟨t330, A7, H⟩ := bindE H
      try dsimp only at H
      obtain ⟨t333, A8, H⟩ := bindE H
      try dsimp only at H
      obtain ⟨t336, A9, H⟩ := bindE H
      try dsimp only at H
      obtain ⟨t337, A10, H⟩ := bindE H
      try dsimp only at H
      obtain ⟨t340, A11, H⟩ := bindE H
      try dsimp only at H
      obtain ⟨t343, A12, H⟩ := bindE H
      try dsimp only at H
      have c13 : ¬ ((t343 != t336) = true) := ifN' H
      replace H := ifT' H
      have c13b0 : (t343 != t336) = false := by simpa using c13
      (try (have c13b1 : decide (t343 = t336) = true := by simpa using c13))
      (try (have c13b2 : (t343 == t336) = true := by simpa using c13))
      clear c13
      obtain ⟨t344, A14, H⟩ := bindE H
      try dsimp only at H
      obtain ⟨t347, A15, H⟩ := bindE H
      try dsimp only at H
      have c16 := ifN H
      replace H := ifT H
      subst c16
      obtain ⟨t348, A17, H⟩ := bindE H
      try dsimp only at H
      obtain ⟨t351, A18, H⟩ := bindE H
      try dsimp only at H
      have c19 := ifN H
      replace H := ifT H
      subst c19
      obtain rfl := Option.some.inj H
      go_enter Try.func6, Try.ntmps6
      go_wp2_with (first | ((with_reducible refine gate_callee (f := 31) rfl ?_); refine gL (some 12) Try.func31 #[.slice A0 l0.length c0, .int .i64 1048576] ?_; (with_reducible refine (laws_szPathS.calls _ _ l0 1048576 t328 _ ?side1 ?side2 A3.out).mono ?_); (case side1 => exact cO HR0); (case side2 => exact HC0.out); rintro e w' ⟨rfl, ⟨nd, rfl⟩⟩; refine ⟨_, rfl, ?_⟩) | ((with_reducible refine gate_callee (f := 32) rfl ?_); refine gL (some 17) Try.func32 #[.slice A1 l1.length c1, .int .i64 t328] ?_; (with_reducible refine (laws_szWantS.calls _ _ l1 t328 t329 _ ?side1 ?side2 A5.out).mono ?_); (case side1 => exact cO HR1); (case side2 => exact HC1.out); rintro e w' ⟨rfl, ⟨nd, rfl⟩⟩; refine ⟨_, rfl, ?_⟩) | ((with_reducible refine gate_callee (f := 34) rfl ?_); refine gL (some 21) Try.func34 #[.slice A0 l0.length c0] ?_; (with_reducible refine (laws_toPathS.calls k _ _ l0 t330 _ ?side1 ?side2 A7.out).mono ?_); (case side1 => exact cO HR0); (case side2 => exact HC0.out); rintro e w20 ⟨v331, rfl, ho0, hb⟩; refine ⟨_, rfl, ?_⟩; have HO332 := Aside0.mk (Kd.R_lower ho0 (below_size bA)); replace HB := Aside0.mk (below_step bA hb); (try clear hb); (try clear hb2); (try clear hk); (try clear hi); (try clear ho0)) | ((with_reducible refine gate_callee (f := 35) rfl ?_); refine gL (some 23) Try.func35 #[.slice A1 l1.length c1] ?_; (with_reducible refine (laws_toWantS.calls k _ _ l1 t333 _ ?side1 ?side2 A8.out).mono ?_); (case side1 => exact cB HR1); (case side2 => exact HC1.out); rintro e w21 ⟨v334, rfl, ho0, hb⟩; refine ⟨_, rfl, ?_⟩; replace HO332 := Aside0.mk (Kd.R_below (rK HO332) hb); have HO335 := Aside0.mk (Kd.R_lower ho0 (below_size bA)); replace HB := Aside0.mk (below_step bA hb); (try clear hb); (try clear hb2); (try clear hk); (try clear hi); (try clear ho0); obtain ⟨Ao22, co22, eo22⟩ := Kd.R_slice HO332.out; subst eo22; obtain ⟨Ao23, co23, eo23⟩ := Kd.R_slice HO335.out; subst eo23) | ((with_reducible refine gate_callee (f := 33) rfl ?_); refine gL (some 24) Try.func33 #[.slice Ao22 t330.length co22, .slice Ao23 t333.length co23] ?_; (with_reducible refine (spec_AreWants.calls k _ _ t330 _ _ t333 t336 _ ?side1 ?side2 ?side3 ?side4 A9.out).mono ?_); (case side1 => exact cO ⟨(Kd.R_reads' HO332.out).2.2⟩); (case side2 => exact (Kd.R_reads' HO332.out).2.1); (case side3 => exact cO ⟨(Kd.R_reads' HO335.out).2.2⟩); (case side4 => exact (Kd.R_reads' HO335.out).2.1); rintro e w24 ⟨rfl, hb⟩; refine ⟨_, rfl, ?_⟩; replace HO332 := Aside0.mk (Kd.R_below (rK HO332) hb); replace HO335 := Aside0.mk (Kd.R_below (rK HO335) hb); replace HB := Aside0.mk (below_step bA hb); (try clear hb); (try clear hb2); (try clear hk); (try clear hi)) | ((with_reducible refine gate_callee (f := 34) rfl ?_); refine gL (some 26) Try.func34 #[.slice A0 l0.length c0] ?_; (with_reducible refine (laws_toPathS.calls k _ _ l0 t337 _ ?side1 ?side2 A10.out).mono ?_); (case side1 => exact cB HR0); (case side2 => exact HC0.out); rintro e w25 ⟨v338, rfl, ho0, hb⟩; refine ⟨_, rfl, ?_⟩; replace HO335 := Aside0.mk (Kd.R_below (rK HO335) hb); have HO339 := Aside0.mk (Kd.R_lower (Kd.R_new' ho0 (Kd.R_lt (rK HO332))) (below_size bA)); replace HO332 := Aside0.mk (Kd.R_elder' (rK HO332) (Kd.R_base ho0) hb); replace HB := Aside0.mk (below_step bA hb); (try clear hb); (try clear hb2); (try clear hk); (try clear hi); (try clear ho0)) | ((with_reducible refine gate_callee (f := 35) rfl ?_); refine gL (some 28) Try.func35 #[.slice A1 l1.length c1] ?_; (with_reducible refine (laws_toWantS.calls k _ _ l1 t340 _ ?side1 ?side2 A11.out).mono ?_); (case side1 => exact cB HR1); (case side2 => exact HC1.out); rintro e w26 ⟨v341, rfl, ho0, hb⟩; refine ⟨_, rfl, ?_⟩; replace HO332 := Aside0.mk (Kd.R_below (rK HO332) hb); replace HO339 := Aside0.mk (Kd.R_below (rK HO339) hb); have HO342 := Aside0.mk (Kd.R_lower (Kd.R_new' ho0 (Kd.R_lt (rK HO335))) (below_size bA)); replace HO335 := Aside0.mk (Kd.R_elder' (rK HO335) (Kd.R_base ho0) hb); replace HB := Aside0.mk (below_step bA hb); (try clear hb); (try clear hb2); (try clear hk); (try clear hi); (try clear ho0); obtain ⟨Ao27, co27, eo27⟩ := Kd.R_slice HO339.out; subst eo27; obtain ⟨Ao28, co28, eo28⟩ := Kd.R_slice HO342.out; subst eo28) | ((with_reducible refine gate_callee (f := 36) rfl ?_); refine gL (some 31) Try.func36 #[.slice Ao27 t337.length co27, .slice Ao28 t340.length co28] ?_; (with_reducible refine (impl_AreWants.calls k _ _ t337 _ _ t340 t343 _ ?side1 ?side2 ?side3 ?side4 A12.out).mono ?_); (case side1 => exact cO ⟨(Kd.R_reads' HO339.out).2.2⟩); (case side2 => exact (Kd.R_reads' HO339.out).2.1); (case side3 => exact cO ⟨(Kd.R_reads' HO342.out).2.2⟩); (case side4 => exact (Kd.R_reads' HO342.out).2.1); rintro e w29 ⟨rfl, hb⟩; refine ⟨_, rfl, ?_⟩; replace HO332 := Aside0.mk (Kd.R_below (rK HO332) hb); replace HO335 := Aside0.mk (Kd.R_below (rK HO335) hb); replace HO339 := Aside0.mk (Kd.R_below (rK HO339) hb); replace HO342 := Aside0.mk (Kd.R_below (rK HO342) hb); replace HB := Aside0.mk (below_step bA hb); (try clear hb); (try clear hb2); (try clear hk); (try clear hi)) | ((with_reducible refine gate_callee (f := 34) rfl ?_); refine gL (some 37) Try.func34 #[.slice A0 l0.length c0] ?_; (with_reducible refine (laws_toPathS.calls k _ _ l0 t344 _ ?side1 ?side2 A14.out).mono ?_); (case side1 => exact cB HR0); (case side2 => exact HC0.out); rintro e w30 ⟨v345, rfl, ho0, hb⟩; refine ⟨_, rfl, ?_⟩; replace HO335 := Aside0.mk (Kd.R_below (rK HO335) hb); replace HO342 := Aside0.mk (Kd.R_below (rK HO342) hb); have HO346 := Aside0.mk (Kd.R_lower (Kd.R_new' (Kd.R_new' ho0 (Kd.R_lt (rK HO332))) (Kd.R_lt (rK HO339))) (below_size bA)); replace HO332 := Aside0.mk (Kd.R_elder' (rK HO332) (Kd.R_base ho0) hb); replace HO339 := Aside0.mk (Kd.R_elder' (rK HO339) (Kd.R_base ho0) hb); replace HB := Aside0.mk (below_step bA hb); (try clear hb); (try clear hb2); (try clear hk); (try clear hi); (try clear ho0); obtain ⟨Ao31, co31, eo31⟩ := Kd.R_slice HO346.out; subst eo31) | ((with_reducible refine gate_callee (f := 37) rfl ?_); refine gL (some 38) Try.func37 #[.slice Ao27 t337.length co27, .slice Ao31 t344.length co31] ?_; (with_reducible refine (laws_eqPathS.calls k _ _ t337 _ _ t344 true _ ?side1 ?side2 ?side3 ?side4 A15.out).mono ?_); (case side1 => exact cO ⟨(Kd.R_reads' HO339.out).2.2⟩); (case side2 => exact (Kd.R_reads' HO339.out).2.1); (case side3 => exact cO ⟨(Kd.R_reads' HO346.out).2.2⟩); (case side4 => exact (Kd.R_reads' HO346.out).2.1); rintro e w32 ⟨rfl, hb⟩; refine ⟨_, rfl, ?_⟩; replace HO332 := Aside0.mk (Kd.R_below (rK HO332) hb); replace HO335 := Aside0.mk (Kd.R_below (rK HO335) hb); replace HO339 := Aside0.mk (Kd.R_below (rK HO339) hb); replace HO342 := Aside0.mk (Kd.R_below (rK HO342) hb); replace HO346 := Aside0.mk (Kd.R_below (rK HO346) hb); replace HB := Aside0.mk (below_step bA hb); (try clear hb); (try clear hb2); (try clear hk); (try clear hi)) | ((with_reducible refine gate_callee (f := 35) rfl ?_); refine gL (some 42) Try.func35 #[.slice A1 l1.length c1] ?_; (with_reducible refine (laws_toWantS.calls k _ _ l1 t348 _ ?side1 ?side2 A17.out).mono ?_); (case side1 => exact cB HR1); (case side2 => exact HC1.out); rintro e w33 ⟨v349, rfl, ho0, hb⟩; refine ⟨_, rfl, ?_⟩; replace HO332 := Aside0.mk (Kd.R_below (rK HO332) hb); replace HO339 := Aside0.mk (Kd.R_below (rK HO339) hb); replace HO346 := Aside0.mk (Kd.R_below (rK HO346) hb); have HO350 := Aside0.mk (Kd.R_lower (Kd.R_new' (Kd.R_new' ho0 (Kd.R_lt (rK HO335))) (Kd.R_lt (rK HO342))) (below_size bA)); replace HO335 := Aside0.mk (Kd.R_elder' (rK HO335) (Kd.R_base ho0) hb); replace HO342 := Aside0.mk (Kd.R_elder' (rK HO342) (Kd.R_base ho0) hb); replace HB := Aside0.mk (below_step bA hb); (try clear hb); (try clear hb2); (try clear hk); (try clear hi); (try clear ho0); obtain ⟨Ao34, co34, eo34⟩ := Kd.R_slice HO350.out; subst eo34) | ((with_reducible refine gate_callee (f := 38) rfl ?_); refine gL (some 43) Try.func38 #[.slice Ao28 t340.length co28, .slice Ao34 t348.length co34] ?_; (with_reducible refine (laws_eqWantS.calls k _ _ t340 _ _ t348 true _ ?side1 ?side2 ?side3 ?side4 A18.out).mono ?_); (case side1 => exact cO ⟨(Kd.R_reads' HO342.out).2.2⟩); (case side2 => exact (Kd.R_reads' HO342.out).2.1); (case side3 => exact cO ⟨(Kd.R_reads' HO350.out).2.2⟩); (case side4 => exact (Kd.R_reads' HO350.out).2.1); rintro e w35 ⟨rfl, hb⟩; refine ⟨_, rfl, ?_⟩; replace HO332 := Aside0.mk (Kd.R_below (rK HO332) hb); replace HO335 := Aside0.mk (Kd.R_below (rK HO335) hb); replace HO339 := Aside0.mk (Kd.R_below (rK HO339) hb); replace HO342 := Aside0.mk (Kd.R_below (rK HO342) hb); replace HO346 := Aside0.mk (Kd.R_below (rK HO346) hb); replace HO350 := Aside0.mk (Kd.R_below (rK HO350) hb); replace HB := Aside0.mk (below_step bA hb); (try clear hb); (try clear hb2); (try clear hk); (try clear hi)))
      go_ret
      exact ⟨rA, bA⟩

end Go.Proofs.Ytimmadeghcghoaa.P
