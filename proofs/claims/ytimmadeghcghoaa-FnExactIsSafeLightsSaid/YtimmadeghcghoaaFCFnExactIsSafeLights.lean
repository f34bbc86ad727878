/- Printed by myprint.py (wip/tools) over the kit's print: what Go's functions compute, and that they do. Lean checks it. -/
import Derived.Test.YtimmadeghcghoaaF0
import Derived.Test.YtimmadeghcghoaaFI09
import Derived.Test.YtimmadeghcghoaaFLInt
import Derived.Test.YtimmadeghcghoaaFLPath
import Derived.Test.YtimmadeghcghoaaFS09
namespace Go.Proofs.Ytimmadeghcghoaa.P
open Go.RowKit Go.Proofs.YtimmadeghcghoaaW.PrintWords Go.Proofs.YtimmadeghcghoaaW.PrintLast Go.Proofs.YtimmadeghcghoaaW.PrintMore Go.Proofs.Ytimmadeghcghoaa.Sq
attribute [local go_sem] max2_int min2_int max_two min_two max_three min_three max_four min_four
set_option linter.unusedVariables false
set_option linter.unusedSimpArgs false

/-! ### laws_FnExactIsSafeLights: function 9 -/
def laws_FnExactIsSafeLights.f (k : Nat) (l0 : List (S92)) (l1 : List Int) : Option (Bool) := if (l1.length : Int) > 1048576 then (some true) else ((laws_szPathS.f l0 1048576).bind fun t555 => (if t555 < 0 then (some true) else ((laws_toPathS.f k l0).bind fun t556 => ((laws_toIntS.f k l1).bind fun t559 => ((spec_IsSafeLights.f k t556 t559).bind fun t562 => ((laws_toPathS.f k l0).bind fun t563 => ((laws_toIntS.f k l1).bind fun t566 => ((impl_IsSafeLights.f k t563 t566).bind fun t569 => (if (t569 != t562) = true then (none) else ((laws_toPathS.f k l0).bind fun t570 => ((laws_eqPathS.f k t563 t570).bind fun t573 => (if t573 = true then ((laws_toIntS.f k l1).bind fun t574 => ((laws_eqIntS.f k t566 t574).bind fun t577 => (if t577 = true then (some true) else (none)))) else (none)))))))))))))
theorem laws_FnExactIsSafeLights.mono : ∀ a0 a1 k, LeO (laws_FnExactIsSafeLights.f k a0 a1) (laws_FnExactIsSafeLights.f (k + 1) a0 a1) := by
  intro a0 a1 k
  unfold laws_FnExactIsSafeLights.f
  repeat' first | (with_reducible first | exact LeO.refl _ | exact LeO.none _ | refine LeO.ite ?_ ?_ | refine LeO.bind ?_ (fun _ => ?_) | exact impl_IsSafeLights.mono _ _ _ | exact laws_eqIntS.mono _ _ _ | exact laws_eqPathS.mono _ _ _ | exact laws_toIntS.mono _ _ | exact laws_toPathS.mono _ _ | exact spec_IsSafeLights.mono _ _ _) | exact LeO.none _ | refine LeO.ite ?_ ?_ | refine LeO.bind ?_ (fun _ => ?_) | exact impl_IsSafeLights.mono _ _ _ | exact laws_eqIntS.mono _ _ _ | exact laws_eqPathS.mono _ _ _ | exact laws_toIntS.mono _ _ | exact laws_toPathS.mono _ _ | exact spec_IsSafeLights.mono _ _ _
set_option maxHeartbeats 8000000 in
set_option maxRecDepth 100000 in
theorem laws_FnExactIsSafeLights.calls (k : Nat) (A0 : Option Addr) (c0 : Nat) (l0 : List (S92)) (A1 : Option Addr) (c1 : Nat) (l1 : List Int) (r : Bool) (w : World) (hr0 : Kd.C k92 w A0 l0.length l0) (hc0 : l0.length ≤ c0) (hr1 : Kd.C (Kd.int .i64) w A1 l1.length l1) (hc1 : l1.length ≤ c1) (h : laws_FnExactIsSafeLights.f k l0 l1 = some r) :
    Calls Try.prog 9 #[.slice A0 l0.length c0, .slice A1 l1.length c1] w fun e w' => e = .returned (.bool r) ∧ Below w.heap.size w w' := by
  have HR0 := Aside0.mk hr0
  have HC0 := Aside0.mk hc0
  clear hr0 hc0
  have HR1 := Aside0.mk hr1
  have HC1 := Aside0.mk hc1
  clear hr1 hc1
  have HB := Aside0.mk (Below.refl w.heap.size w)
  have H : (if (l1.length : Int) > 1048576 then (some true) else ((laws_szPathS.f l0 1048576).bind fun t555 => (if t555 < 0 then (some true) else ((laws_toPathS.f k l0).bind fun t556 => ((laws_toIntS.f k l1).bind fun t559 => ((spec_IsSafeLights.f k t556 t559).bind fun t562 => ((laws_toPathS.f k l0).bind fun t563 => ((laws_toIntS.f k l1).bind fun t566 => ((impl_IsSafeLights.f k t563 t566).bind fun t569 => (if (t569 != t562) = true then (none) else ((laws_toPathS.f k l0).bind fun t570 => ((laws_eqPathS.f k t563 t570).bind fun t573 => (if t573 = true then ((laws_toIntS.f k l1).bind fun t574 => ((laws_eqIntS.f k t566 t574).bind fun t577 => (if t577 = true then (some true) else (none)))) else (none)))))))))))))) = some r := h
  clear h
  by_cases c3 : (l1.length : Int) > 1048576
  · rw [if_pos c3] at H
    have c3b0 : decide (1048576 < (l1.length : Int)) = true := decide_eq_true c3
    have c3b1 : decide (1048576 < l1.length) = true := decide_eq_true (by omega)
    clear c3
    obtain rfl := Option.some.inj H
    go_enter Try.func9, Try.ntmps9
    go_wp2
    go_ret
    exact ⟨rA, bA⟩
  · rw [if_neg c3] at H
    have c3b0 : decide (1048576 < (l1.length : Int)) = false := decide_eq_false c3
    have c3b1 : decide (1048576 < l1.length) = false := decide_eq_false (by omega)
    clear c3
    obtain ⟨t555, A4, H⟩ := bindE H
    try dsimp only at H
    by_cases c5 : t555 < 0
    · rw [if_pos c5] at H
      have c5b0 : decide (t555 < 0) = true := decide_eq_true c5
      clear c5
      obtain rfl := Option.some.inj H
      go_enter Try.func9, Try.ntmps9
      go_wp2_with (first | ((with_reducible refine gate_callee (f := 31) rfl ?_); refine gL (some 15) Try.func31 #[.slice A0 l0.length c0, .int .i64 1048576] ?_; (with_reducible refine (laws_szPathS.calls _ _ l0 1048576 t555 _ ?side1 ?side2 A4.out).mono ?_); (case side1 => exact cO HR0); (case side2 => exact HC0.out); rintro e w' ⟨rfl, ⟨nd, rfl⟩⟩; refine ⟨_, rfl, ?_⟩))
      go_ret
      exact ⟨rA, bA⟩
    · rw [if_neg c5] at H
      have c5b0 : decide (t555 < 0) = false := decide_eq_false c5
      clear c5
      obtain ⟨t556, A6, H⟩ := bindE H
      try dsimp only at H
      obtain ⟨t559, A7, H⟩ := bindE H
      try dsimp only at H
      obtain ⟨t562, A8, H⟩ := bindE H
      try dsimp only at H
      obtain ⟨t563, A9, H⟩ := bindE H
      try dsimp only at H
      obtain ⟨t566, A10, H⟩ := bindE H
      try dsimp only at H
      obtain ⟨t569, A11, H⟩ := bindE H
      try dsimp only at H
      have c12 : ¬ ((t569 != t562) = true) := ifN' H
      replace H := ifT' H
      have c12b0 : (t569 != t562) = false := by simpa using c12
      (try (have c12b1 : decide (t569 = t562) = true := by simpa using c12))
      (try (have c12b2 : (t569 == t562) = true := by simpa using c12))
      clear c12
      obtain ⟨t570, A13, H⟩ := bindE H
      try dsimp only at H
      obtain ⟨t573, A14, H⟩ := bindE H
      try dsimp only at H
      have c15 := ifN H
      replace H := ifT H
      subst c15
      obtain ⟨t574, A16, H⟩ := bindE H
      try dsimp only at H
      obtain ⟨t577, A17, H⟩ := bindE H
      try dsimp only at H
      have c18 := ifN H
      replace H := ifT H
      subst c18
      obtain rfl := Option.some.inj H
      go_enter Try.func9, Try.ntmps9
      go_wp2_with (first | ((with_reducible refine gate_callee (f := 31) rfl ?_); refine gL (some 15) Try.func31 #[.slice A0 l0.length c0, .int .i64 1048576] ?_; (with_reducible refine (laws_szPathS.calls _ _ l0 1048576 t555 _ ?side1 ?side2 A4.out).mono ?_); (case side1 => exact cO HR0); (case side2 => exact HC0.out); rintro e w' ⟨rfl, ⟨nd, rfl⟩⟩; refine ⟨_, rfl, ?_⟩) | ((with_reducible refine gate_callee (f := 34) rfl ?_); refine gL (some 19) Try.func34 #[.slice A0 l0.length c0] ?_; (with_reducible refine (laws_toPathS.calls k _ _ l0 t556 _ ?side1 ?side2 A6.out).mono ?_); (case side1 => exact cO HR0); (case side2 => exact HC0.out); rintro e w19 ⟨v557, rfl, ho0, hb⟩; refine ⟨_, rfl, ?_⟩; have HO558 := Aside0.mk (Kd.R_lower ho0 (below_size bA)); replace HB := Aside0.mk (below_step bA hb); (try clear hb); (try clear hb2); (try clear hk); (try clear hi); (try clear ho0)) | ((with_reducible refine gate_callee (f := 16) rfl ?_); refine gL (some 21) Try.func16 #[.slice A1 l1.length c1] ?_; (with_reducible refine (laws_toIntS.calls k _ _ l1 t559 _ ?side1 ?side2 A7.out).mono ?_); (case side1 => exact cB HR1); (case side2 => exact HC1.out); rintro e w20 ⟨v560, rfl, ho0, hb⟩; refine ⟨_, rfl, ?_⟩; replace HO558 := Aside0.mk (Kd.R_below (rK HO558) hb); have HO561 := Aside0.mk (Kd.R_lower ho0 (below_size bA)); replace HB := Aside0.mk (below_step bA hb); (try clear hb); (try clear hb2); (try clear hk); (try clear hi); (try clear ho0); obtain ⟨Ao21, co21, eo21⟩ := Kd.R_slice HO558.out; subst eo21; obtain ⟨Ao22, co22, eo22⟩ := Kd.R_slice HO561.out; subst eo22) | ((with_reducible refine gate_callee (f := 48) rfl ?_); refine gL (some 22) Try.func48 #[.slice Ao21 t556.length co21, .slice Ao22 t559.length co22] ?_; (with_reducible refine (spec_IsSafeLights.calls k _ _ t556 _ _ t559 t562 _ ?side1 ?side2 ?side3 ?side4 A8.out).mono ?_); (case side1 => exact cO ⟨(Kd.R_reads' HO558.out).2.2⟩); (case side2 => exact (Kd.R_reads' HO558.out).2.1); (case side3 => exact cO ⟨(Kd.R_reads' HO561.out).2.2⟩); (case side4 => exact (Kd.R_reads' HO561.out).2.1); rintro e w23 ⟨rfl, hb⟩; refine ⟨_, rfl, ?_⟩; replace HO558 := Aside0.mk (Kd.R_below (rK HO558) hb); replace HO561 := Aside0.mk (Kd.R_below (rK HO561) hb); replace HB := Aside0.mk (below_step bA hb); (try clear hb); (try clear hb2); (try clear hk); (try clear hi)) | ((with_reducible refine gate_callee (f := 34) rfl ?_); refine gL (some 24) Try.func34 #[.slice A0 l0.length c0] ?_; (with_reducible refine (laws_toPathS.calls k _ _ l0 t563 _ ?side1 ?side2 A9.out).mono ?_); (case side1 => exact cB HR0); (case side2 => exact HC0.out); rintro e w24 ⟨v564, rfl, ho0, hb⟩; refine ⟨_, rfl, ?_⟩; replace HO561 := Aside0.mk (Kd.R_below (rK HO561) hb); have HO565 := Aside0.mk (Kd.R_lower (Kd.R_new' ho0 (Kd.R_lt (rK HO558))) (below_size bA)); replace HO558 := Aside0.mk (Kd.R_elder' (rK HO558) (Kd.R_base ho0) hb); replace HB := Aside0.mk (below_step bA hb); (try clear hb); (try clear hb2); (try clear hk); (try clear hi); (try clear ho0)) | ((with_reducible refine gate_callee (f := 16) rfl ?_); refine gL (some 26) Try.func16 #[.slice A1 l1.length c1] ?_; (with_reducible refine (laws_toIntS.calls k _ _ l1 t566 _ ?side1 ?side2 A10.out).mono ?_); (case side1 => exact cB HR1); (case side2 => exact HC1.out); rintro e w25 ⟨v567, rfl, ho0, hb⟩; refine ⟨_, rfl, ?_⟩; replace HO558 := Aside0.mk (Kd.R_below (rK HO558) hb); replace HO565 := Aside0.mk (Kd.R_below (rK HO565) hb); have HO568 := Aside0.mk (Kd.R_lower (Kd.R_new' ho0 (Kd.R_lt (rK HO561))) (below_size bA)); replace HO561 := Aside0.mk (Kd.R_elder' (rK HO561) (Kd.R_base ho0) hb); replace HB := Aside0.mk (below_step bA hb); (try clear hb); (try clear hb2); (try clear hk); (try clear hi); (try clear ho0); obtain ⟨Ao26, co26, eo26⟩ := Kd.R_slice HO565.out; subst eo26; obtain ⟨Ao27, co27, eo27⟩ := Kd.R_slice HO568.out; subst eo27) | ((with_reducible refine gate_callee (f := 49) rfl ?_); refine gL (some 29) Try.func49 #[.slice Ao26 t563.length co26, .slice Ao27 t566.length co27] ?_; (with_reducible refine (impl_IsSafeLights.calls k _ _ t563 _ _ t566 t569 _ ?side1 ?side2 ?side3 ?side4 A11.out).mono ?_); (case side1 => exact cO ⟨(Kd.R_reads' HO565.out).2.2⟩); (case side2 => exact (Kd.R_reads' HO565.out).2.1); (case side3 => exact cO ⟨(Kd.R_reads' HO568.out).2.2⟩); (case side4 => exact (Kd.R_reads' HO568.out).2.1); rintro e w28 ⟨rfl, hb⟩; refine ⟨_, rfl, ?_⟩; replace HO558 := Aside0.mk (Kd.R_below (rK HO558) hb); replace HO561 := Aside0.mk (Kd.R_below (rK HO561) hb); replace HO565 := Aside0.mk (Kd.R_below (rK HO565) hb); replace HO568 := Aside0.mk (Kd.R_below (rK HO568) hb); replace HB := Aside0.mk (below_step bA hb); (try clear hb); (try clear hb2); (try clear hk); (try clear hi)) | ((with_reducible refine gate_callee (f := 34) rfl ?_); refine gL (some 35) Try.func34 #[.slice A0 l0.length c0] ?_; (with_reducible refine (laws_toPathS.calls k _ _ l0 t570 _ ?side1 ?side2 A13.out).mono ?_); (case side1 => exact cB HR0); (case side2 => exact HC0.out); rintro e w29 ⟨v571, rfl, ho0, hb⟩; refine ⟨_, rfl, ?_⟩; replace HO561 := Aside0.mk (Kd.R_below (rK HO561) hb); replace HO568 := Aside0.mk (Kd.R_below (rK HO568) hb); have HO572 := Aside0.mk (Kd.R_lower (Kd.R_new' (Kd.R_new' ho0 (Kd.R_lt (rK HO558))) (Kd.R_lt (rK HO565))) (below_size bA)); replace HO558 := Aside0.mk (Kd.R_elder' (rK HO558) (Kd.R_base ho0) hb); replace HO565 := Aside0.mk (Kd.R_elder' (rK HO565) (Kd.R_base ho0) hb); replace HB := Aside0.mk (below_step bA hb); (try clear hb); (try clear hb2); (try clear hk); (try clear hi); (try clear ho0); obtain ⟨Ao30, co30, eo30⟩ := Kd.R_slice HO572.out; subst eo30) | ((with_reducible refine gate_callee (f := 37) rfl ?_); refine gL (some 36) Try.func37 #[.slice Ao26 t563.length co26, .slice Ao30 t570.length co30] ?_; (with_reducible refine (laws_eqPathS.calls k _ _ t563 _ _ t570 true _ ?side1 ?side2 ?side3 ?side4 A14.out).mono ?_); (case side1 => exact cO ⟨(Kd.R_reads' HO565.out).2.2⟩); (case side2 => exact (Kd.R_reads' HO565.out).2.1); (case side3 => exact cO ⟨(Kd.R_reads' HO572.out).2.2⟩); (case side4 => exact (Kd.R_reads' HO572.out).2.1); rintro e w31 ⟨rfl, hb⟩; refine ⟨_, rfl, ?_⟩; replace HO558 := Aside0.mk (Kd.R_below (rK HO558) hb); replace HO561 := Aside0.mk (Kd.R_below (rK HO561) hb); replace HO565 := Aside0.mk (Kd.R_below (rK HO565) hb); replace HO568 := Aside0.mk (Kd.R_below (rK HO568) hb); replace HO572 := Aside0.mk (Kd.R_below (rK HO572) hb); replace HB := Aside0.mk (below_step bA hb); (try clear hb); (try clear hb2); (try clear hk); (try clear hi)) | ((with_reducible refine gate_callee (f := 16) rfl ?_); refine gL (some 40) Try.func16 #[.slice A1 l1.length c1] ?_; (with_reducible refine (laws_toIntS.calls k _ _ l1 t574 _ ?side1 ?side2 A16.out).mono ?_); (case side1 => exact cB HR1); (case side2 => exact HC1.out); rintro e w32 ⟨v575, rfl, ho0, hb⟩; refine ⟨_, rfl, ?_⟩; replace HO558 := Aside0.mk (Kd.R_below (rK HO558) hb); replace HO565 := Aside0.mk (Kd.R_below (rK HO565) hb); replace HO572 := Aside0.mk (Kd.R_below (rK HO572) hb); have HO576 := Aside0.mk (Kd.R_lower (Kd.R_new' (Kd.R_new' ho0 (Kd.R_lt (rK HO561))) (Kd.R_lt (rK HO568))) (below_size bA)); replace HO561 := Aside0.mk (Kd.R_elder' (rK HO561) (Kd.R_base ho0) hb); replace HO568 := Aside0.mk (Kd.R_elder' (rK HO568) (Kd.R_base ho0) hb); replace HB := Aside0.mk (below_step bA hb); (try clear hb); (try clear hb2); (try clear hk); (try clear hi); (try clear ho0); obtain ⟨Ao33, co33, eo33⟩ := Kd.R_slice HO576.out; subst eo33) | ((with_reducible refine gate_callee (f := 19) rfl ?_); refine gL (some 41) Try.func19 #[.slice Ao27 t566.length co27, .slice Ao33 t574.length co33] ?_; (with_reducible refine (laws_eqIntS.calls k _ _ t566 _ _ t574 true _ ?side1 ?side2 ?side3 ?side4 A17.out).mono ?_); (case side1 => exact cO ⟨(Kd.R_reads' HO568.out).2.2⟩); (case side2 => exact (Kd.R_reads' HO568.out).2.1); (case side3 => exact cO ⟨(Kd.R_reads' HO576.out).2.2⟩); (case side4 => exact (Kd.R_reads' HO576.out).2.1); rintro e w' ⟨rfl, ⟨nd, rfl⟩⟩; refine ⟨_, rfl, ?_⟩))
      go_ret
      exact ⟨rA, bA⟩

end Go.Proofs.Ytimmadeghcghoaa.P
