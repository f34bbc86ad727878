/- Printed by myprint.py (wip/tools) over the kit's print: what Go's functions compute, and that they do. Lean checks it. -/
import Derived.Test.YtbpnbflfpgakmaaF0
import Derived.Test.YtbpnbflfpgakmaaFI08
import Derived.Test.YtbpnbflfpgakmaaFLPart
import Derived.Test.YtbpnbflfpgakmaaFLPath
import Derived.Test.YtbpnbflfpgakmaaFS08
namespace Go.Proofs.Ytbpnbflfpgakmaa.P
open Go.RowKit Go.Proofs.YtbpnbflfpgakmaaW.PrintWords Go.Proofs.YtbpnbflfpgakmaaW.PrintLast Go.Proofs.YtbpnbflfpgakmaaW.PrintMore Go.Proofs.Ytbpnbflfpgakmaa.Sq
attribute [local go_sem] max2_int min2_int max_two min_two max_three min_three max_four min_four
set_option linter.unusedVariables false
set_option linter.unusedSimpArgs false

/-! ### laws_FnExactIsPlan: function 3 -/
def laws_FnExactIsPlan.f (k : Nat) (l0 : List (S60)) (l1 : List (S49)) : Option (Bool) := (laws_szPathS.f l0 1048576).bind fun t279 => (if t279 < 0 then (some true) else ((laws_szPartS.f k l1 t279).bind fun t280 => (if t280 < 0 then (some true) else ((laws_toPathS.f k l0).bind fun t281 => ((laws_toPartS.f k l1).bind fun t284 => ((spec_IsPlan.f k t281 t284).bind fun t287 => ((laws_toPathS.f k l0).bind fun t288 => ((laws_toPartS.f k l1).bind fun t291 => ((impl_IsPlan.f k t288 t291).bind fun t294 => (if (t294 != t287) = true then (none) else ((laws_toPathS.f k l0).bind fun t295 => ((laws_eqPathS.f k t288 t295).bind fun t298 => (if t298 = true then ((laws_toPartS.f k l1).bind fun t299 => ((laws_eqPartS.f k t291 t299).bind fun t302 => (if t302 = true then (some true) else (none)))) else (none))))))))))))))
theorem laws_FnExactIsPlan.mono : ∀ a0 a1 k, LeO (laws_FnExactIsPlan.f k a0 a1) (laws_FnExactIsPlan.f (k + 1) a0 a1) := by
  intro a0 a1 k
  unfold laws_FnExactIsPlan.f
  repeat' first | (with_reducible first | exact LeO.refl _ | exact LeO.none _ | refine LeO.ite ?_ ?_ | refine LeO.bind ?_ (fun _ => ?_) | exact impl_IsPlan.mono _ _ _ | exact laws_eqPartS.mono _ _ _ | exact laws_eqPathS.mono _ _ _ | exact laws_szPartS.mono _ _ _ | exact laws_toPartS.mono _ _ | exact laws_toPathS.mono _ _ | exact spec_IsPlan.mono _ _ _) | exact LeO.none _ | refine LeO.ite ?_ ?_ | refine LeO.bind ?_ (fun _ => ?_) | exact impl_IsPlan.mono _ _ _ | exact laws_eqPartS.mono _ _ _ | exact laws_eqPathS.mono _ _ _ | exact laws_szPartS.mono _ _ _ | exact laws_toPartS.mono _ _ | exact laws_toPathS.mono _ _ | exact spec_IsPlan.mono _ _ _
set_option maxHeartbeats 8000000 in
set_option maxRecDepth 100000 in
theorem laws_FnExactIsPlan.calls (k : Nat) (A0 : Option Addr) (c0 : Nat) (l0 : List (S60)) (A1 : Option Addr) (c1 : Nat) (l1 : List (S49)) (r : Bool) (w : World) (hr0 : Kd.C k60 w A0 l0.length l0) (hc0 : l0.length ≤ c0) (hr1 : Kd.C k49 w A1 l1.length l1) (hc1 : l1.length ≤ c1) (h : laws_FnExactIsPlan.f k l0 l1 = some r) :
    Calls Try.prog 3 #[.slice A0 l0.length c0, .slice A1 l1.length c1] w fun e w' => e = .returned (.bool r) ∧ Below w.heap.size w w' := by
  have HR0 := Aside0.mk hr0
  have HC0 := Aside0.mk hc0
  clear hr0 hc0
  have HR1 := Aside0.mk hr1
  have HC1 := Aside0.mk hc1
  clear hr1 hc1
  have HB := Aside0.mk (Below.refl w.heap.size w)
  have H : ((laws_szPathS.f l0 1048576).bind fun t279 => (if t279 < 0 then (some true) else ((laws_szPartS.f k l1 t279).bind fun t280 => (if t280 < 0 then (some true) else ((laws_toPathS.f k l0).bind fun t281 => ((laws_toPartS.f k l1).bind fun t284 => ((spec_IsPlan.f k t281 t284).bind fun t287 => ((laws_toPathS.f k l0).bind fun t288 => ((laws_toPartS.f k l1).bind fun t291 => ((impl_IsPlan.f k t288 t291).bind fun t294 => (if (t294 != t287) = true then (none) else ((laws_toPathS.f k l0).bind fun t295 => ((laws_eqPathS.f k t288 t295).bind fun t298 => (if t298 = true then ((laws_toPartS.f k l1).bind fun t299 => ((laws_eqPartS.f k t291 t299).bind fun t302 => (if t302 = true then (some true) else (none)))) else (none))))))))))))))) = some r := h
  clear h
  obtain ⟨t279, A3, H⟩ := bindE H
  try dsimp only at H
  by_cases c4 : t279 < 0
  · rw [if_pos c4] at H
    have c4b0 : decide (t279 < 0) = true := decide_eq_true c4
    clear c4
    obtain rfl := Option.some.inj H
    go_enter Try.func3, Try.ntmps3
    go_wp2_with (first | ((with_reducible refine gate_callee (f := 15) rfl ?_); refine gL (some 12) Try.func15 #[.slice A0 l0.length c0, .int .i64 1048576] ?_; (with_reducible refine (laws_szPathS.calls _ _ l0 1048576 t279 _ ?side1 ?side2 A3.out).mono ?_); (case side1 => exact cO HR0); (case side2 => exact HC0.out); rintro e w' ⟨rfl, ⟨nd, rfl⟩⟩; refine ⟨_, rfl, ?_⟩))
    go_ret
    exact ⟨rA, bA⟩
  · rw [if_neg c4] at H
    have c4b0 : decide (t279 < 0) = false := decide_eq_false c4
    clear c4
    obtain ⟨t280, A5, H⟩ := bindE H
    try dsimp only at H
    by_cases c6 : t280 < 0
    · rw [if_pos c6] at H
      have c6b0 : decide (t280 < 0) = true := decide_eq_true c6
      clear c6
      obtain rfl := Option.some.inj H
      go_enter Try.func3, Try.ntmps3
      go_wp2_with (first | ((with_reducible refine gate_callee (f := 15) rfl ?_); refine gL (some 12) Try.func15 #[.slice A0 l0.length c0, .int .i64 1048576] ?_; (with_reducible refine (laws_szPathS.calls _ _ l0 1048576 t279 _ ?side1 ?side2 A3.out).mono ?_); (case side1 => exact cO HR0); (case side2 => exact HC0.out); rintro e w' ⟨rfl, ⟨nd, rfl⟩⟩; refine ⟨_, rfl, ?_⟩) | ((with_reducible refine gate_callee (f := 16) rfl ?_); refine gL (some 17) Try.func16 #[.slice A1 l1.length c1, .int .i64 t279] ?_; (with_reducible refine (laws_szPartS.calls k _ _ l1 t279 t280 _ ?side1 ?side2 A5.out).mono ?_); (case side1 => exact cO HR1); (case side2 => exact HC1.out); rintro e w7 ⟨rfl, hb⟩; refine ⟨_, rfl, ?_⟩; replace HB := Aside0.mk (below_step bA hb); (try clear hb); (try clear hb2); (try clear hk); (try clear hi)))
      go_ret
      exact ⟨rA, bA⟩
    · rw [if_neg c6] at H
      have c6b0 : decide (t280 < 0) = false := decide_eq_false c6
      clear c6
      obtain ⟨t281, A8, H⟩ := bindE H
      try dsimp only at H
      obtain ⟨t284, A9, H⟩ := bindE H
      try dsimp only at H
      obtain ⟨t287, A10, H⟩ := bindE H
      try dsimp only at H
      obtain ⟨t288, A11, H⟩ := bindE H
      try dsimp only at H
      obtain ⟨t291, A12, H⟩ := bindE H
      try dsimp only at H
      obtain ⟨t294, A13, H⟩ := bindE H
      try dsimp only at H
      have c14 : ¬ ((t294 != t287) = true) := ifN' H
      replace H := ifT' H
      have c14b0 : (t294 != t287) = false := by simpa using c14
      (try (have c14b1 : decide (t294 = t287) = true := by simpa using c14))
      (try (have c14b2 : (t294 == t287) = true := by simpa using c14))
      clear c14
      obtain ⟨t295, A15, H⟩ := bindE H
      try dsimp only at H
      obtain ⟨t298, A16, H⟩ := bindE H
      try dsimp only at H
      have c17 := ifN H
      replace H := ifT H
      subst c17
      obtain ⟨t299, A18, H⟩ := bindE H
      try dsimp only at H
      obtain ⟨t302, A19, H⟩ := bindE H
      try dsimp only at H
      have c20 := ifN H
      replace H := ifT H
      subst c20
      obtain rfl := Option.some.inj H
      go_enter Try.func3, Try.ntmps3
      go_wp2_with (first | ((with_reducible refine gate_callee (f := 15) rfl ?_); refine gL (some 12) Try.func15 #[.slice A0 l0.length c0, .int .i64 1048576] ?_; (with_reducible refine (laws_szPathS.calls _ _ l0 1048576 t279 _ ?side1 ?side2 A3.out).mono ?_); (case side1 => exact cO HR0); (case side2 => exact HC0.out); rintro e w' ⟨rfl, ⟨nd, rfl⟩⟩; refine ⟨_, rfl, ?_⟩) | ((with_reducible refine gate_callee (f := 16) rfl ?_); refine gL (some 17) Try.func16 #[.slice A1 l1.length c1, .int .i64 t279] ?_; (with_reducible refine (laws_szPartS.calls k _ _ l1 t279 t280 _ ?side1 ?side2 A5.out).mono ?_); (case side1 => exact cO HR1); (case side2 => exact HC1.out); rintro e w21 ⟨rfl, hb⟩; refine ⟨_, rfl, ?_⟩; replace HB := Aside0.mk (below_step bA hb); (try clear hb); (try clear hb2); (try clear hk); (try clear hi)) | ((with_reducible refine gate_callee (f := 18) rfl ?_); refine gL (some 21) Try.func18 #[.slice A0 l0.length c0] ?_; (with_reducible refine (laws_toPathS.calls k _ _ l0 t281 _ ?side1 ?side2 A8.out).mono ?_); (case side1 => exact cB HR0); (case side2 => exact HC0.out); rintro e w22 ⟨v282, rfl, ho0, hb⟩; refine ⟨_, rfl, ?_⟩; have HO283 := Aside0.mk (Kd.R_lower ho0 (below_size bA)); replace HB := Aside0.mk (below_step bA hb); (try clear hb); (try clear hb2); (try clear hk); (try clear hi); (try clear ho0)) | ((with_reducible refine gate_callee (f := 19) rfl ?_); refine gL (some 23) Try.func19 #[.slice A1 l1.length c1] ?_; (with_reducible refine (laws_toPartS.calls k _ _ l1 t284 _ ?side1 ?side2 A9.out).mono ?_); (case side1 => exact cB HR1); (case side2 => exact HC1.out); rintro e w23 ⟨v285, rfl, ho0, hb⟩; refine ⟨_, rfl, ?_⟩; replace HO283 := Aside0.mk (Kd.R_below (rK HO283) hb); have HO286 := Aside0.mk (Kd.S_lower ho0 (below_size bA)); replace HB := Aside0.mk (below_step bA hb); (try clear hb); (try clear hb2); (try clear hk); (try clear hi); (try clear ho0); obtain ⟨Ao24, co24, eo24⟩ := Kd.R_slice HO283.out; subst eo24; obtain ⟨Ao25, co25, eo25⟩ := Kd.S_slice HO286.out; subst eo25) | ((with_reducible refine gate_callee (f := 17) rfl ?_); refine gL (some 24) Try.func17 #[.slice Ao24 t281.length co24, .slice Ao25 t284.length co25] ?_; (with_reducible refine (spec_IsPlan.calls k _ _ t281 _ _ t284 t287 _ ?side1 ?side2 ?side3 ?side4 A10.out).mono ?_); (case side1 => exact cO ⟨(Kd.R_reads' HO283.out).2.2⟩); (case side2 => exact (Kd.R_reads' HO283.out).2.1); (case side3 => repeat (first | exact (Kd.S_reads' HO286.out).2.2 | (with_reducible refine Kd.C_alloc ?_ _) | (with_reducible refine Kd.C_drewN ?_ _) | (with_reducible refine Kd.C_drew ?_))); (case side4 => exact (Kd.S_reads' HO286.out).2.1); rintro e w26 ⟨rfl, hb⟩; refine ⟨_, rfl, ?_⟩; replace HO283 := Aside0.mk (Kd.R_below (rK HO283) hb); replace HO286 := Aside0.mk (Kd.S_below (sK HO286) hb); replace HB := Aside0.mk (below_step bA hb); (try clear hb); (try clear hb2); (try clear hk); (try clear hi)) | ((with_reducible refine gate_callee (f := 18) rfl ?_); refine gL (some 26) Try.func18 #[.slice A0 l0.length c0] ?_; (with_reducible refine (laws_toPathS.calls k _ _ l0 t288 _ ?side1 ?side2 A11.out).mono ?_); (case side1 => exact cB HR0); (case side2 => exact HC0.out); rintro e w27 ⟨v289, rfl, ho0, hb⟩; refine ⟨_, rfl, ?_⟩; replace HO286 := Aside0.mk (Kd.S_below (sK HO286) hb); have HO290 := Aside0.mk (Kd.R_lower (Kd.R_new' ho0 (Kd.R_lt (rK HO283))) (below_size bA)); replace HO283 := Aside0.mk (Kd.R_elder' (rK HO283) (Kd.R_base ho0) hb); replace HB := Aside0.mk (below_step bA hb); (try clear hb); (try clear hb2); (try clear hk); (try clear hi); (try clear ho0)) | ((with_reducible refine gate_callee (f := 19) rfl ?_); refine gL (some 28) Try.func19 #[.slice A1 l1.length c1] ?_; (with_reducible refine (laws_toPartS.calls k _ _ l1 t291 _ ?side1 ?side2 A12.out).mono ?_); (case side1 => exact cB HR1); (case side2 => exact HC1.out); rintro e w28 ⟨v292, rfl, ho0, hb⟩; refine ⟨_, rfl, ?_⟩; replace HO283 := Aside0.mk (Kd.R_below (rK HO283) hb); replace HO290 := Aside0.mk (Kd.R_below (rK HO290) hb); have HO293 := Aside0.mk (Kd.S_lower (Kd.S_new' ho0 (Kd.S_lt (sK HO286))) (below_size bA)); replace HO286 := Aside0.mk (Kd.S_elder' (sK HO286) (Kd.S_base ho0) hb); replace HB := Aside0.mk (below_step bA hb); (try clear hb); (try clear hb2); (try clear hk); (try clear hi); (try clear ho0); obtain ⟨Ao29, co29, eo29⟩ := Kd.R_slice HO290.out; subst eo29; obtain ⟨Ao30, co30, eo30⟩ := Kd.S_slice HO293.out; subst eo30) | ((with_reducible refine gate_callee (f := 20) rfl ?_); refine gL (some 31) Try.func20 #[.slice Ao29 t288.length co29, .slice Ao30 t291.length co30] ?_; (with_reducible refine (impl_IsPlan.calls k _ _ t288 (fun k_ => (((True ∧ some k_ ≠ (.slice Ao25 t284.length co25 : Value).ownBlock) ∧ some k_ ≠ (.slice Ao24 t281.length co24 : Value).ownBlock) ∧ some k_ ≠ (.slice Ao29 t288.length co29 : Value).ownBlock)) _ _ t291 t294 _ ?side1 ?side2 ?side3 A13.out).mono ?_); (case side1 => exact cO ⟨(Kd.R_reads' HO290.out).2.2⟩); (case side2 => exact (Kd.R_reads' HO290.out).2.1); (case side3 => exact Kd.S_V (Kd.S_apart' (Kd.S_apart' (HO293.out) (Kd.R_typed HO283.out) (by decide)) (Kd.R_typed HO290.out) (by decide))); rintro e w31 ⟨rfl, hb⟩; refine ⟨_, rfl, ?_⟩; replace HO283 := Aside0.mk (Kd.R_below (rK HO283) hb); replace HO286 := Aside0.mk (Kd.S_below (sK HO286) hb); replace HO290 := Aside0.mk (Kd.R_below (rK HO290) hb); replace HO293 := Aside0.mk (Kd.S_below (sK HO293) hb); replace HB := Aside0.mk (below_step bA hb); (try clear hb); (try clear hb2); (try clear hk); (try clear hi)) | ((with_reducible refine gate_callee (f := 18) rfl ?_); refine gL (some 37) Try.func18 #[.slice A0 l0.length c0] ?_; (with_reducible refine (laws_toPathS.calls k _ _ l0 t295 _ ?side1 ?side2 A15.out).mono ?_); (case side1 => exact cB HR0); (case side2 => exact HC0.out); rintro e w32 ⟨v296, rfl, ho0, hb⟩; refine ⟨_, rfl, ?_⟩; replace HO286 := Aside0.mk (Kd.S_below (sK HO286) hb); replace HO293 := Aside0.mk (Kd.S_below (sK HO293) hb); have HO297 := Aside0.mk (Kd.R_lower (Kd.R_new' (Kd.R_new' ho0 (Kd.R_lt (rK HO283))) (Kd.R_lt (rK HO290))) (below_size bA)); replace HO283 := Aside0.mk (Kd.R_elder' (rK HO283) (Kd.R_base ho0) hb); replace HO290 := Aside0.mk (Kd.R_elder' (rK HO290) (Kd.R_base ho0) hb); replace HB := Aside0.mk (below_step bA hb); (try clear hb); (try clear hb2); (try clear hk); (try clear hi); (try clear ho0); obtain ⟨Ao33, co33, eo33⟩ := Kd.R_slice HO297.out; subst eo33) | ((with_reducible refine gate_callee (f := 21) rfl ?_); refine gL (some 38) Try.func21 #[.slice Ao29 t288.length co29, .slice Ao33 t295.length co33] ?_; (with_reducible refine (laws_eqPathS.calls k _ _ t288 _ _ t295 true _ ?side1 ?side2 ?side3 ?side4 A16.out).mono ?_); (case side1 => exact cO ⟨(Kd.R_reads' HO290.out).2.2⟩); (case side2 => exact (Kd.R_reads' HO290.out).2.1); (case side3 => exact cO ⟨(Kd.R_reads' HO297.out).2.2⟩); (case side4 => exact (Kd.R_reads' HO297.out).2.1); rintro e w34 ⟨rfl, hb⟩; refine ⟨_, rfl, ?_⟩; replace HO283 := Aside0.mk (Kd.R_below (rK HO283) hb); replace HO286 := Aside0.mk (Kd.S_below (sK HO286) hb); replace HO290 := Aside0.mk (Kd.R_below (rK HO290) hb); replace HO293 := Aside0.mk (Kd.S_below (sK HO293) hb); replace HO297 := Aside0.mk (Kd.R_below (rK HO297) hb); replace HB := Aside0.mk (below_step bA hb); (try clear hb); (try clear hb2); (try clear hk); (try clear hi)) | ((with_reducible refine gate_callee (f := 19) rfl ?_); refine gL (some 42) Try.func19 #[.slice A1 l1.length c1] ?_; (with_reducible refine (laws_toPartS.calls k _ _ l1 t299 _ ?side1 ?side2 A18.out).mono ?_); (case side1 => exact cB HR1); (case side2 => exact HC1.out); rintro e w35 ⟨v300, rfl, ho0, hb⟩; refine ⟨_, rfl, ?_⟩; replace HO283 := Aside0.mk (Kd.R_below (rK HO283) hb); replace HO290 := Aside0.mk (Kd.R_below (rK HO290) hb); replace HO297 := Aside0.mk (Kd.R_below (rK HO297) hb); have HO301 := Aside0.mk (Kd.S_lower (Kd.S_new' (Kd.S_new' ho0 (Kd.S_lt (sK HO286))) (Kd.S_lt (sK HO293))) (below_size bA)); replace HO286 := Aside0.mk (Kd.S_elder' (sK HO286) (Kd.S_base ho0) hb); replace HO293 := Aside0.mk (Kd.S_elder' (sK HO293) (Kd.S_base ho0) hb); replace HB := Aside0.mk (below_step bA hb); (try clear hb); (try clear hb2); (try clear hk); (try clear hi); (try clear ho0); obtain ⟨Ao36, co36, eo36⟩ := Kd.S_slice HO301.out; subst eo36) | ((with_reducible refine gate_callee (f := 22) rfl ?_); refine gL (some 43) Try.func22 #[.slice Ao30 t291.length co30, .slice Ao36 t299.length co36] ?_; (with_reducible refine (laws_eqPartS.calls k _ _ t291 _ _ t299 true _ ?side1 ?side2 ?side3 ?side4 A19.out).mono ?_); (case side1 => repeat (first | exact (Kd.S_reads' HO293.out).2.2 | (with_reducible refine Kd.C_alloc ?_ _) | (with_reducible refine Kd.C_drewN ?_ _) | (with_reducible refine Kd.C_drew ?_))); (case side2 => exact (Kd.S_reads' HO293.out).2.1); (case side3 => repeat (first | exact (Kd.S_reads' HO301.out).2.2 | (with_reducible refine Kd.C_alloc ?_ _) | (with_reducible refine Kd.C_drewN ?_ _) | (with_reducible refine Kd.C_drew ?_))); (case side4 => exact (Kd.S_reads' HO301.out).2.1); rintro e w37 ⟨rfl, hb⟩; refine ⟨_, rfl, ?_⟩; replace HO283 := Aside0.mk (Kd.R_below (rK HO283) hb); replace HO286 := Aside0.mk (Kd.S_below (sK HO286) hb); replace HO290 := Aside0.mk (Kd.R_below (rK HO290) hb); replace HO293 := Aside0.mk (Kd.S_below (sK HO293) hb); replace HO297 := Aside0.mk (Kd.R_below (rK HO297) hb); replace HO301 := Aside0.mk (Kd.S_below (sK HO301) hb); replace HB := Aside0.mk (below_step bA hb); (try clear hb); (try clear hb2); (try clear hk); (try clear hi)))
      go_ret
      exact ⟨rA, bA⟩

end Go.Proofs.Ytbpnbflfpgakmaa.P
