/- Printed by myprint.py (wip/tools) over the kit's print: what Go's functions compute, and that they do. Lean checks it. -/
import Derived.Test.YtbpnbflfpgakmaaF0
import Derived.Test.YtbpnbflfpgakmaaFI08
import Derived.Test.YtbpnbflfpgakmaaFLPart
import Derived.Test.YtbpnbflfpgakmaaFLPath
import Derived.Test.YtbpnbflfpgakmaaFS08
namespace Go.Proofs.Ytbpnbflfpgakmaa.P
open Go.RowKit Go.Proofs.YtbpnbflfpgakmaaW.PrintWords Go.Proofs.YtbpnbflfpgakmaaW.PrintLast Go.Proofs.YtbpnbflfpgakmaaW.PrintMore Go.Proofs.Ytbpnbflfpgakmaa.Sq
attribute [local go_sem] max2_int min2_int max_two min_two max_three min_three max_four min_four
set_option linter.unusedVariables false
set_option linter.unusedSimpArgs false

/-! ### laws_FnExactStartOf: function 5 -/
def laws_FnExactStartOf.f (k : Nat) (l0 : List (S60)) (l1 : List (S49)) (a2 : Int) : Option (Bool) := (laws_szPathS.f l0 1048576).bind fun t412 => (if t412 < 0 then (some true) else ((laws_szPartS.f k l1 t412).bind fun t413 => (if t413 < 0 then (some true) else ((laws_toPathS.f k l0).bind fun t414 => ((laws_toPartS.f k l1).bind fun t417 => ((spec_StartOf.f k t414 t417 a2).bind fun t420 => ((laws_toPathS.f k l0).bind fun t421 => ((laws_toPartS.f k l1).bind fun t424 => ((impl_StartOf.f k t421 t424 a2).bind fun t427 => (if t427 = t420 then ((laws_toPathS.f k l0).bind fun t428 => ((laws_eqPathS.f k t421 t428).bind fun t431 => (if t431 = true then ((laws_toPartS.f k l1).bind fun t432 => ((laws_eqPartS.f k t424 t432).bind fun t435 => (if t435 = true then (some true) else (none)))) else (none)))) else (none)))))))))))
theorem laws_FnExactStartOf.mono : ∀ a0 a1 a2 k, LeO (laws_FnExactStartOf.f k a0 a1 a2) (laws_FnExactStartOf.f (k + 1) a0 a1 a2) := by
  intro a0 a1 a2 k
  unfold laws_FnExactStartOf.f
  repeat' first | (with_reducible first | exact LeO.refl _ | exact LeO.none _ | refine LeO.ite ?_ ?_ | refine LeO.bind ?_ (fun _ => ?_) | exact impl_StartOf.mono _ _ _ _ | exact laws_eqPartS.mono _ _ _ | exact laws_eqPathS.mono _ _ _ | exact laws_szPartS.mono _ _ _ | exact laws_toPartS.mono _ _ | exact laws_toPathS.mono _ _ | exact spec_StartOf.mono _ _ _ _) | exact LeO.none _ | refine LeO.ite ?_ ?_ | refine LeO.bind ?_ (fun _ => ?_) | exact impl_StartOf.mono _ _ _ _ | exact laws_eqPartS.mono _ _ _ | exact laws_eqPathS.mono _ _ _ | exact laws_szPartS.mono _ _ _ | exact laws_toPartS.mono _ _ | exact laws_toPathS.mono _ _ | exact spec_StartOf.mono _ _ _ _
set_option maxHeartbeats 8000000 in
set_option maxRecDepth 100000 in
theorem laws_FnExactStartOf.calls (k : Nat) (A0 : Option Addr) (c0 : Nat) (l0 : List (S60)) (A1 : Option Addr) (c1 : Nat) (l1 : List (S49)) (a2 : Int) (r : Bool) (w : World) (hr0 : Kd.C k60 w A0 l0.length l0) (hc0 : l0.length ≤ c0) (hr1 : Kd.C k49 w A1 l1.length l1) (hc1 : l1.length ≤ c1) (h : laws_FnExactStartOf.f k l0 l1 a2 = some r) :
    Calls Try.prog 5 #[.slice A0 l0.length c0, .slice A1 l1.length c1, .int .i64 a2] w fun e w' => e = .returned (.bool r) ∧ Below w.heap.size w w' := by
  have HR0 := Aside0.mk hr0
  have HC0 := Aside0.mk hc0
  clear hr0 hc0
  have HR1 := Aside0.mk hr1
  have HC1 := Aside0.mk hc1
  clear hr1 hc1
  have HB := Aside0.mk (Below.refl w.heap.size w)
  have H : ((laws_szPathS.f l0 1048576).bind fun t412 => (if t412 < 0 then (some true) else ((laws_szPartS.f k l1 t412).bind fun t413 => (if t413 < 0 then (some true) else ((laws_toPathS.f k l0).bind fun t414 => ((laws_toPartS.f k l1).bind fun t417 => ((spec_StartOf.f k t414 t417 a2).bind fun t420 => ((laws_toPathS.f k l0).bind fun t421 => ((laws_toPartS.f k l1).bind fun t424 => ((impl_StartOf.f k t421 t424 a2).bind fun t427 => (if t427 = t420 then ((laws_toPathS.f k l0).bind fun t428 => ((laws_eqPathS.f k t421 t428).bind fun t431 => (if t431 = true then ((laws_toPartS.f k l1).bind fun t432 => ((laws_eqPartS.f k t424 t432).bind fun t435 => (if t435 = true then (some true) else (none)))) else (none)))) else (none)))))))))))) = some r := h
  clear h
  obtain ⟨t412, A4, H⟩ := bindE H
  try dsimp only at H
  by_cases c5 : t412 < 0
  · rw [if_pos c5] at H
    have c5b0 : decide (t412 < 0) = true := decide_eq_true c5
    clear c5
    obtain rfl := Option.some.inj H
    go_enter Try.func5, Try.ntmps5
    go_wp2_with (first | ((with_reducible refine gate_callee (f := 15) rfl ?_); refine gL (some 14) Try.func15 #[.slice A0 l0.length c0, .int .i64 1048576] ?_; (with_reducible refine (laws_szPathS.calls _ _ l0 1048576 t412 _ ?side1 ?side2 A4.out).mono ?_); (case side1 => exact cO HR0); (case side2 => exact HC0.out); rintro e w' ⟨rfl, ⟨nd, rfl⟩⟩; refine ⟨_, rfl, ?_⟩))
    go_ret
    exact ⟨rA, bA⟩
  · rw [if_neg c5] at H
    have c5b0 : decide (t412 < 0) = false := decide_eq_false c5
    clear c5
    obtain ⟨t413, A6, H⟩ := bindE H
    try dsimp only at H
    by_cases c7 : t413 < 0
    · rw [if_pos c7] at H
      have c7b0 : decide (t413 < 0) = true := decide_eq_true c7
      clear c7
      obtain rfl := Option.some.inj H
      go_enter Try.func5, Try.ntmps5
      go_wp2_with (first | ((with_reducible refine gate_callee (f := 15) rfl ?_); refine gL (some 14) Try.func15 #[.slice A0 l0.length c0, .int .i64 1048576] ?_; (with_reducible refine (laws_szPathS.calls _ _ l0 1048576 t412 _ ?side1 ?side2 A4.out).mono ?_); (case side1 => exact cO HR0); (case side2 => exact HC0.out); rintro e w' ⟨rfl, ⟨nd, rfl⟩⟩; refine ⟨_, rfl, ?_⟩) | ((with_reducible refine gate_callee (f := 16) rfl ?_); refine gL (some 19) Try.func16 #[.slice A1 l1.length c1, .int .i64 t412] ?_; (with_reducible refine (laws_szPartS.calls k _ _ l1 t412 t413 _ ?side1 ?side2 A6.out).mono ?_); (case side1 => exact cO HR1); (case side2 => exact HC1.out); rintro e w8 ⟨rfl, hb⟩; refine ⟨_, rfl, ?_⟩; replace HB := Aside0.mk (below_step bA hb); (try clear hb); (try clear hb2); (try clear hk); (try clear hi)))
      go_ret
      exact ⟨rA, bA⟩
    · rw [if_neg c7] at H
      have c7b0 : decide (t413 < 0) = false := decide_eq_false c7
      clear c7
      obtain ⟨t414, A9, H⟩ := bindE H
      try dsimp only at H
      obtain ⟨t417, A10, H⟩ := bindE H
      try dsimp only at H
      obtain ⟨t420, A11, H⟩ := bindE H
      try dsimp only at H
      obtain ⟨t421, A12, H⟩ := bindE H
      try dsimp only at H
      obtain ⟨t424, A13, H⟩ := bindE H
      try dsimp only at H
      obtain ⟨t427, A14, H⟩ := bindE H
      try dsimp only at H
      have c15 : t427 = t420 := ifN H
      replace H := ifT H
      have c15b0 : (t427 == t420) = true := beq_iff_eq.mpr c15
      have c15b1 : (t427 != t420) = false := bne_eq_false_iff_eq.mpr c15
      clear c15
      obtain ⟨t428, A16, H⟩ := bindE H
      try dsimp only at H
      obtain ⟨t431, A17, H⟩ := bindE H
      try dsimp only at H
      have c18 := ifN H
      replace H := ifT H
      subst c18
      obtain ⟨t432, A19, H⟩ := bindE H
      try dsimp only at H
      obtain ⟨t435, A20, H⟩ := bindE H
      try dsimp only at H
      have c21 := ifN H
      replace H := ifT H
      subst c21
      obtain rfl := Option.some.inj H
      go_enter Try.func5, Try.ntmps5
      go_wp2_with (first | ((with_reducible refine gate_callee (f := 15) rfl ?_); refine gL (some 14) Try.func15 #[.slice A0 l0.length c0, .int .i64 1048576] ?_; (with_reducible refine (laws_szPathS.calls _ _ l0 1048576 t412 _ ?side1 ?side2 A4.out).mono ?_); (case side1 => exact cO HR0); (case side2 => exact HC0.out); rintro e w' ⟨rfl, ⟨nd, rfl⟩⟩; refine ⟨_, rfl, ?_⟩) | ((with_reducible refine gate_callee (f := 16) rfl ?_); refine gL (some 19) Try.func16 #[.slice A1 l1.length c1, .int .i64 t412] ?_; (with_reducible refine (laws_szPartS.calls k _ _ l1 t412 t413 _ ?side1 ?side2 A6.out).mono ?_); (case side1 => exact cO HR1); (case side2 => exact HC1.out); rintro e w22 ⟨rfl, hb⟩; refine ⟨_, rfl, ?_⟩; replace HB := Aside0.mk (below_step bA hb); (try clear hb); (try clear hb2); (try clear hk); (try clear hi)) | ((with_reducible refine gate_callee (f := 18) rfl ?_); refine gL (some 23) Try.func18 #[.slice A0 l0.length c0] ?_; (with_reducible refine (laws_toPathS.calls k _ _ l0 t414 _ ?side1 ?side2 A9.out).mono ?_); (case side1 => exact cB HR0); (case side2 => exact HC0.out); rintro e w23 ⟨v415, rfl, ho0, hb⟩; refine ⟨_, rfl, ?_⟩; have HO416 := Aside0.mk (Kd.R_lower ho0 (below_size bA)); replace HB := Aside0.mk (below_step bA hb); (try clear hb); (try clear hb2); (try clear hk); (try clear hi); (try clear ho0)) | ((with_reducible refine gate_callee (f := 19) rfl ?_); refine gL (some 25) Try.func19 #[.slice A1 l1.length c1] ?_; (with_reducible refine (laws_toPartS.calls k _ _ l1 t417 _ ?side1 ?side2 A10.out).mono ?_); (case side1 => exact cB HR1); (case side2 => exact HC1.out); rintro e w24 ⟨v418, rfl, ho0, hb⟩; refine ⟨_, rfl, ?_⟩; replace HO416 := Aside0.mk (Kd.R_below (rK HO416) hb); have HO419 := Aside0.mk (Kd.S_lower ho0 (below_size bA)); replace HB := Aside0.mk (below_step bA hb); (try clear hb); (try clear hb2); (try clear hk); (try clear hi); (try clear ho0); obtain ⟨Ao25, co25, eo25⟩ := Kd.R_slice HO416.out; subst eo25; obtain ⟨Ao26, co26, eo26⟩ := Kd.S_slice HO419.out; subst eo26) | ((with_reducible refine gate_callee (f := 25) rfl ?_); refine gL (some 27) Try.func25 #[.slice Ao25 t414.length co25, .slice Ao26 t417.length co26, .int .i64 a2] ?_; (with_reducible refine (spec_StartOf.calls k _ _ t414 _ _ t417 a2 t420 _ ?side1 ?side2 ?side3 ?side4 A11.out).mono ?_); (case side1 => exact cO ⟨(Kd.R_reads' HO416.out).2.2⟩); (case side2 => exact (Kd.R_reads' HO416.out).2.1); (case side3 => repeat (first | exact (Kd.S_reads' HO419.out).2.2 | (with_reducible refine Kd.C_alloc ?_ _) | (with_reducible refine Kd.C_drewN ?_ _) | (with_reducible refine Kd.C_drew ?_))); (case side4 => exact (Kd.S_reads' HO419.out).2.1); rintro e w27 ⟨rfl, hb⟩; refine ⟨_, rfl, ?_⟩; replace HO416 := Aside0.mk (Kd.R_below (rK HO416) hb); replace HO419 := Aside0.mk (Kd.S_below (sK HO419) hb); replace HB := Aside0.mk (below_step bA hb); (try clear hb); (try clear hb2); (try clear hk); (try clear hi)) | ((with_reducible refine gate_callee (f := 18) rfl ?_); refine gL (some 29) Try.func18 #[.slice A0 l0.length c0] ?_; (with_reducible refine (laws_toPathS.calls k _ _ l0 t421 _ ?side1 ?side2 A12.out).mono ?_); (case side1 => exact cB HR0); (case side2 => exact HC0.out); rintro e w28 ⟨v422, rfl, ho0, hb⟩; refine ⟨_, rfl, ?_⟩; replace HO419 := Aside0.mk (Kd.S_below (sK HO419) hb); have HO423 := Aside0.mk (Kd.R_lower (Kd.R_new' ho0 (Kd.R_lt (rK HO416))) (below_size bA)); replace HO416 := Aside0.mk (Kd.R_elder' (rK HO416) (Kd.R_base ho0) hb); replace HB := Aside0.mk (below_step bA hb); (try clear hb); (try clear hb2); (try clear hk); (try clear hi); (try clear ho0)) | ((with_reducible refine gate_callee (f := 19) rfl ?_); refine gL (some 31) Try.func19 #[.slice A1 l1.length c1] ?_; (with_reducible refine (laws_toPartS.calls k _ _ l1 t424 _ ?side1 ?side2 A13.out).mono ?_); (case side1 => exact cB HR1); (case side2 => exact HC1.out); rintro e w29 ⟨v425, rfl, ho0, hb⟩; refine ⟨_, rfl, ?_⟩; replace HO416 := Aside0.mk (Kd.R_below (rK HO416) hb); replace HO423 := Aside0.mk (Kd.R_below (rK HO423) hb); have HO426 := Aside0.mk (Kd.S_lower (Kd.S_new' ho0 (Kd.S_lt (sK HO419))) (below_size bA)); replace HO419 := Aside0.mk (Kd.S_elder' (sK HO419) (Kd.S_base ho0) hb); replace HB := Aside0.mk (below_step bA hb); (try clear hb); (try clear hb2); (try clear hk); (try clear hi); (try clear ho0); obtain ⟨Ao30, co30, eo30⟩ := Kd.R_slice HO423.out; subst eo30; obtain ⟨Ao31, co31, eo31⟩ := Kd.S_slice HO426.out; subst eo31) | ((with_reducible refine gate_callee (f := 26) rfl ?_); refine gL (some 35) Try.func26 #[.slice Ao30 t421.length co30, .slice Ao31 t424.length co31, .int .i64 a2] ?_; (with_reducible refine (impl_StartOf.calls k _ _ t421 _ _ t424 a2 t427 _ ?side1 ?side2 ?side3 ?side4 A14.out).mono ?_); (case side1 => exact cO ⟨(Kd.R_reads' HO423.out).2.2⟩); (case side2 => exact (Kd.R_reads' HO423.out).2.1); (case side3 => repeat (first | exact (Kd.S_reads' HO426.out).2.2 | (with_reducible refine Kd.C_alloc ?_ _) | (with_reducible refine Kd.C_drewN ?_ _) | (with_reducible refine Kd.C_drew ?_))); (case side4 => exact (Kd.S_reads' HO426.out).2.1); rintro e w32 ⟨rfl, hb⟩; refine ⟨_, rfl, ?_⟩; replace HO416 := Aside0.mk (Kd.R_below (rK HO416) hb); replace HO419 := Aside0.mk (Kd.S_below (sK HO419) hb); replace HO423 := Aside0.mk (Kd.R_below (rK HO423) hb); replace HO426 := Aside0.mk (Kd.S_below (sK HO426) hb); replace HB := Aside0.mk (below_step bA hb); (try clear hb); (try clear hb2); (try clear hk); (try clear hi)) | ((with_reducible refine gate_callee (f := 18) rfl ?_); refine gL (some 41) Try.func18 #[.slice A0 l0.length c0] ?_; (with_reducible refine (laws_toPathS.calls k _ _ l0 t428 _ ?side1 ?side2 A16.out).mono ?_); (case side1 => exact cB HR0); (case side2 => exact HC0.out); rintro e w33 ⟨v429, rfl, ho0, hb⟩; refine ⟨_, rfl, ?_⟩; replace HO419 := Aside0.mk (Kd.S_below (sK HO419) hb); replace HO426 := Aside0.mk (Kd.S_below (sK HO426) hb); have HO430 := Aside0.mk (Kd.R_lower (Kd.R_new' (Kd.R_new' ho0 (Kd.R_lt (rK HO416))) (Kd.R_lt (rK HO423))) (below_size bA)); replace HO416 := Aside0.mk (Kd.R_elder' (rK HO416) (Kd.R_base ho0) hb); replace HO423 := Aside0.mk (Kd.R_elder' (rK HO423) (Kd.R_base ho0) hb); replace HB := Aside0.mk (below_step bA hb); (try clear hb); (try clear hb2); (try clear hk); (try clear hi); (try clear ho0); obtain ⟨Ao34, co34, eo34⟩ := Kd.R_slice HO430.out; subst eo34) | ((with_reducible refine gate_callee (f := 21) rfl ?_); refine gL (some 42) Try.func21 #[.slice Ao30 t421.length co30, .slice Ao34 t428.length co34] ?_; (with_reducible refine (laws_eqPathS.calls k _ _ t421 _ _ t428 true _ ?side1 ?side2 ?side3 ?side4 A17.out).mono ?_); (case side1 => exact cO ⟨(Kd.R_reads' HO423.out).2.2⟩); (case side2 => exact (Kd.R_reads' HO423.out).2.1); (case side3 => exact cO ⟨(Kd.R_reads' HO430.out).2.2⟩); (case side4 => exact (Kd.R_reads' HO430.out).2.1); rintro e w35 ⟨rfl, hb⟩; refine ⟨_, rfl, ?_⟩; replace HO416 := Aside0.mk (Kd.R_below (rK HO416) hb); replace HO419 := Aside0.mk (Kd.S_below (sK HO419) hb); replace HO423 := Aside0.mk (Kd.R_below (rK HO423) hb); replace HO426 := Aside0.mk (Kd.S_below (sK HO426) hb); replace HO430 := Aside0.mk (Kd.R_below (rK HO430) hb); replace HB := Aside0.mk (below_step bA hb); (try clear hb); (try clear hb2); (try clear hk); (try clear hi)) | ((with_reducible refine gate_callee (f := 19) rfl ?_); refine gL (some 46) Try.func19 #[.slice A1 l1.length c1] ?_; (with_reducible refine (laws_toPartS.calls k _ _ l1 t432 _ ?side1 ?side2 A19.out).mono ?_); (case side1 => exact cB HR1); (case side2 => exact HC1.out); rintro e w36 ⟨v433, rfl, ho0, hb⟩; refine ⟨_, rfl, ?_⟩; replace HO416 := Aside0.mk (Kd.R_below (rK HO416) hb); replace HO423 := Aside0.mk (Kd.R_below (rK HO423) hb); replace HO430 := Aside0.mk (Kd.R_below (rK HO430) hb); have HO434 := Aside0.mk (Kd.S_lower (Kd.S_new' (Kd.S_new' ho0 (Kd.S_lt (sK HO419))) (Kd.S_lt (sK HO426))) (below_size bA)); replace HO419 := Aside0.mk (Kd.S_elder' (sK HO419) (Kd.S_base ho0) hb); replace HO426 := Aside0.mk (Kd.S_elder' (sK HO426) (Kd.S_base ho0) hb); replace HB := Aside0.mk (below_step bA hb); (try clear hb); (try clear hb2); (try clear hk); (try clear hi); (try clear ho0); obtain ⟨Ao37, co37, eo37⟩ := Kd.S_slice HO434.out; subst eo37) | ((with_reducible refine gate_callee (f := 22) rfl ?_); refine gL (some 47) Try.func22 #[.slice Ao31 t424.length co31, .slice Ao37 t432.length co37] ?_; (with_reducible refine (laws_eqPartS.calls k _ _ t424 _ _ t432 true _ ?side1 ?side2 ?side3 ?side4 A20.out).mono ?_); (case side1 => repeat (first | exact (Kd.S_reads' HO426.out).2.2 | (with_reducible refine Kd.C_alloc ?_ _) | (with_reducible refine Kd.C_drewN ?_ _) | (with_reducible refine Kd.C_drew ?_))); (case side2 => exact (Kd.S_reads' HO426.out).2.1); (case side3 => repeat (first | exact (Kd.S_reads' HO434.out).2.2 | (with_reducible refine Kd.C_alloc ?_ _) | (with_reducible refine Kd.C_drewN ?_ _) | (with_reducible refine Kd.C_drew ?_))); (case side4 => exact (Kd.S_reads' HO434.out).2.1); rintro e w38 ⟨rfl, hb⟩; refine ⟨_, rfl, ?_⟩; replace HO416 := Aside0.mk (Kd.R_below (rK HO416) hb); replace HO419 := Aside0.mk (Kd.S_below (sK HO419) hb); replace HO423 := Aside0.mk (Kd.R_below (rK HO423) hb); replace HO426 := Aside0.mk (Kd.S_below (sK HO426) hb); replace HO430 := Aside0.mk (Kd.R_below (rK HO430) hb); replace HO434 := Aside0.mk (Kd.S_below (sK HO434) hb); replace HB := Aside0.mk (below_step bA hb); (try clear hb); (try clear hb2); (try clear hk); (try clear hi)))
      go_ret
      exact ⟨rA, bA⟩

end Go.Proofs.Ytbpnbflfpgakmaa.P
