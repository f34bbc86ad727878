/- Printed by myprint.py (wip/tools) over the kit's print: what Go's functions compute, and that they do. Lean checks it. -/
import Derived.Test.YtbpnbflfpgakmaaF0
import Derived.Test.YtbpnbflfpgakmaaFI11
import Derived.Test.YtbpnbflfpgakmaaFLPart
import Derived.Test.YtbpnbflfpgakmaaFLPath
import Derived.Test.YtbpnbflfpgakmaaFS11
namespace Go.Proofs.Ytbpnbflfpgakmaa.P
open Go.RowKit Go.Proofs.YtbpnbflfpgakmaaW.PrintWords Go.Proofs.YtbpnbflfpgakmaaW.PrintLast Go.Proofs.YtbpnbflfpgakmaaW.PrintMore Go.Proofs.Ytbpnbflfpgakmaa.Sq
attribute [local go_sem] max2_int min2_int max_two min_two max_three min_three max_four min_four
set_option linter.unusedVariables false
set_option linter.unusedSimpArgs false

/-! ### laws_FnExactGreenShare: function 6 -/
def laws_FnExactGreenShare.f (k : Nat) (l0 : List (S60)) (l1 : List (S49)) (a2 : Int) : Option (Bool) := (laws_szPathS.f l0 1048576).bind fun t443 => (if t443 < 0 then (some true) else ((laws_szPartS.f k l1 t443).bind fun t444 => (if t444 < 0 then (some true) else ((laws_toPathS.f k l0).bind fun t445 => ((laws_toPartS.f k l1).bind fun t448 => ((spec_GreenShare.f k t445 t448 a2).bind fun t451 => ((laws_toPathS.f k l0).bind fun t452 => ((laws_toPartS.f k l1).bind fun t455 => ((impl_GreenShare.f k t452 t455 a2).bind fun t458 => (if t458 = t451 then ((laws_toPathS.f k l0).bind fun t459 => ((laws_eqPathS.f k t452 t459).bind fun t462 => (if t462 = true then ((laws_toPartS.f k l1).bind fun t463 => ((laws_eqPartS.f k t455 t463).bind fun t466 => (if t466 = true then (some true) else (none)))) else (none)))) else (none)))))))))))
theorem laws_FnExactGreenShare.mono : ∀ a0 a1 a2 k, LeO (laws_FnExactGreenShare.f k a0 a1 a2) (laws_FnExactGreenShare.f (k + 1) a0 a1 a2) := by
  intro a0 a1 a2 k
  unfold laws_FnExactGreenShare.f
  repeat' first | (with_reducible first | exact LeO.refl _ | exact LeO.none _ | refine LeO.ite ?_ ?_ | refine LeO.bind ?_ (fun _ => ?_) | exact impl_GreenShare.mono _ _ _ _ | exact laws_eqPartS.mono _ _ _ | exact laws_eqPathS.mono _ _ _ | exact laws_szPartS.mono _ _ _ | exact laws_toPartS.mono _ _ | exact laws_toPathS.mono _ _ | exact spec_GreenShare.mono _ _ _ _) | exact LeO.none _ | refine LeO.ite ?_ ?_ | refine LeO.bind ?_ (fun _ => ?_) | exact impl_GreenShare.mono _ _ _ _ | exact laws_eqPartS.mono _ _ _ | exact laws_eqPathS.mono _ _ _ | exact laws_szPartS.mono _ _ _ | exact laws_toPartS.mono _ _ | exact laws_toPathS.mono _ _ | exact spec_GreenShare.mono _ _ _ _
set_option maxHeartbeats 8000000 in
set_option maxRecDepth 100000 in
theorem laws_FnExactGreenShare.calls (k : Nat) (A0 : Option Addr) (c0 : Nat) (l0 : List (S60)) (A1 : Option Addr) (c1 : Nat) (l1 : List (S49)) (a2 : Int) (r : Bool) (w : World) (hr0 : Kd.C k60 w A0 l0.length l0) (hc0 : l0.length ≤ c0) (hr1 : Kd.C k49 w A1 l1.length l1) (hc1 : l1.length ≤ c1) (h : laws_FnExactGreenShare.f k l0 l1 a2 = some r) :
    Calls Try.prog 6 #[.slice A0 l0.length c0, .slice A1 l1.length c1, .int .i64 a2] w fun e w' => e = .returned (.bool r) ∧ Below w.heap.size w w' := by
  have HR0 := Aside0.mk hr0
  have HC0 := Aside0.mk hc0
  clear hr0 hc0
  have HR1 := Aside0.mk hr1
  have HC1 := Aside0.mk hc1
  clear hr1 hc1
  have HB := Aside0.mk (Below.refl w.heap.size w)
  have H : ((laws_szPathS.f l0 1048576).bind fun t443 => (if t443 < 0 then (some true) else ((laws_szPartS.f k l1 t443).bind fun t444 => (if t444 < 0 then (some true) else ((laws_toPathS.f k l0).bind fun t445 => ((laws_toPartS.f k l1).bind fun t448 => ((spec_GreenShare.f k t445 t448 a2).bind fun t451 => ((laws_toPathS.f k l0).bind fun t452 => ((laws_toPartS.f k l1).bind fun t455 => ((impl_GreenShare.f k t452 t455 a2).bind fun t458 => (if t458 = t451 then ((laws_toPathS.f k l0).bind fun t459 => ((laws_eqPathS.f k t452 t459).bind fun t462 => (if t462 = true then ((laws_toPartS.f k l1).bind fun t463 => ((laws_eqPartS.f k t455 t463).bind fun t466 => (if t466 = true then (some true) else (none)))) else (none)))) else (none)))))))))))) = some r := h
  clear h
  obtain ⟨t443, A4, H⟩ := bindE H
  try dsimp only at H
  by_cases c5 : t443 < 0
  · rw [if_pos c5] at H
    have c5b0 : decide (t443 < 0) = true := decide_eq_true c5
    clear c5
    obtain rfl := Option.some.inj H
    go_enter Try.func6, Try.ntmps6
    go_wp2_with (first | ((with_reducible refine gate_callee (f := 15) rfl ?_); refine gL (some 14) Try.func15 #[.slice A0 l0.length c0, .int .i64 1048576] ?_; (with_reducible refine (laws_szPathS.calls _ _ l0 1048576 t443 _ ?side1 ?side2 A4.out).mono ?_); (case side1 => exact cO HR0); (case side2 => exact HC0.out); rintro e w' ⟨rfl, ⟨nd, rfl⟩⟩; refine ⟨_, rfl, ?_⟩))
    go_ret
    exact ⟨rA, bA⟩
  · rw [if_neg c5] at H
    have c5b0 : decide (t443 < 0) = false := decide_eq_false c5
    clear c5
    obtain ⟨t444, A6, H⟩ := bindE H
    try dsimp only at H
    by_cases c7 : t444 < 0
    · rw [if_pos c7] at H
      have c7b0 : decide (t444 < 0) = true := decide_eq_true c7
      clear c7
      obtain rfl := Option.some.inj H
      go_enter Try.func6, Try.ntmps6
      go_wp2_with (first | ((with_reducible refine gate_callee (f := 15) rfl ?_); refine gL (some 14) Try.func15 #[.slice A0 l0.length c0, .int .i64 1048576] ?_; (with_reducible refine (laws_szPathS.calls _ _ l0 1048576 t443 _ ?side1 ?side2 A4.out).mono ?_); (case side1 => exact cO HR0); (case side2 => exact HC0.out); rintro e w' ⟨rfl, ⟨nd, rfl⟩⟩; refine ⟨_, rfl, ?_⟩) | ((with_reducible refine gate_callee (f := 16) rfl ?_); refine gL (some 19) Try.func16 #[.slice A1 l1.length c1, .int .i64 t443] ?_; (with_reducible refine (laws_szPartS.calls k _ _ l1 t443 t444 _ ?side1 ?side2 A6.out).mono ?_); (case side1 => exact cO HR1); (case side2 => exact HC1.out); rintro e w8 ⟨rfl, hb⟩; refine ⟨_, rfl, ?_⟩; replace HB := Aside0.mk (below_step bA hb); (try clear hb); (try clear hb2); (try clear hk); (try clear hi)))
      go_ret
      exact ⟨rA, bA⟩
    · rw [if_neg c7] at H
      have c7b0 : decide (t444 < 0) = false := decide_eq_false c7
      clear c7
      obtain ⟨t445, A9, H⟩ := bindE H
      try dsimp only at H
      obtain ⟨t448, A10, H⟩ := bindE H
      try dsimp only at H
      obtain ⟨t451, A11, H⟩ := bindE H
      try dsimp only at H
      obtain ⟨t452, A12, H⟩ := bindE H
      try dsimp only at H
      obtain ⟨t455, A13, H⟩ := bindE H
      try dsimp only at H
      obtain ⟨t458, A14, H⟩ := bindE H
      try dsimp only at H
      have c15 : t458 = t451 := ifN H
      replace H := ifT H
      have c15b0 : (t458 == t451) = true := beq_iff_eq.mpr c15
      have c15b1 : (t458 != t451) = false := bne_eq_false_iff_eq.mpr c15
      clear c15
      obtain ⟨t459, A16, H⟩ := bindE H
      try dsimp only at H
      obtain ⟨t462, A17, H⟩ := bindE H
      try dsimp only at H
      have c18 := ifN H
      replace H := ifT H
      subst c18
      obtain ⟨t463, A19, H⟩ := bindE H
      try dsimp only at H
      obtain ⟨t466, A20, H⟩ := bindE H
      try dsimp only at H
      have c21 := ifN H
      replace H := ifT H
      subst c21
      obtain rfl := Option.some.inj H
      go_enter Try.func6, Try.ntmps6
      go_wp2_with (first | ((with_reducible refine gate_callee (f := 15) rfl ?_); refine gL (some 14) Try.func15 #[.slice A0 l0.length c0, .int .i64 1048576] ?_; (with_reducible refine (laws_szPathS.calls _ _ l0 1048576 t443 _ ?side1 ?side2 A4.out).mono ?_); (case side1 => exact cO HR0); (case side2 => exact HC0.out); rintro e w' ⟨rfl, ⟨nd, rfl⟩⟩; refine ⟨_, rfl, ?_⟩) | ((with_reducible refine gate_callee (f := 16) rfl ?_); refine gL (some 19) Try.func16 #[.slice A1 l1.length c1, .int .i64 t443] ?_; (with_reducible refine (laws_szPartS.calls k _ _ l1 t443 t444 _ ?side1 ?side2 A6.out).mono ?_); (case side1 => exact cO HR1); (case side2 => exact HC1.out); rintro e w22 ⟨rfl, hb⟩; refine ⟨_, rfl, ?_⟩; replace HB := Aside0.mk (below_step bA hb); (try clear hb); (try clear hb2); (try clear hk); (try clear hi)) | ((with_reducible refine gate_callee (f := 18) rfl ?_); refine gL (some 23) Try.func18 #[.slice A0 l0.length c0] ?_; (with_reducible refine (laws_toPathS.calls k _ _ l0 t445 _ ?side1 ?side2 A9.out).mono ?_); (case side1 => exact cB HR0); (case side2 => exact HC0.out); rintro e w23 ⟨v446, rfl, ho0, hb⟩; refine ⟨_, rfl, ?_⟩; have HO447 := Aside0.mk (Kd.R_lower ho0 (below_size bA)); replace HB := Aside0.mk (below_step bA hb); (try clear hb); (try clear hb2); (try clear hk); (try clear hi); (try clear ho0)) | ((with_reducible refine gate_callee (f := 19) rfl ?_); refine gL (some 25) Try.func19 #[.slice A1 l1.length c1] ?_; (with_reducible refine (laws_toPartS.calls k _ _ l1 t448 _ ?side1 ?side2 A10.out).mono ?_); (case side1 => exact cB HR1); (case side2 => exact HC1.out); rintro e w24 ⟨v449, rfl, ho0, hb⟩; refine ⟨_, rfl, ?_⟩; replace HO447 := Aside0.mk (Kd.R_below (rK HO447) hb); have HO450 := Aside0.mk (Kd.S_lower ho0 (below_size bA)); replace HB := Aside0.mk (below_step bA hb); (try clear hb); (try clear hb2); (try clear hk); (try clear hi); (try clear ho0); obtain ⟨Ao25, co25, eo25⟩ := Kd.R_slice HO447.out; subst eo25; obtain ⟨Ao26, co26, eo26⟩ := Kd.S_slice HO450.out; subst eo26) | ((with_reducible refine gate_callee (f := 27) rfl ?_); refine gL (some 27) Try.func27 #[.slice Ao25 t445.length co25, .slice Ao26 t448.length co26, .int .i64 a2] ?_; (with_reducible refine (spec_GreenShare.calls k _ _ t445 _ _ t448 a2 t451 _ ?side1 ?side2 ?side3 ?side4 A11.out).mono ?_); (case side1 => exact cO ⟨(Kd.R_reads' HO447.out).2.2⟩); (case side2 => exact (Kd.R_reads' HO447.out).2.1); (case side3 => repeat (first | exact (Kd.S_reads' HO450.out).2.2 | (with_reducible refine Kd.C_alloc ?_ _) | (with_reducible refine Kd.C_drewN ?_ _) | (with_reducible refine Kd.C_drew ?_))); (case side4 => exact (Kd.S_reads' HO450.out).2.1); rintro e w27 ⟨rfl, hb⟩; refine ⟨_, rfl, ?_⟩; replace HO447 := Aside0.mk (Kd.R_below (rK HO447) hb); replace HO450 := Aside0.mk (Kd.S_below (sK HO450) hb); replace HB := Aside0.mk (below_step bA hb); (try clear hb); (try clear hb2); (try clear hk); (try clear hi)) | ((with_reducible refine gate_callee (f := 18) rfl ?_); refine gL (some 29) Try.func18 #[.slice A0 l0.length c0] ?_; (with_reducible refine (laws_toPathS.calls k _ _ l0 t452 _ ?side1 ?side2 A12.out).mono ?_); (case side1 => exact cB HR0); (case side2 => exact HC0.out); rintro e w28 ⟨v453, rfl, ho0, hb⟩; refine ⟨_, rfl, ?_⟩; replace HO450 := Aside0.mk (Kd.S_below (sK HO450) hb); have HO454 := Aside0.mk (Kd.R_lower (Kd.R_new' ho0 (Kd.R_lt (rK HO447))) (below_size bA)); replace HO447 := Aside0.mk (Kd.R_elder' (rK HO447) (Kd.R_base ho0) hb); replace HB := Aside0.mk (below_step bA hb); (try clear hb); (try clear hb2); (try clear hk); (try clear hi); (try clear ho0)) | ((with_reducible refine gate_callee (f := 19) rfl ?_); refine gL (some 31) Try.func19 #[.slice A1 l1.length c1] ?_; (with_reducible refine (laws_toPartS.calls k _ _ l1 t455 _ ?side1 ?side2 A13.out).mono ?_); (case side1 => exact cB HR1); (case side2 => exact HC1.out); rintro e w29 ⟨v456, rfl, ho0, hb⟩; refine ⟨_, rfl, ?_⟩; replace HO447 := Aside0.mk (Kd.R_below (rK HO447) hb); replace HO454 := Aside0.mk (Kd.R_below (rK HO454) hb); have HO457 := Aside0.mk (Kd.S_lower (Kd.S_new' ho0 (Kd.S_lt (sK HO450))) (below_size bA)); replace HO450 := Aside0.mk (Kd.S_elder' (sK HO450) (Kd.S_base ho0) hb); replace HB := Aside0.mk (below_step bA hb); (try clear hb); (try clear hb2); (try clear hk); (try clear hi); (try clear ho0); obtain ⟨Ao30, co30, eo30⟩ := Kd.R_slice HO454.out; subst eo30; obtain ⟨Ao31, co31, eo31⟩ := Kd.S_slice HO457.out; subst eo31) | ((with_reducible refine gate_callee (f := 28) rfl ?_); refine gL (some 35) Try.func28 #[.slice Ao30 t452.length co30, .slice Ao31 t455.length co31, .int .i64 a2] ?_; (with_reducible refine (impl_GreenShare.calls k _ _ t452 _ _ t455 a2 t458 _ ?side1 ?side2 ?side3 ?side4 A14.out).mono ?_); (case side1 => exact cO ⟨(Kd.R_reads' HO454.out).2.2⟩); (case side2 => exact (Kd.R_reads' HO454.out).2.1); (case side3 => repeat (first | exact (Kd.S_reads' HO457.out).2.2 | (with_reducible refine Kd.C_alloc ?_ _) | (with_reducible refine Kd.C_drewN ?_ _) | (with_reducible refine Kd.C_drew ?_))); (case side4 => exact (Kd.S_reads' HO457.out).2.1); rintro e w32 ⟨rfl, hb⟩; refine ⟨_, rfl, ?_⟩; replace HO447 := Aside0.mk (Kd.R_below (rK HO447) hb); replace HO450 := Aside0.mk (Kd.S_below (sK HO450) hb); replace HO454 := Aside0.mk (Kd.R_below (rK HO454) hb); replace HO457 := Aside0.mk (Kd.S_below (sK HO457) hb); replace HB := Aside0.mk (below_step bA hb); (try clear hb); (try clear hb2); (try clear hk); (try clear hi)) | ((with_reducible refine gate_callee (f := 18) rfl ?_); refine gL (some 41) Try.func18 #[.slice A0 l0.length c0] ?_; (with_reducible refine (laws_toPathS.calls k _ _ l0 t459 _ ?side1 ?side2 A16.out).mono ?_); (case side1 => exact cB HR0); (case side2 => exact HC0.out); rintro e w33 ⟨v460, rfl, ho0, hb⟩; refine ⟨_, rfl, ?_⟩; replace HO450 := Aside0.mk (Kd.S_below (sK HO450) hb); replace HO457 := Aside0.mk (Kd.S_below (sK HO457) hb); have HO461 := Aside0.mk (Kd.R_lower (Kd.R_new' (Kd.R_new' ho0 (Kd.R_lt (rK HO447))) (Kd.R_lt (rK HO454))) (below_size bA)); replace HO447 := Aside0.mk (Kd.R_elder' (rK HO447) (Kd.R_base ho0) hb); replace HO454 := Aside0.mk (Kd.R_elder' (rK HO454) (Kd.R_base ho0) hb); replace HB := Aside0.mk (below_step bA hb); (try clear hb); (try clear hb2); (try clear hk); (try clear hi); (try clear ho0); obtain ⟨Ao34, co34, eo34⟩ := Kd.R_slice HO461.out; subst eo34) | ((with_reducible refine gate_callee (f := 21) rfl ?_); refine gL (some 42) Try.func21 #[.slice Ao30 t452.length co30, .slice Ao34 t459.length co34] ?_; (with_reducible refine (laws_eqPathS.calls k _ _ t452 _ _ t459 true _ ?side1 ?side2 ?side3 ?side4 A17.out).mono ?_); (case side1 => exact cO ⟨(Kd.R_reads' HO454.out).2.2⟩); (case side2 => exact (Kd.R_reads' HO454.out).2.1); (case side3 => exact cO ⟨(Kd.R_reads' HO461.out).2.2⟩); (case side4 => exact (Kd.R_reads' HO461.out).2.1); rintro e w35 ⟨rfl, hb⟩; refine ⟨_, rfl, ?_⟩; replace HO447 := Aside0.mk (Kd.R_below (rK HO447) hb); replace HO450 := Aside0.mk (Kd.S_below (sK HO450) hb); replace HO454 := Aside0.mk (Kd.R_below (rK HO454) hb); replace HO457 := Aside0.mk (Kd.S_below (sK HO457) hb); replace HO461 := Aside0.mk (Kd.R_below (rK HO461) hb); replace HB := Aside0.mk (below_step bA hb); (try clear hb); (try clear hb2); (try clear hk); (try clear hi)) | ((with_reducible refine gate_callee (f := 19) rfl ?_); refine gL (some 46) Try.func19 #[.slice A1 l1.length c1] ?_; (with_reducible refine (laws_toPartS.calls k _ _ l1 t463 _ ?side1 ?side2 A19.out).mono ?_); (case side1 => exact cB HR1); (case side2 => exact HC1.out); rintro e w36 ⟨v464, rfl, ho0, hb⟩; refine ⟨_, rfl, ?_⟩; replace HO447 := Aside0.mk (Kd.R_below (rK HO447) hb); replace HO454 := Aside0.mk (Kd.R_below (rK HO454) hb); replace HO461 := Aside0.mk (Kd.R_below (rK HO461) hb); have HO465 := Aside0.mk (Kd.S_lower (Kd.S_new' (Kd.S_new' ho0 (Kd.S_lt (sK HO450))) (Kd.S_lt (sK HO457))) (below_size bA)); replace HO450 := Aside0.mk (Kd.S_elder' (sK HO450) (Kd.S_base ho0) hb); replace HO457 := Aside0.mk (Kd.S_elder' (sK HO457) (Kd.S_base ho0) hb); replace HB := Aside0.mk (below_step bA hb); (try clear hb); (try clear hb2); (try clear hk); (try clear hi); (try clear ho0); obtain ⟨Ao37, co37, eo37⟩ := Kd.S_slice HO465.out; subst eo37) | ((with_reducible refine gate_callee (f := 22) rfl ?_); refine gL (some 47) Try.func22 #[.slice Ao31 t455.length co31, .slice Ao37 t463.length co37] ?_; (with_reducible refine (laws_eqPartS.calls k _ _ t455 _ _ t463 true _ ?side1 ?side2 ?side3 ?side4 A20.out).mono ?_); (case side1 => repeat (first | exact (Kd.S_reads' HO457.out).2.2 | (with_reducible refine Kd.C_alloc ?_ _) | (with_reducible refine Kd.C_drewN ?_ _) | (with_reducible refine Kd.C_drew ?_))); (case side2 => exact (Kd.S_reads' HO457.out).2.1); (case side3 => repeat (first | exact (Kd.S_reads' HO465.out).2.2 | (with_reducible refine Kd.C_alloc ?_ _) | (with_reducible refine Kd.C_drewN ?_ _) | (with_reducible refine Kd.C_drew ?_))); (case side4 => exact (Kd.S_reads' HO465.out).2.1); rintro e w38 ⟨rfl, hb⟩; refine ⟨_, rfl, ?_⟩; replace HO447 := Aside0.mk (Kd.R_below (rK HO447) hb); replace HO450 := Aside0.mk (Kd.S_below (sK HO450) hb); replace HO454 := Aside0.mk (Kd.R_below (rK HO454) hb); replace HO457 := Aside0.mk (Kd.S_below (sK HO457) hb); replace HO461 := Aside0.mk (Kd.R_below (rK HO461) hb); replace HO465 := Aside0.mk (Kd.S_below (sK HO465) hb); replace HB := Aside0.mk (below_step bA hb); (try clear hb); (try clear hb2); (try clear hk); (try clear hi)))
      go_ret
      exact ⟨rA, bA⟩

end Go.Proofs.Ytbpnbflfpgakmaa.P
