/- Printed by myprint.py (wip/tools) over the kit's print: what Go's functions compute, and that they do. Lean checks it. -/
import Derived.Test.YtbpnbflfpgakmaaF0
import Derived.Test.YtbpnbflfpgakmaaFI09
import Derived.Test.YtbpnbflfpgakmaaFLPart
import Derived.Test.YtbpnbflfpgakmaaFLPath
import Derived.Test.YtbpnbflfpgakmaaFS09
namespace Go.Proofs.Ytbpnbflfpgakmaa.P
open Go.RowKit Go.Proofs.YtbpnbflfpgakmaaW.PrintWords Go.Proofs.YtbpnbflfpgakmaaW.PrintLast Go.Proofs.YtbpnbflfpgakmaaW.PrintMore Go.Proofs.Ytbpnbflfpgakmaa.Sq
attribute [local go_sem] max2_int min2_int max_two min_two max_three min_three max_four min_four
set_option linter.unusedVariables false
set_option linter.unusedSimpArgs false

/-! ### laws_FnExactLightAt: function 9 -/
def laws_FnExactLightAt.f (k : Nat) (l0 : List (S60)) (l1 : List (S49)) (a2 : Int) (a3 : Int) : Option (Bool) := (laws_szPathS.f l0 1048576).bind fun t567 => (if t567 < 0 then (some true) else ((laws_szPartS.f k l1 t567).bind fun t568 => (if t568 < 0 then (some true) else ((laws_toPathS.f k l0).bind fun t569 => ((laws_toPartS.f k l1).bind fun t572 => ((spec_LightAt.f k t569 t572 a2 a3).bind fun t575 => ((laws_toPathS.f k l0).bind fun t576 => ((laws_toPartS.f k l1).bind fun t579 => ((impl_LightAt.f k t576 t579 a2 a3).bind fun t582 => (if t582 = t575 then ((laws_toPathS.f k l0).bind fun t583 => ((laws_eqPathS.f k t576 t583).bind fun t586 => (if t586 = true then ((laws_toPartS.f k l1).bind fun t587 => ((laws_eqPartS.f k t579 t587).bind fun t590 => (if t590 = true then (some true) else (none)))) else (none)))) else (none)))))))))))
theorem laws_FnExactLightAt.mono : ∀ a0 a1 a2 a3 k, LeO (laws_FnExactLightAt.f k a0 a1 a2 a3) (laws_FnExactLightAt.f (k + 1) a0 a1 a2 a3) := by
  intro a0 a1 a2 a3 k
  unfold laws_FnExactLightAt.f
  repeat' first | (with_reducible first | exact LeO.refl _ | exact LeO.none _ | refine LeO.ite ?_ ?_ | refine LeO.bind ?_ (fun _ => ?_) | exact impl_LightAt.mono _ _ _ _ _ | exact laws_eqPartS.mono _ _ _ | exact laws_eqPathS.mono _ _ _ | exact laws_szPartS.mono _ _ _ | exact laws_toPartS.mono _ _ | exact laws_toPathS.mono _ _ | exact spec_LightAt.mono _ _ _ _ _) | exact LeO.none _ | refine LeO.ite ?_ ?_ | refine LeO.bind ?_ (fun _ => ?_) | exact impl_LightAt.mono _ _ _ _ _ | exact laws_eqPartS.mono _ _ _ | exact laws_eqPathS.mono _ _ _ | exact laws_szPartS.mono _ _ _ | exact laws_toPartS.mono _ _ | exact laws_toPathS.mono _ _ | exact spec_LightAt.mono _ _ _ _ _
set_option maxHeartbeats 8000000 in
set_option maxRecDepth 100000 in
theorem laws_FnExactLightAt.calls (k : Nat) (A0 : Option Addr) (c0 : Nat) (l0 : List (S60)) (A1 : Option Addr) (c1 : Nat) (l1 : List (S49)) (a2 : Int) (a3 : Int) (r : Bool) (w : World) (hr0 : Kd.C k60 w A0 l0.length l0) (hc0 : l0.length ≤ c0) (hr1 : Kd.C k49 w A1 l1.length l1) (hc1 : l1.length ≤ c1) (h : laws_FnExactLightAt.f k l0 l1 a2 a3 = some r) :
    Calls Try.prog 9 #[.slice A0 l0.length c0, .slice A1 l1.length c1, .int .i64 a2, .int .i64 a3] w fun e w' => e = .returned (.bool r) ∧ Below w.heap.size w w' := by
  have HR0 := Aside0.mk hr0
  have HC0 := Aside0.mk hc0
  clear hr0 hc0
  have HR1 := Aside0.mk hr1
  have HC1 := Aside0.mk hc1
  clear hr1 hc1
  have HB := Aside0.mk (Below.refl w.heap.size w)
  have H : ((laws_szPathS.f l0 1048576).bind fun t567 => (if t567 < 0 then (some true) else ((laws_szPartS.f k l1 t567).bind fun t568 => (if t568 < 0 then (some true) else ((laws_toPathS.f k l0).bind fun t569 => ((laws_toPartS.f k l1).bind fun t572 => ((spec_LightAt.f k t569 t572 a2 a3).bind fun t575 => ((laws_toPathS.f k l0).bind fun t576 => ((laws_toPartS.f k l1).bind fun t579 => ((impl_LightAt.f k t576 t579 a2 a3).bind fun t582 => (if t582 = t575 then ((laws_toPathS.f k l0).bind fun t583 => ((laws_eqPathS.f k t576 t583).bind fun t586 => (if t586 = true then ((laws_toPartS.f k l1).bind fun t587 => ((laws_eqPartS.f k t579 t587).bind fun t590 => (if t590 = true then (some true) else (none)))) else (none)))) else (none)))))))))))) = some r := h
  clear h
  obtain ⟨t567, A5, H⟩ := bindE H
  try dsimp only at H
  by_cases c6 : t567 < 0
  · rw [if_pos c6] at H
    have c6b0 : decide (t567 < 0) = true := decide_eq_true c6
    clear c6
    obtain rfl := Option.some.inj H
    go_enter Try.func9, Try.ntmps9
    go_wp2_with (first | ((with_reducible refine gate_callee (f := 15) rfl ?_); refine gL (some 16) Try.func15 #[.slice A0 l0.length c0, .int .i64 1048576] ?_; (with_reducible refine (laws_szPathS.calls _ _ l0 1048576 t567 _ ?side1 ?side2 A5.out).mono ?_); (case side1 => exact cO HR0); (case side2 => exact HC0.out); rintro e w' ⟨rfl, ⟨nd, rfl⟩⟩; refine ⟨_, rfl, ?_⟩))
    go_ret
    exact ⟨rA, bA⟩
  · rw [if_neg c6] at H
    have c6b0 : decide (t567 < 0) = false := decide_eq_false c6
    clear c6
    obtain ⟨t568, A7, H⟩ := bindE H
    try dsimp only at H
    by_cases c8 : t568 < 0
    · rw [if_pos c8] at H
      have c8b0 : decide (t568 < 0) = true := decide_eq_true c8
      clear c8
      obtain rfl := Option.some.inj H
      go_enter Try.func9, Try.ntmps9
      go_wp2_with (first | ((with_reducible refine gate_callee (f := 15) rfl ?_); refine gL (some 16) Try.func15 #[.slice A0 l0.length c0, .int .i64 1048576] ?_; (with_reducible refine (laws_szPathS.calls _ _ l0 1048576 t567 _ ?side1 ?side2 A5.out).mono ?_); (case side1 => exact cO HR0); (case side2 => exact HC0.out); rintro e w' ⟨rfl, ⟨nd, rfl⟩⟩; refine ⟨_, rfl, ?_⟩) | ((with_reducible refine gate_callee (f := 16) rfl ?_); refine gL (some 21) Try.func16 #[.slice A1 l1.length c1, .int .i64 t567] ?_; (with_reducible refine (laws_szPartS.calls k _ _ l1 t567 t568 _ ?side1 ?side2 A7.out).mono ?_); (case side1 => exact cO HR1); (case side2 => exact HC1.out); rintro e w9 ⟨rfl, hb⟩; refine ⟨_, rfl, ?_⟩; replace HB := Aside0.mk (below_step bA hb); (try clear hb); (try clear hb2); (try clear hk); (try clear hi)))
      go_ret
      exact ⟨rA, bA⟩
    · rw [if_neg c8] at H
      have c8b0 : decide (t568 < 0) = false := decide_eq_false c8
      clear c8
      obtain ⟨t569, A10, H⟩ := bindE H
      try dsimp only at H
      obtain ⟨t572, A11, H⟩ := bindE H
      try dsimp only at H
      obtain ⟨t575, A12, H⟩ := bindE H
      try dsimp only at H
      obtain ⟨t576, A13, H⟩ := bindE H
      try dsimp only at H
      obtain ⟨t579, A14, H⟩ := bindE H
      try dsimp only at H
      obtain ⟨t582, A15, H⟩ := bindE H
      try dsimp only at H
      have c16 : t582 = t575 := ifN H
      replace H := ifT H
      have c16b0 : (t582 == t575) = true := beq_iff_eq.mpr c16
      have c16b1 : (t582 != t575) = false := bne_eq_false_iff_eq.mpr c16
      clear c16
      obtain ⟨t583, A17, H⟩ := bindE H
      try dsimp only at H
      obtain ⟨t586, A18, H⟩ := bindE H
      try dsimp only at H
      have c19 := ifN H
      replace H := ifT H
      subst c19
      obtain ⟨t587, A20, H⟩ := bindE H
      try dsimp only at H
      obtain ⟨t590, A21, H⟩ := bindE H
      try dsimp only at H
      have c22 := ifN H
      replace H := ifT H
      subst c22
      obtain rfl := Option.some.inj H
      go_enter Try.func9, Try.ntmps9
      go_wp2_with (first | ((with_reducible refine gate_callee (f := 15) rfl ?_); refine gL (some 16) Try.func15 #[.slice A0 l0.length c0, .int .i64 1048576] ?_; (with_reducible refine (laws_szPathS.calls _ _ l0 1048576 t567 _ ?side1 ?side2 A5.out).mono ?_); (case side1 => exact cO HR0); (case side2 => exact HC0.out); rintro e w' ⟨rfl, ⟨nd, rfl⟩⟩; refine ⟨_, rfl, ?_⟩) | ((with_reducible refine gate_callee (f := 16) rfl ?_); refine gL (some 21) Try.func16 #[.slice A1 l1.length c1, .int .i64 t567] ?_; (with_reducible refine (laws_szPartS.calls k _ _ l1 t567 t568 _ ?side1 ?side2 A7.out).mono ?_); (case side1 => exact cO HR1); (case side2 => exact HC1.out); rintro e w23 ⟨rfl, hb⟩; refine ⟨_, rfl, ?_⟩; replace HB := Aside0.mk (below_step bA hb); (try clear hb); (try clear hb2); (try clear hk); (try clear hi)) | ((with_reducible refine gate_callee (f := 18) rfl ?_); refine gL (some 25) Try.func18 #[.slice A0 l0.length c0] ?_; (with_reducible refine (laws_toPathS.calls k _ _ l0 t569 _ ?side1 ?side2 A10.out).mono ?_); (case side1 => exact cB HR0); (case side2 => exact HC0.out); rintro e w24 ⟨v570, rfl, ho0, hb⟩; refine ⟨_, rfl, ?_⟩; have HO571 := Aside0.mk (Kd.R_lower ho0 (below_size bA)); replace HB := Aside0.mk (below_step bA hb); (try clear hb); (try clear hb2); (try clear hk); (try clear hi); (try clear ho0)) | ((with_reducible refine gate_callee (f := 19) rfl ?_); refine gL (some 27) Try.func19 #[.slice A1 l1.length c1] ?_; (with_reducible refine (laws_toPartS.calls k _ _ l1 t572 _ ?side1 ?side2 A11.out).mono ?_); (case side1 => exact cB HR1); (case side2 => exact HC1.out); rintro e w25 ⟨v573, rfl, ho0, hb⟩; refine ⟨_, rfl, ?_⟩; replace HO571 := Aside0.mk (Kd.R_below (rK HO571) hb); have HO574 := Aside0.mk (Kd.S_lower ho0 (below_size bA)); replace HB := Aside0.mk (below_step bA hb); (try clear hb); (try clear hb2); (try clear hk); (try clear hi); (try clear ho0); obtain ⟨Ao26, co26, eo26⟩ := Kd.R_slice HO571.out; subst eo26; obtain ⟨Ao27, co27, eo27⟩ := Kd.S_slice HO574.out; subst eo27) | ((with_reducible refine gate_callee (f := 33) rfl ?_); refine gL (some 30) Try.func33 #[.slice Ao26 t569.length co26, .slice Ao27 t572.length co27, .int .i64 a2, .int .i64 a3] ?_; (with_reducible refine (spec_LightAt.calls k _ _ t569 _ _ t572 a2 a3 t575 _ ?side1 ?side2 ?side3 ?side4 A12.out).mono ?_); (case side1 => exact cO ⟨(Kd.R_reads' HO571.out).2.2⟩); (case side2 => exact (Kd.R_reads' HO571.out).2.1); (case side3 => repeat (first | exact (Kd.S_reads' HO574.out).2.2 | (with_reducible refine Kd.C_alloc ?_ _) | (with_reducible refine Kd.C_drewN ?_ _) | (with_reducible refine Kd.C_drew ?_))); (case side4 => exact (Kd.S_reads' HO574.out).2.1); rintro e w28 ⟨rfl, hb⟩; refine ⟨_, rfl, ?_⟩; replace HO571 := Aside0.mk (Kd.R_below (rK HO571) hb); replace HO574 := Aside0.mk (Kd.S_below (sK HO574) hb); replace HB := Aside0.mk (below_step bA hb); (try clear hb); (try clear hb2); (try clear hk); (try clear hi)) | ((with_reducible refine gate_callee (f := 18) rfl ?_); refine gL (some 32) Try.func18 #[.slice A0 l0.length c0] ?_; (with_reducible refine (laws_toPathS.calls k _ _ l0 t576 _ ?side1 ?side2 A13.out).mono ?_); (case side1 => exact cB HR0); (case side2 => exact HC0.out); rintro e w29 ⟨v577, rfl, ho0, hb⟩; refine ⟨_, rfl, ?_⟩; replace HO574 := Aside0.mk (Kd.S_below (sK HO574) hb); have HO578 := Aside0.mk (Kd.R_lower (Kd.R_new' ho0 (Kd.R_lt (rK HO571))) (below_size bA)); replace HO571 := Aside0.mk (Kd.R_elder' (rK HO571) (Kd.R_base ho0) hb); replace HB := Aside0.mk (below_step bA hb); (try clear hb); (try clear hb2); (try clear hk); (try clear hi); (try clear ho0)) | ((with_reducible refine gate_callee (f := 19) rfl ?_); refine gL (some 34) Try.func19 #[.slice A1 l1.length c1] ?_; (with_reducible refine (laws_toPartS.calls k _ _ l1 t579 _ ?side1 ?side2 A14.out).mono ?_); (case side1 => exact cB HR1); (case side2 => exact HC1.out); rintro e w30 ⟨v580, rfl, ho0, hb⟩; refine ⟨_, rfl, ?_⟩; replace HO571 := Aside0.mk (Kd.R_below (rK HO571) hb); replace HO578 := Aside0.mk (Kd.R_below (rK HO578) hb); have HO581 := Aside0.mk (Kd.S_lower (Kd.S_new' ho0 (Kd.S_lt (sK HO574))) (below_size bA)); replace HO574 := Aside0.mk (Kd.S_elder' (sK HO574) (Kd.S_base ho0) hb); replace HB := Aside0.mk (below_step bA hb); (try clear hb); (try clear hb2); (try clear hk); (try clear hi); (try clear ho0); obtain ⟨Ao31, co31, eo31⟩ := Kd.R_slice HO578.out; subst eo31; obtain ⟨Ao32, co32, eo32⟩ := Kd.S_slice HO581.out; subst eo32) | ((with_reducible refine gate_callee (f := 34) rfl ?_); refine gL (some 39) Try.func34 #[.slice Ao31 t576.length co31, .slice Ao32 t579.length co32, .int .i64 a2, .int .i64 a3] ?_; (with_reducible refine (impl_LightAt.calls k _ _ t576 _ _ t579 a2 a3 t582 _ ?side1 ?side2 ?side3 ?side4 A15.out).mono ?_); (case side1 => exact cO ⟨(Kd.R_reads' HO578.out).2.2⟩); (case side2 => exact (Kd.R_reads' HO578.out).2.1); (case side3 => repeat (first | exact (Kd.S_reads' HO581.out).2.2 | (with_reducible refine Kd.C_alloc ?_ _) | (with_reducible refine Kd.C_drewN ?_ _) | (with_reducible refine Kd.C_drew ?_))); (case side4 => exact (Kd.S_reads' HO581.out).2.1); rintro e w33 ⟨rfl, hb⟩; refine ⟨_, rfl, ?_⟩; replace HO571 := Aside0.mk (Kd.R_below (rK HO571) hb); replace HO574 := Aside0.mk (Kd.S_below (sK HO574) hb); replace HO578 := Aside0.mk (Kd.R_below (rK HO578) hb); replace HO581 := Aside0.mk (Kd.S_below (sK HO581) hb); replace HB := Aside0.mk (below_step bA hb); (try clear hb); (try clear hb2); (try clear hk); (try clear hi)) | ((with_reducible refine gate_callee (f := 18) rfl ?_); refine gL (some 45) Try.func18 #[.slice A0 l0.length c0] ?_; (with_reducible refine (laws_toPathS.calls k _ _ l0 t583 _ ?side1 ?side2 A17.out).mono ?_); (case side1 => exact cB HR0); (case side2 => exact HC0.out); rintro e w34 ⟨v584, rfl, ho0, hb⟩; refine ⟨_, rfl, ?_⟩; replace HO574 := Aside0.mk (Kd.S_below (sK HO574) hb); replace HO581 := Aside0.mk (Kd.S_below (sK HO581) hb); have HO585 := Aside0.mk (Kd.R_lower (Kd.R_new' (Kd.R_new' ho0 (Kd.R_lt (rK HO571))) (Kd.R_lt (rK HO578))) (below_size bA)); replace HO571 := Aside0.mk (Kd.R_elder' (rK HO571) (Kd.R_base ho0) hb); replace HO578 := Aside0.mk (Kd.R_elder' (rK HO578) (Kd.R_base ho0) hb); replace HB := Aside0.mk (below_step bA hb); (try clear hb); (try clear hb2); (try clear hk); (try clear hi); (try clear ho0); obtain ⟨Ao35, co35, eo35⟩ := Kd.R_slice HO585.out; subst eo35) | ((with_reducible refine gate_callee (f := 21) rfl ?_); refine gL (some 46) Try.func21 #[.slice Ao31 t576.length co31, .slice Ao35 t583.length co35] ?_; (with_reducible refine (laws_eqPathS.calls k _ _ t576 _ _ t583 true _ ?side1 ?side2 ?side3 ?side4 A18.out).mono ?_); (case side1 => exact cO ⟨(Kd.R_reads' HO578.out).2.2⟩); (case side2 => exact (Kd.R_reads' HO578.out).2.1); (case side3 => exact cO ⟨(Kd.R_reads' HO585.out).2.2⟩); (case side4 => exact (Kd.R_reads' HO585.out).2.1); rintro e w36 ⟨rfl, hb⟩; refine ⟨_, rfl, ?_⟩; replace HO571 := Aside0.mk (Kd.R_below (rK HO571) hb); replace HO574 := Aside0.mk (Kd.S_below (sK HO574) hb); replace HO578 := Aside0.mk (Kd.R_below (rK HO578) hb); replace HO581 := Aside0.mk (Kd.S_below (sK HO581) hb); replace HO585 := Aside0.mk (Kd.R_below (rK HO585) hb); replace HB := Aside0.mk (below_step bA hb); (try clear hb); (try clear hb2); (try clear hk); (try clear hi)) | ((with_reducible refine gate_callee (f := 19) rfl ?_); refine gL (some 50) Try.func19 #[.slice A1 l1.length c1] ?_; (with_reducible refine (laws_toPartS.calls k _ _ l1 t587 _ ?side1 ?side2 A20.out).mono ?_); (case side1 => exact cB HR1); (case side2 => exact HC1.out); rintro e w37 ⟨v588, rfl, ho0, hb⟩; refine ⟨_, rfl, ?_⟩; replace HO571 := Aside0.mk (Kd.R_below (rK HO571) hb); replace HO578 := Aside0.mk (Kd.R_below (rK HO578) hb); replace HO585 := Aside0.mk (Kd.R_below (rK HO585) hb); have HO589 := Aside0.mk (Kd.S_lower (Kd.S_new' (Kd.S_new' ho0 (Kd.S_lt (sK HO574))) (Kd.S_lt (sK HO581))) (below_size bA)); replace HO574 := Aside0.mk (Kd.S_elder' (sK HO574) (Kd.S_base ho0) hb); replace HO581 := Aside0.mk (Kd.S_elder' (sK HO581) (Kd.S_base ho0) hb); replace HB := Aside0.mk (below_step bA hb); (try clear hb); (try clear hb2); (try clear hk); (try clear hi); (try clear ho0); obtain ⟨Ao38, co38, eo38⟩ := Kd.S_slice HO589.out; subst eo38) | ((with_reducible refine gate_callee (f := 22) rfl ?_); refine gL (some 51) Try.func22 #[.slice Ao32 t579.length co32, .slice Ao38 t587.length co38] ?_; (with_reducible refine (laws_eqPartS.calls k _ _ t579 _ _ t587 true _ ?side1 ?side2 ?side3 ?side4 A21.out).mono ?_); (case side1 => repeat (first | exact (Kd.S_reads' HO581.out).2.2 | (with_reducible refine Kd.C_alloc ?_ _) | (with_reducible refine Kd.C_drewN ?_ _) | (with_reducible refine Kd.C_drew ?_))); (case side2 => exact (Kd.S_reads' HO581.out).2.1); (case side3 => repeat (first | exact (Kd.S_reads' HO589.out).2.2 | (with_reducible refine Kd.C_alloc ?_ _) | (with_reducible refine Kd.C_drewN ?_ _) | (with_reducible refine Kd.C_drew ?_))); (case side4 => exact (Kd.S_reads' HO589.out).2.1); rintro e w39 ⟨rfl, hb⟩; refine ⟨_, rfl, ?_⟩; replace HO571 := Aside0.mk (Kd.R_below (rK HO571) hb); replace HO574 := Aside0.mk (Kd.S_below (sK HO574) hb); replace HO578 := Aside0.mk (Kd.R_below (rK HO578) hb); replace HO581 := Aside0.mk (Kd.S_below (sK HO581) hb); replace HO585 := Aside0.mk (Kd.R_below (rK HO585) hb); replace HO589 := Aside0.mk (Kd.S_below (sK HO589) hb); replace HB := Aside0.mk (below_step bA hb); (try clear hb); (try clear hb2); (try clear hk); (try clear hi)))
      go_ret
      exact ⟨rA, bA⟩

end Go.Proofs.Ytbpnbflfpgakmaa.P
