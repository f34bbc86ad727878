/- Printed by myprint.py (wip/tools) over the kit's print: what Go's functions compute, and that they do. Lean checks it. -/
import Derived.Test.YtbpnbflfpgakmaaF0
import Derived.Test.YtbpnbflfpgakmaaFI09
import Derived.Test.YtbpnbflfpgakmaaFLPart
import Derived.Test.YtbpnbflfpgakmaaFLPath
import Derived.Test.YtbpnbflfpgakmaaFS09
namespace Go.Proofs.Ytbpnbflfpgakmaa.P
open Go.RowKit Go.Proofs.YtbpnbflfpgakmaaW.PrintWords Go.Proofs.YtbpnbflfpgakmaaW.PrintLast Go.Proofs.YtbpnbflfpgakmaaW.PrintMore Go.Proofs.Ytbpnbflfpgakmaa.Sq
attribute [local go_sem] max2_int min2_int max_two min_two max_three min_three max_four min_four
set_option linter.unusedVariables false
set_option linter.unusedSimpArgs false

/-! ### laws_FnExactWaitOf: function 12 -/
def laws_FnExactWaitOf.f (k : Nat) (l0 : List (S60)) (l1 : List (S49)) (a2 : Int) : Option (Bool) := (laws_szPathS.f l0 1048576).bind fun t706 => (if t706 < 0 then (some true) else ((laws_szPartS.f k l1 t706).bind fun t707 => (if t707 < 0 then (some true) else ((laws_toPathS.f k l0).bind fun t708 => ((laws_toPartS.f k l1).bind fun t711 => ((spec_WaitOf.f k t708 t711 a2).bind fun t714 => ((laws_toPathS.f k l0).bind fun t715 => ((laws_toPartS.f k l1).bind fun t718 => ((impl_WaitOf.f k t715 t718 a2).bind fun t721 => (if t721 = t714 then ((laws_toPathS.f k l0).bind fun t722 => ((laws_eqPathS.f k t715 t722).bind fun t725 => (if t725 = true then ((laws_toPartS.f k l1).bind fun t726 => ((laws_eqPartS.f k t718 t726).bind fun t729 => (if t729 = true then (some true) else (none)))) else (none)))) else (none)))))))))))
theorem laws_FnExactWaitOf.mono : ∀ a0 a1 a2 k, LeO (laws_FnExactWaitOf.f k a0 a1 a2) (laws_FnExactWaitOf.f (k + 1) a0 a1 a2) := by
  intro a0 a1 a2 k
  unfold laws_FnExactWaitOf.f
  repeat' first | (with_reducible first | exact LeO.refl _ | exact LeO.none _ | refine LeO.ite ?_ ?_ | refine LeO.bind ?_ (fun _ => ?_) | exact impl_WaitOf.mono _ _ _ _ | exact laws_eqPartS.mono _ _ _ | exact laws_eqPathS.mono _ _ _ | exact laws_szPartS.mono _ _ _ | exact laws_toPartS.mono _ _ | exact laws_toPathS.mono _ _ | exact spec_WaitOf.mono _ _ _ _) | exact LeO.none _ | refine LeO.ite ?_ ?_ | refine LeO.bind ?_ (fun _ => ?_) | exact impl_WaitOf.mono _ _ _ _ | exact laws_eqPartS.mono _ _ _ | exact laws_eqPathS.mono _ _ _ | exact laws_szPartS.mono _ _ _ | exact laws_toPartS.mono _ _ | exact laws_toPathS.mono _ _ | exact spec_WaitOf.mono _ _ _ _
set_option maxHeartbeats 8000000 in
set_option maxRecDepth 100000 in
theorem laws_FnExactWaitOf.calls (k : Nat) (A0 : Option Addr) (c0 : Nat) (l0 : List (S60)) (A1 : Option Addr) (c1 : Nat) (l1 : List (S49)) (a2 : Int) (r : Bool) (w : World) (hr0 : Kd.C k60 w A0 l0.length l0) (hc0 : l0.length ≤ c0) (hr1 : Kd.C k49 w A1 l1.length l1) (hc1 : l1.length ≤ c1) (h : laws_FnExactWaitOf.f k l0 l1 a2 = some r) :
    Calls Try.prog 12 #[.slice A0 l0.length c0, .slice A1 l1.length c1, .int .i64 a2] w fun e w' => e = .returned (.bool r) ∧ Below w.heap.size w w' := by
  have HR0 := Aside0.mk hr0
  have HC0 := Aside0.mk hc0
  clear hr0 hc0
  have HR1 := Aside0.mk hr1
  have HC1 := Aside0.mk hc1
  clear hr1 hc1
  have HB := Aside0.mk (Below.refl w.heap.size w)
  have H : ((laws_szPathS.f l0 1048576).bind fun t706 => (if t706 < 0 then (some true) else ((laws_szPartS.f k l1 t706).bind fun t707 => (if t707 < 0 then (some true) else ((laws_toPathS.f k l0).bind fun t708 => ((laws_toPartS.f k l1).bind fun t711 => ((spec_WaitOf.f k t708 t711 a2).bind fun t714 => ((laws_toPathS.f k l0).bind fun t715 => ((laws_toPartS.f k l1).bind fun t718 => ((impl_WaitOf.f k t715 t718 a2).bind fun t721 => (if t721 = t714 then ((laws_toPathS.f k l0).bind fun t722 => ((laws_eqPathS.f k t715 t722).bind fun t725 => (if t725 = true then ((laws_toPartS.f k l1).bind fun t726 => ((laws_eqPartS.f k t718 t726).bind fun t729 => (if t729 = true then (some true) else (none)))) else (none)))) else (none)))))))))))) = some r := h
  clear h
  obtain ⟨t706, A4, H⟩ := bindE H
  try dsimp only at H
  by_cases c5 : t706 < 0
  · rw [if_pos c5] at H
    have c5b0 : decide (t706 < 0) = true := decide_eq_true c5
    clear c5
    obtain rfl := Option.some.inj H
    go_enter Try.func12, Try.ntmps12
    go_wp2_with (first | ((with_reducible refine gate_callee (f := 15) rfl ?_); refine gL (some 14) Try.func15 #[.slice A0 l0.length c0, .int .i64 1048576] ?_; (with_reducible refine (laws_szPathS.calls _ _ l0 1048576 t706 _ ?side1 ?side2 A4.out).mono ?_); (case side1 => exact cO HR0); (case side2 => exact HC0.out); rintro e w' ⟨rfl, ⟨nd, rfl⟩⟩; refine ⟨_, rfl, ?_⟩))
    go_ret
    exact ⟨rA, bA⟩
  · rw [if_neg c5] at H
    have c5b0 : decide (t706 < 0) = false := decide_eq_false c5
    clear c5
    obtain ⟨t707, A6, H⟩ := bindE H
    try dsimp only at H
    by_cases c7 : t707 < 0
    · rw [if_pos c7] at H
      have c7b0 : decide (t707 < 0) = true := decide_eq_true c7
      clear c7
      obtain rfl := Option.some.inj H
      go_enter Try.func12, Try.ntmps12
      go_wp2_with (first | ((with_reducible refine gate_callee (f := 15) rfl ?_); refine gL (some 14) Try.func15 #[.slice A0 l0.length c0, .int .i64 1048576] ?_; (with_reducible refine (laws_szPathS.calls _ _ l0 1048576 t706 _ ?side1 ?side2 A4.out).mono ?_); (case side1 => exact cO HR0); (case side2 => exact HC0.out); rintro e w' ⟨rfl, ⟨nd, rfl⟩⟩; refine ⟨_, rfl, ?_⟩) | ((with_reducible refine gate_callee (f := 16) rfl ?_); refine gL (some 19) Try.func16 #[.slice A1 l1.length c1, .int .i64 t706] ?_; (with_reducible refine (laws_szPartS.calls k _ _ l1 t706 t707 _ ?side1 ?side2 A6.out).mono ?_); (case side1 => exact cO HR1); (case side2 => exact HC1.out); rintro e w8 ⟨rfl, hb⟩; refine ⟨_, rfl, ?_⟩; replace HB := Aside0.mk (below_step bA hb); (try clear hb); (try clear hb2); (try clear hk); (try clear hi)))
      go_ret
      exact ⟨rA, bA⟩
    · rw [if_neg c7] at H
      have c7b0 : decide (t707 < 0) = false := decide_eq_false c7
      clear c7
      obtain ⟨t708, A9, H⟩ := bindE H
      try dsimp only at H
      obtain ⟨t711, A10, H⟩ := bindE H
      try dsimp only at H
      obtain ⟨t714, A11, H⟩ := bindE H
      try dsimp only at H
      obtain ⟨t715, A12, H⟩ := bindE H
      try dsimp only at H
      obtain ⟨t718, A13, H⟩ := bindE H
      try dsimp only at H
      obtain ⟨t721, A14, H⟩ := bindE H
      try dsimp only at H
      have c15 : t721 = t714 := ifN H
      replace H := ifT H
      have c15b0 : (t721 == t714) = true := beq_iff_eq.mpr c15
      have c15b1 : (t721 != t714) = false := bne_eq_false_iff_eq.mpr c15
      clear c15
      obtain ⟨t722, A16, H⟩ := bindE H
      try dsimp only at H
      obtain ⟨t725, A17, H⟩ := bindE H
      try dsimp only at H
      have c18 := ifN H
      replace H := ifT H
      subst c18
      obtain ⟨t726, A19, H⟩ := bindE H
      try dsimp only at H
      obtain ⟨t729, A20, H⟩ := bindE H
      try dsimp only at H
      have c21 := ifN H
      replace H := ifT H
      subst c21
      obtain rfl := Option.some.inj H
      go_enter Try.func12, Try.ntmps12
      go_wp2_with (first | ((with_reducible refine gate_callee (f := 15) rfl ?_); refine gL (some 14) Try.func15 #[.slice A0 l0.length c0, .int .i64 1048576] ?_; (with_reducible refine (laws_szPathS.calls _ _ l0 1048576 t706 _ ?side1 ?side2 A4.out).mono ?_); (case side1 => exact cO HR0); (case side2 => exact HC0.out); rintro e w' ⟨rfl, ⟨nd, rfl⟩⟩; refine ⟨_, rfl, ?_⟩) | ((with_reducible refine gate_callee (f := 16) rfl ?_); refine gL (some 19) Try.func16 #[.slice A1 l1.length c1, .int .i64 t706] ?_; (with_reducible refine (laws_szPartS.calls k _ _ l1 t706 t707 _ ?side1 ?side2 A6.out).mono ?_); (case side1 => exact cO HR1); (case side2 => exact HC1.out); rintro e w22 ⟨rfl, hb⟩; refine ⟨_, rfl, ?_⟩; replace HB := Aside0.mk (below_step bA hb); (try clear hb); (try clear hb2); (try clear hk); (try clear hi)) | ((with_reducible refine gate_callee (f := 18) rfl ?_); refine gL (some 23) Try.func18 #[.slice A0 l0.length c0] ?_; (with_reducible refine (laws_toPathS.calls k _ _ l0 t708 _ ?side1 ?side2 A9.out).mono ?_); (case side1 => exact cB HR0); (case side2 => exact HC0.out); rintro e w23 ⟨v709, rfl, ho0, hb⟩; refine ⟨_, rfl, ?_⟩; have HO710 := Aside0.mk (Kd.R_lower ho0 (below_size bA)); replace HB := Aside0.mk (below_step bA hb); (try clear hb); (try clear hb2); (try clear hk); (try clear hi); (try clear ho0)) | ((with_reducible refine gate_callee (f := 19) rfl ?_); refine gL (some 25) Try.func19 #[.slice A1 l1.length c1] ?_; (with_reducible refine (laws_toPartS.calls k _ _ l1 t711 _ ?side1 ?side2 A10.out).mono ?_); (case side1 => exact cB HR1); (case side2 => exact HC1.out); rintro e w24 ⟨v712, rfl, ho0, hb⟩; refine ⟨_, rfl, ?_⟩; replace HO710 := Aside0.mk (Kd.R_below (rK HO710) hb); have HO713 := Aside0.mk (Kd.S_lower ho0 (below_size bA)); replace HB := Aside0.mk (below_step bA hb); (try clear hb); (try clear hb2); (try clear hk); (try clear hi); (try clear ho0); obtain ⟨Ao25, co25, eo25⟩ := Kd.R_slice HO710.out; subst eo25; obtain ⟨Ao26, co26, eo26⟩ := Kd.S_slice HO713.out; subst eo26) | ((with_reducible refine gate_callee (f := 44) rfl ?_); refine gL (some 27) Try.func44 #[.slice Ao25 t708.length co25, .slice Ao26 t711.length co26, .int .i64 a2] ?_; (with_reducible refine (spec_WaitOf.calls k _ _ t708 _ _ t711 a2 t714 _ ?side1 ?side2 ?side3 ?side4 A11.out).mono ?_); (case side1 => exact cO ⟨(Kd.R_reads' HO710.out).2.2⟩); (case side2 => exact (Kd.R_reads' HO710.out).2.1); (case side3 => repeat (first | exact (Kd.S_reads' HO713.out).2.2 | (with_reducible refine Kd.C_alloc ?_ _) | (with_reducible refine Kd.C_drewN ?_ _) | (with_reducible refine Kd.C_drew ?_))); (case side4 => exact (Kd.S_reads' HO713.out).2.1); rintro e w27 ⟨rfl, hb⟩; refine ⟨_, rfl, ?_⟩; replace HO710 := Aside0.mk (Kd.R_below (rK HO710) hb); replace HO713 := Aside0.mk (Kd.S_below (sK HO713) hb); replace HB := Aside0.mk (below_step bA hb); (try clear hb); (try clear hb2); (try clear hk); (try clear hi)) | ((with_reducible refine gate_callee (f := 18) rfl ?_); refine gL (some 29) Try.func18 #[.slice A0 l0.length c0] ?_; (with_reducible refine (laws_toPathS.calls k _ _ l0 t715 _ ?side1 ?side2 A12.out).mono ?_); (case side1 => exact cB HR0); (case side2 => exact HC0.out); rintro e w28 ⟨v716, rfl, ho0, hb⟩; refine ⟨_, rfl, ?_⟩; replace HO713 := Aside0.mk (Kd.S_below (sK HO713) hb); have HO717 := Aside0.mk (Kd.R_lower (Kd.R_new' ho0 (Kd.R_lt (rK HO710))) (below_size bA)); replace HO710 := Aside0.mk (Kd.R_elder' (rK HO710) (Kd.R_base ho0) hb); replace HB := Aside0.mk (below_step bA hb); (try clear hb); (try clear hb2); (try clear hk); (try clear hi); (try clear ho0)) | ((with_reducible refine gate_callee (f := 19) rfl ?_); refine gL (some 31) Try.func19 #[.slice A1 l1.length c1] ?_; (with_reducible refine (laws_toPartS.calls k _ _ l1 t718 _ ?side1 ?side2 A13.out).mono ?_); (case side1 => exact cB HR1); (case side2 => exact HC1.out); rintro e w29 ⟨v719, rfl, ho0, hb⟩; refine ⟨_, rfl, ?_⟩; replace HO710 := Aside0.mk (Kd.R_below (rK HO710) hb); replace HO717 := Aside0.mk (Kd.R_below (rK HO717) hb); have HO720 := Aside0.mk (Kd.S_lower (Kd.S_new' ho0 (Kd.S_lt (sK HO713))) (below_size bA)); replace HO713 := Aside0.mk (Kd.S_elder' (sK HO713) (Kd.S_base ho0) hb); replace HB := Aside0.mk (below_step bA hb); (try clear hb); (try clear hb2); (try clear hk); (try clear hi); (try clear ho0); obtain ⟨Ao30, co30, eo30⟩ := Kd.R_slice HO717.out; subst eo30; obtain ⟨Ao31, co31, eo31⟩ := Kd.S_slice HO720.out; subst eo31) | ((with_reducible refine gate_callee (f := 45) rfl ?_); refine gL (some 35) Try.func45 #[.slice Ao30 t715.length co30, .slice Ao31 t718.length co31, .int .i64 a2] ?_; (with_reducible refine (impl_WaitOf.calls k _ _ t715 _ _ t718 a2 t721 _ ?side1 ?side2 ?side3 ?side4 A14.out).mono ?_); (case side1 => exact cO ⟨(Kd.R_reads' HO717.out).2.2⟩); (case side2 => exact (Kd.R_reads' HO717.out).2.1); (case side3 => repeat (first | exact (Kd.S_reads' HO720.out).2.2 | (with_reducible refine Kd.C_alloc ?_ _) | (with_reducible refine Kd.C_drewN ?_ _) | (with_reducible refine Kd.C_drew ?_))); (case side4 => exact (Kd.S_reads' HO720.out).2.1); rintro e w32 ⟨rfl, hb⟩; refine ⟨_, rfl, ?_⟩; replace HO710 := Aside0.mk (Kd.R_below (rK HO710) hb); replace HO713 := Aside0.mk (Kd.S_below (sK HO713) hb); replace HO717 := Aside0.mk (Kd.R_below (rK HO717) hb); replace HO720 := Aside0.mk (Kd.S_below (sK HO720) hb); replace HB := Aside0.mk (below_step bA hb); (try clear hb); (try clear hb2); (try clear hk); (try clear hi)) | ((with_reducible refine gate_callee (f := 18) rfl ?_); refine gL (some 41) Try.func18 #[.slice A0 l0.length c0] ?_; (with_reducible refine (laws_toPathS.calls k _ _ l0 t722 _ ?side1 ?side2 A16.out).mono ?_); (case side1 => exact cB HR0); (case side2 => exact HC0.out); rintro e w33 ⟨v723, rfl, ho0, hb⟩; refine ⟨_, rfl, ?_⟩; replace HO713 := Aside0.mk (Kd.S_below (sK HO713) hb); replace HO720 := Aside0.mk (Kd.S_below (sK HO720) hb); have HO724 := Aside0.mk (Kd.R_lower (Kd.R_new' (Kd.R_new' ho0 (Kd.R_lt (rK HO710))) (Kd.R_lt (rK HO717))) (below_size bA)); replace HO710 := Aside0.mk (Kd.R_elder' (rK HO710) (Kd.R_base ho0) hb); replace HO717 := Aside0.mk (Kd.R_elder' (rK HO717) (Kd.R_base ho0) hb); replace HB := Aside0.mk (below_step bA hb); (try clear hb); (try clear hb2); (try clear hk); (try clear hi); (try clear ho0); obtain ⟨Ao34, co34, eo34⟩ := Kd.R_slice HO724.out; subst eo34) | ((with_reducible refine gate_callee (f := 21) rfl ?_); refine gL (some 42) Try.func21 #[.slice Ao30 t715.length co30, .slice Ao34 t722.length co34] ?_; (with_reducible refine (laws_eqPathS.calls k _ _ t715 _ _ t722 true _ ?side1 ?side2 ?side3 ?side4 A17.out).mono ?_); (case side1 => exact cO ⟨(Kd.R_reads' HO717.out).2.2⟩); (case side2 => exact (Kd.R_reads' HO717.out).2.1); (case side3 => exact cO ⟨(Kd.R_reads' HO724.out).2.2⟩); (case side4 => exact (Kd.R_reads' HO724.out).2.1); rintro e w35 ⟨rfl, hb⟩; refine ⟨_, rfl, ?_⟩; replace HO710 := Aside0.mk (Kd.R_below (rK HO710) hb); replace HO713 := Aside0.mk (Kd.S_below (sK HO713) hb); replace HO717 := Aside0.mk (Kd.R_below (rK HO717) hb); replace HO720 := Aside0.mk (Kd.S_below (sK HO720) hb); replace HO724 := Aside0.mk (Kd.R_below (rK HO724) hb); replace HB := Aside0.mk (below_step bA hb); (try clear hb); (try clear hb2); (try clear hk); (try clear hi)) | ((with_reducible refine gate_callee (f := 19) rfl ?_); refine gL (some 46) Try.func19 #[.slice A1 l1.length c1] ?_; (with_reducible refine (laws_toPartS.calls k _ _ l1 t726 _ ?side1 ?side2 A19.out).mono ?_); (case side1 => exact cB HR1); (case side2 => exact HC1.out); rintro e w36 ⟨v727, rfl, ho0, hb⟩; refine ⟨_, rfl, ?_⟩; replace HO710 := Aside0.mk (Kd.R_below (rK HO710) hb); replace HO717 := Aside0.mk (Kd.R_below (rK HO717) hb); replace HO724 := Aside0.mk (Kd.R_below (rK HO724) hb); have HO728 := Aside0.mk (Kd.S_lower (Kd.S_new' (Kd.S_new' ho0 (Kd.S_lt (sK HO713))) (Kd.S_lt (sK HO720))) (below_size bA)); replace HO713 := Aside0.mk (Kd.S_elder' (sK HO713) (Kd.S_base ho0) hb); replace HO720 := Aside0.mk (Kd.S_elder' (sK HO720) (Kd.S_base ho0) hb); replace HB := Aside0.mk (below_step bA hb); (try clear hb); (try clear hb2); (try clear hk); (try clear hi); (try clear ho0); obtain ⟨Ao37, co37, eo37⟩ := Kd.S_slice HO728.out; subst eo37) | ((with_reducible refine gate_callee (f := 22) rfl ?_); refine gL (some 47) Try.func22 #[.slice Ao31 t718.length co31, .slice Ao37 t726.length co37] ?_; (with_reducible refine (laws_eqPartS.calls k _ _ t718 _ _ t726 true _ ?side1 ?side2 ?side3 ?side4 A20.out).mono ?_); (case side1 => repeat (first | exact (Kd.S_reads' HO720.out).2.2 | (with_reducible refine Kd.C_alloc ?_ _) | (with_reducible refine Kd.C_drewN ?_ _) | (with_reducible refine Kd.C_drew ?_))); (case side2 => exact (Kd.S_reads' HO720.out).2.1); (case side3 => repeat (first | exact (Kd.S_reads' HO728.out).2.2 | (with_reducible refine Kd.C_alloc ?_ _) | (with_reducible refine Kd.C_drewN ?_ _) | (with_reducible refine Kd.C_drew ?_))); (case side4 => exact (Kd.S_reads' HO728.out).2.1); rintro e w38 ⟨rfl, hb⟩; refine ⟨_, rfl, ?_⟩; replace HO710 := Aside0.mk (Kd.R_below (rK HO710) hb); replace HO713 := Aside0.mk (Kd.S_below (sK HO713) hb); replace HO717 := Aside0.mk (Kd.R_below (rK HO717) hb); replace HO720 := Aside0.mk (Kd.S_below (sK HO720) hb); replace HO724 := Aside0.mk (Kd.R_below (rK HO724) hb); replace HO728 := Aside0.mk (Kd.S_below (sK HO728) hb); replace HB := Aside0.mk (below_step bA hb); (try clear hb); (try clear hb2); (try clear hk); (try clear hi)))
      go_ret
      exact ⟨rA, bA⟩

end Go.Proofs.Ytbpnbflfpgakmaa.P
