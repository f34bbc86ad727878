/- Printed by myprint.py (wip/tools) over the kit's print: what Go's functions compute, and that they do. Lean checks it. -/
import Derived.Test.YtbpnbflfpgakmaaF0
import Derived.Test.YtbpnbflfpgakmaaFI09
import Derived.Test.YtbpnbflfpgakmaaFLPart
import Derived.Test.YtbpnbflfpgakmaaFLPath
import Derived.Test.YtbpnbflfpgakmaaFS09
namespace Go.Proofs.Ytbpnbflfpgakmaa.P
open Go.RowKit Go.Proofs.YtbpnbflfpgakmaaW.PrintWords Go.Proofs.YtbpnbflfpgakmaaW.PrintLast Go.Proofs.YtbpnbflfpgakmaaW.PrintMore Go.Proofs.Ytbpnbflfpgakmaa.Sq
attribute [local go_sem] max2_int min2_int max_two min_two max_three min_three max_four min_four
set_option linter.unusedVariables false
set_option linter.unusedSimpArgs false

/-! ### laws_FnExactGreenOf: function 11 -/
def laws_FnExactGreenOf.f (k : Nat) (l0 : List (S60)) (l1 : List (S49)) (a2 : Int) : Option (Bool) := (laws_szPathS.f l0 1048576).bind fun t671 => (if t671 < 0 then (some true) else ((laws_szPartS.f k l1 t671).bind fun t672 => (if t672 < 0 then (some true) else ((laws_toPathS.f k l0).bind fun t673 => ((laws_toPartS.f k l1).bind fun t676 => ((spec_GreenOf.f k t673 t676 a2).bind fun t679 => ((laws_toPathS.f k l0).bind fun t680 => ((laws_toPartS.f k l1).bind fun t683 => ((impl_GreenOf.f k t680 t683 a2).bind fun t686 => (if t686 = t679 then ((laws_toPathS.f k l0).bind fun t687 => ((laws_eqPathS.f k t680 t687).bind fun t690 => (if t690 = true then ((laws_toPartS.f k l1).bind fun t691 => ((laws_eqPartS.f k t683 t691).bind fun t694 => (if t694 = true then (some true) else (none)))) else (none)))) else (none)))))))))))
theorem laws_FnExactGreenOf.mono : ∀ a0 a1 a2 k, LeO (laws_FnExactGreenOf.f k a0 a1 a2) (laws_FnExactGreenOf.f (k + 1) a0 a1 a2) := by
  intro a0 a1 a2 k
  unfold laws_FnExactGreenOf.f
  repeat' first | (with_reducible first | exact LeO.refl _ | exact LeO.none _ | refine LeO.ite ?_ ?_ | refine LeO.bind ?_ (fun _ => ?_) | exact impl_GreenOf.mono _ _ _ _ | exact laws_eqPartS.mono _ _ _ | exact laws_eqPathS.mono _ _ _ | exact laws_szPartS.mono _ _ _ | exact laws_toPartS.mono _ _ | exact laws_toPathS.mono _ _ | exact spec_GreenOf.mono _ _ _ _) | exact LeO.none _ | refine LeO.ite ?_ ?_ | refine LeO.bind ?_ (fun _ => ?_) | exact impl_GreenOf.mono _ _ _ _ | exact laws_eqPartS.mono _ _ _ | exact laws_eqPathS.mono _ _ _ | exact laws_szPartS.mono _ _ _ | exact laws_toPartS.mono _ _ | exact laws_toPathS.mono _ _ | exact spec_GreenOf.mono _ _ _ _
set_option maxHeartbeats 8000000 in
set_option maxRecDepth 100000 in
theorem laws_FnExactGreenOf.calls (k : Nat) (A0 : Option Addr) (c0 : Nat) (l0 : List (S60)) (A1 : Option Addr) (c1 : Nat) (l1 : List (S49)) (a2 : Int) (r : Bool) (w : World) (hr0 : Kd.C k60 w A0 l0.length l0) (hc0 : l0.length ≤ c0) (hr1 : Kd.C k49 w A1 l1.length l1) (hc1 : l1.length ≤ c1) (h : laws_FnExactGreenOf.f k l0 l1 a2 = some r) :
    Calls Try.prog 11 #[.slice A0 l0.length c0, .slice A1 l1.length c1, .int .i64 a2] w fun e w' => e = .returned (.bool r) ∧ Below w.heap.size w w' := by
  have HR0 := Aside0.mk hr0
  have HC0 := Aside0.mk hc0
  clear hr0 hc0
  have HR1 := Aside0.mk hr1
  have HC1 := Aside0.mk hc1
  clear hr1 hc1
  have HB := Aside0.mk (Below.refl w.heap.size w)
  have H : ((laws_szPathS.f l0 1048576).bind fun t671 => (if t671 < 0 then (some true) else ((laws_szPartS.f k l1 t671).bind fun t672 => (if t672 < 0 then (some true) else ((laws_toPathS.f k l0).bind fun t673 => ((laws_toPartS.f k l1).bind fun t676 => ((spec_GreenOf.f k t673 t676 a2).bind fun t679 => ((laws_toPathS.f k l0).bind fun t680 => ((laws_toPartS.f k l1).bind fun t683 => ((impl_GreenOf.f k t680 t683 a2).bind fun t686 => (if t686 = t679 then ((laws_toPathS.f k l0).bind fun t687 => ((laws_eqPathS.f k t680 t687).bind fun t690 => (if t690 = true then ((laws_toPartS.f k l1).bind fun t691 => ((laws_eqPartS.f k t683 t691).bind fun t694 => (if t694 = true then (some true) else (none)))) else (none)))) else (none)))))))))))) = some r := h
  clear h
  obtain ⟨t671, A4, H⟩ := bindE H
  try dsimp only at H
  by_cases c5 : t671 < 0
  · rw [if_pos c5] at H
    have c5b0 : decide (t671 < 0) = true := decide_eq_true c5
    clear c5
    obtain rfl := Option.some.inj H
    go_enter Try.func11, Try.ntmps11
    go_wp2_with (first | ((with_reducible refine gate_callee (f := 15) rfl ?_); refine gL (some 14) Try.func15 #[.slice A0 l0.length c0, .int .i64 1048576] ?_; (with_reducible refine (laws_szPathS.calls _ _ l0 1048576 t671 _ ?side1 ?side2 A4.out).mono ?_); (case side1 => exact cO HR0); (case side2 => exact HC0.out); rintro e w' ⟨rfl, ⟨nd, rfl⟩⟩; refine ⟨_, rfl, ?_⟩))
    go_ret
    exact ⟨rA, bA⟩
  · rw [if_neg c5] at H
    have c5b0 : decide (t671 < 0) = false := decide_eq_false c5
    clear c5
    obtain ⟨t672, A6, H⟩ := bindE H
    try dsimp only at H
    by_cases c7 : t672 < 0
    · rw [if_pos c7] at H
      have c7b0 : decide (t672 < 0) = true := decide_eq_true c7
      clear c7
      obtain rfl := Option.some.inj H
      go_enter Try.func11, Try.ntmps11
      go_wp2_with (first | ((with_reducible refine gate_callee (f := 15) rfl ?_); refine gL (some 14) Try.func15 #[.slice A0 l0.length c0, .int .i64 1048576] ?_; (with_reducible refine (laws_szPathS.calls _ _ l0 1048576 t671 _ ?side1 ?side2 A4.out).mono ?_); (case side1 => exact cO HR0); (case side2 => exact HC0.out); rintro e w' ⟨rfl, ⟨nd, rfl⟩⟩; refine ⟨_, rfl, ?_⟩) | ((with_reducible refine gate_callee (f := 16) rfl ?_); refine gL (some 19) Try.func16 #[.slice A1 l1.length c1, .int .i64 t671] ?_; (with_reducible refine (laws_szPartS.calls k _ _ l1 t671 t672 _ ?side1 ?side2 A6.out).mono ?_); (case side1 => exact cO HR1); (case side2 => exact HC1.out); rintro e w8 ⟨rfl, hb⟩; refine ⟨_, rfl, ?_⟩; replace HB := Aside0.mk (below_step bA hb); (try clear hb); (try clear hb2); (try clear hk); (try clear hi)))
      go_ret
      exact ⟨rA, bA⟩
    · rw [if_neg c7] at H
      have c7b0 : decide (t672 < 0) = false := decide_eq_false c7
      clear c7
      obtain ⟨t673, A9, H⟩ := bindE H
      try dsimp only at H
      obtain ⟨t676, A10, H⟩ := bindE H
      try dsimp only at H
      obtain ⟨t679, A11, H⟩ := bindE H
      try dsimp only at H
      obtain ⟨t680, A12, H⟩ := bindE H
      try dsimp only at H
      obtain ⟨t683, A13, H⟩ := bindE H
      try dsimp only at H
      obtain ⟨t686, A14, H⟩ := bindE H
      try dsimp only at H
      have c15 : t686 = t679 := ifN H
      replace H := ifT H
      have c15b0 : (t686 == t679) = true := beq_iff_eq.mpr c15
      have c15b1 : (t686 != t679) = false := bne_eq_false_iff_eq.mpr c15
      clear c15
      obtain ⟨t687, A16, H⟩ := bindE H
      try dsimp only at H
      obtain ⟨t690, A17, H⟩ := bindE H
      try dsimp only at H
      have c18 := ifN H
      replace H := ifT H
      subst c18
      obtain ⟨t691, A19, H⟩ := bindE H
      try dsimp only at H
      obtain ⟨t694, A20, H⟩ := bindE H
      try dsimp only at H
      have c21 := ifN H
      replace H := ifT H
      subst c21
      obtain rfl := Option.some.inj H
      go_enter Try.func11, Try.ntmps11
      go_wp2_with (first | ((with_reducible refine gate_callee (f := 15) rfl ?_); refine gL (some 14) Try.func15 #[.slice A0 l0.length c0, .int .i64 1048576] ?_; (with_reducible refine (laws_szPathS.calls _ _ l0 1048576 t671 _ ?side1 ?side2 A4.out).mono ?_); (case side1 => exact cO HR0); (case side2 => exact HC0.out); rintro e w' ⟨rfl, ⟨nd, rfl⟩⟩; refine ⟨_, rfl, ?_⟩) | ((with_reducible refine gate_callee (f := 16) rfl ?_); refine gL (some 19) Try.func16 #[.slice A1 l1.length c1, .int .i64 t671] ?_; (with_reducible refine (laws_szPartS.calls k _ _ l1 t671 t672 _ ?side1 ?side2 A6.out).mono ?_); (case side1 => exact cO HR1); (case side2 => exact HC1.out); rintro e w22 ⟨rfl, hb⟩; refine ⟨_, rfl, ?_⟩; replace HB := Aside0.mk (below_step bA hb); (try clear hb); (try clear hb2); (try clear hk); (try clear hi)) | ((with_reducible refine gate_callee (f := 18) rfl ?_); refine gL (some 23) Try.func18 #[.slice A0 l0.length c0] ?_; (with_reducible refine (laws_toPathS.calls k _ _ l0 t673 _ ?side1 ?side2 A9.out).mono ?_); (case side1 => exact cB HR0); (case side2 => exact HC0.out); rintro e w23 ⟨v674, rfl, ho0, hb⟩; refine ⟨_, rfl, ?_⟩; have HO675 := Aside0.mk (Kd.R_lower ho0 (below_size bA)); replace HB := Aside0.mk (below_step bA hb); (try clear hb); (try clear hb2); (try clear hk); (try clear hi); (try clear ho0)) | ((with_reducible refine gate_callee (f := 19) rfl ?_); refine gL (some 25) Try.func19 #[.slice A1 l1.length c1] ?_; (with_reducible refine (laws_toPartS.calls k _ _ l1 t676 _ ?side1 ?side2 A10.out).mono ?_); (case side1 => exact cB HR1); (case side2 => exact HC1.out); rintro e w24 ⟨v677, rfl, ho0, hb⟩; refine ⟨_, rfl, ?_⟩; replace HO675 := Aside0.mk (Kd.R_below (rK HO675) hb); have HO678 := Aside0.mk (Kd.S_lower ho0 (below_size bA)); replace HB := Aside0.mk (below_step bA hb); (try clear hb); (try clear hb2); (try clear hk); (try clear hi); (try clear ho0); obtain ⟨Ao25, co25, eo25⟩ := Kd.R_slice HO675.out; subst eo25; obtain ⟨Ao26, co26, eo26⟩ := Kd.S_slice HO678.out; subst eo26) | ((with_reducible refine gate_callee (f := 42) rfl ?_); refine gL (some 27) Try.func42 #[.slice Ao25 t673.length co25, .slice Ao26 t676.length co26, .int .i64 a2] ?_; (with_reducible refine (spec_GreenOf.calls k _ _ t673 _ _ t676 a2 t679 _ ?side1 ?side2 ?side3 ?side4 A11.out).mono ?_); (case side1 => exact cO ⟨(Kd.R_reads' HO675.out).2.2⟩); (case side2 => exact (Kd.R_reads' HO675.out).2.1); (case side3 => repeat (first | exact (Kd.S_reads' HO678.out).2.2 | (with_reducible refine Kd.C_alloc ?_ _) | (with_reducible refine Kd.C_drewN ?_ _) | (with_reducible refine Kd.C_drew ?_))); (case side4 => exact (Kd.S_reads' HO678.out).2.1); rintro e w27 ⟨rfl, hb⟩; refine ⟨_, rfl, ?_⟩; replace HO675 := Aside0.mk (Kd.R_below (rK HO675) hb); replace HO678 := Aside0.mk (Kd.S_below (sK HO678) hb); replace HB := Aside0.mk (below_step bA hb); (try clear hb); (try clear hb2); (try clear hk); (try clear hi)) | ((with_reducible refine gate_callee (f := 18) rfl ?_); refine gL (some 29) Try.func18 #[.slice A0 l0.length c0] ?_; (with_reducible refine (laws_toPathS.calls k _ _ l0 t680 _ ?side1 ?side2 A12.out).mono ?_); (case side1 => exact cB HR0); (case side2 => exact HC0.out); rintro e w28 ⟨v681, rfl, ho0, hb⟩; refine ⟨_, rfl, ?_⟩; replace HO678 := Aside0.mk (Kd.S_below (sK HO678) hb); have HO682 := Aside0.mk (Kd.R_lower (Kd.R_new' ho0 (Kd.R_lt (rK HO675))) (below_size bA)); replace HO675 := Aside0.mk (Kd.R_elder' (rK HO675) (Kd.R_base ho0) hb); replace HB := Aside0.mk (below_step bA hb); (try clear hb); (try clear hb2); (try clear hk); (try clear hi); (try clear ho0)) | ((with_reducible refine gate_callee (f := 19) rfl ?_); refine gL (some 31) Try.func19 #[.slice A1 l1.length c1] ?_; (with_reducible refine (laws_toPartS.calls k _ _ l1 t683 _ ?side1 ?side2 A13.out).mono ?_); (case side1 => exact cB HR1); (case side2 => exact HC1.out); rintro e w29 ⟨v684, rfl, ho0, hb⟩; refine ⟨_, rfl, ?_⟩; replace HO675 := Aside0.mk (Kd.R_below (rK HO675) hb); replace HO682 := Aside0.mk (Kd.R_below (rK HO682) hb); have HO685 := Aside0.mk (Kd.S_lower (Kd.S_new' ho0 (Kd.S_lt (sK HO678))) (below_size bA)); replace HO678 := Aside0.mk (Kd.S_elder' (sK HO678) (Kd.S_base ho0) hb); replace HB := Aside0.mk (below_step bA hb); (try clear hb); (try clear hb2); (try clear hk); (try clear hi); (try clear ho0); obtain ⟨Ao30, co30, eo30⟩ := Kd.R_slice HO682.out; subst eo30; obtain ⟨Ao31, co31, eo31⟩ := Kd.S_slice HO685.out; subst eo31) | ((with_reducible refine gate_callee (f := 43) rfl ?_); refine gL (some 35) Try.func43 #[.slice Ao30 t680.length co30, .slice Ao31 t683.length co31, .int .i64 a2] ?_; (with_reducible refine (impl_GreenOf.calls k _ _ t680 _ _ t683 a2 t686 _ ?side1 ?side2 ?side3 ?side4 A14.out).mono ?_); (case side1 => exact cO ⟨(Kd.R_reads' HO682.out).2.2⟩); (case side2 => exact (Kd.R_reads' HO682.out).2.1); (case side3 => repeat (first | exact (Kd.S_reads' HO685.out).2.2 | (with_reducible refine Kd.C_alloc ?_ _) | (with_reducible refine Kd.C_drewN ?_ _) | (with_reducible refine Kd.C_drew ?_))); (case side4 => exact (Kd.S_reads' HO685.out).2.1); rintro e w32 ⟨rfl, hb⟩; refine ⟨_, rfl, ?_⟩; replace HO675 := Aside0.mk (Kd.R_below (rK HO675) hb); replace HO678 := Aside0.mk (Kd.S_below (sK HO678) hb); replace HO682 := Aside0.mk (Kd.R_below (rK HO682) hb); replace HO685 := Aside0.mk (Kd.S_below (sK HO685) hb); replace HB := Aside0.mk (below_step bA hb); (try clear hb); (try clear hb2); (try clear hk); (try clear hi)) | ((with_reducible refine gate_callee (f := 18) rfl ?_); refine gL (some 41) Try.func18 #[.slice A0 l0.length c0] ?_; (with_reducible refine (laws_toPathS.calls k _ _ l0 t687 _ ?side1 ?side2 A16.out).mono ?_); (case side1 => exact cB HR0); (case side2 => exact HC0.out); rintro e w33 ⟨v688, rfl, ho0, hb⟩; refine ⟨_, rfl, ?_⟩; replace HO678 := Aside0.mk (Kd.S_below (sK HO678) hb); replace HO685 := Aside0.mk (Kd.S_below (sK HO685) hb); have HO689 := Aside0.mk (Kd.R_lower (Kd.R_new' (Kd.R_new' ho0 (Kd.R_lt (rK HO675))) (Kd.R_lt (rK HO682))) (below_size bA)); replace HO675 := Aside0.mk (Kd.R_elder' (rK HO675) (Kd.R_base ho0) hb); replace HO682 := Aside0.mk (Kd.R_elder' (rK HO682) (Kd.R_base ho0) hb); replace HB := Aside0.mk (below_step bA hb); (try clear hb); (try clear hb2); (try clear hk); (try clear hi); (try clear ho0); obtain ⟨Ao34, co34, eo34⟩ := Kd.R_slice HO689.out; subst eo34) | ((with_reducible refine gate_callee (f := 21) rfl ?_); refine gL (some 42) Try.func21 #[.slice Ao30 t680.length co30, .slice Ao34 t687.length co34] ?_; (with_reducible refine (laws_eqPathS.calls k _ _ t680 _ _ t687 true _ ?side1 ?side2 ?side3 ?side4 A17.out).mono ?_); (case side1 => exact cO ⟨(Kd.R_reads' HO682.out).2.2⟩); (case side2 => exact (Kd.R_reads' HO682.out).2.1); (case side3 => exact cO ⟨(Kd.R_reads' HO689.out).2.2⟩); (case side4 => exact (Kd.R_reads' HO689.out).2.1); rintro e w35 ⟨rfl, hb⟩; refine ⟨_, rfl, ?_⟩; replace HO675 := Aside0.mk (Kd.R_below (rK HO675) hb); replace HO678 := Aside0.mk (Kd.S_below (sK HO678) hb); replace HO682 := Aside0.mk (Kd.R_below (rK HO682) hb); replace HO685 := Aside0.mk (Kd.S_below (sK HO685) hb); replace HO689 := Aside0.mk (Kd.R_below (rK HO689) hb); replace HB := Aside0.mk (below_step bA hb); (try clear hb); (try clear hb2); (try clear hk); (try clear hi)) | ((with_reducible refine gate_callee (f := 19) rfl ?_); refine gL (some 46) Try.func19 #[.slice A1 l1.length c1] ?_; (with_reducible refine (laws_toPartS.calls k _ _ l1 t691 _ ?side1 ?side2 A19.out).mono ?_); (case side1 => exact cB HR1); (case side2 => exact HC1.out); rintro e w36 ⟨v692, rfl, ho0, hb⟩; refine ⟨_, rfl, ?_⟩; replace HO675 := Aside0.mk (Kd.R_below (rK HO675) hb); replace HO682 := Aside0.mk (Kd.R_below (rK HO682) hb); replace HO689 := Aside0.mk (Kd.R_below (rK HO689) hb); have HO693 := Aside0.mk (Kd.S_lower (Kd.S_new' (Kd.S_new' ho0 (Kd.S_lt (sK HO678))) (Kd.S_lt (sK HO685))) (below_size bA)); replace HO678 := Aside0.mk (Kd.S_elder' (sK HO678) (Kd.S_base ho0) hb); replace HO685 := Aside0.mk (Kd.S_elder' (sK HO685) (Kd.S_base ho0) hb); replace HB := Aside0.mk (below_step bA hb); (try clear hb); (try clear hb2); (try clear hk); (try clear hi); (try clear ho0); obtain ⟨Ao37, co37, eo37⟩ := Kd.S_slice HO693.out; subst eo37) | ((with_reducible refine gate_callee (f := 22) rfl ?_); refine gL (some 47) Try.func22 #[.slice Ao31 t683.length co31, .slice Ao37 t691.length co37] ?_; (with_reducible refine (laws_eqPartS.calls k _ _ t683 _ _ t691 true _ ?side1 ?side2 ?side3 ?side4 A20.out).mono ?_); (case side1 => repeat (first | exact (Kd.S_reads' HO685.out).2.2 | (with_reducible refine Kd.C_alloc ?_ _) | (with_reducible refine Kd.C_drewN ?_ _) | (with_reducible refine Kd.C_drew ?_))); (case side2 => exact (Kd.S_reads' HO685.out).2.1); (case side3 => repeat (first | exact (Kd.S_reads' HO693.out).2.2 | (with_reducible refine Kd.C_alloc ?_ _) | (with_reducible refine Kd.C_drewN ?_ _) | (with_reducible refine Kd.C_drew ?_))); (case side4 => exact (Kd.S_reads' HO693.out).2.1); rintro e w38 ⟨rfl, hb⟩; refine ⟨_, rfl, ?_⟩; replace HO675 := Aside0.mk (Kd.R_below (rK HO675) hb); replace HO678 := Aside0.mk (Kd.S_below (sK HO678) hb); replace HO682 := Aside0.mk (Kd.R_below (rK HO682) hb); replace HO685 := Aside0.mk (Kd.S_below (sK HO685) hb); replace HO689 := Aside0.mk (Kd.R_below (rK HO689) hb); replace HO693 := Aside0.mk (Kd.S_below (sK HO693) hb); replace HB := Aside0.mk (below_step bA hb); (try clear hb); (try clear hb2); (try clear hk); (try clear hi)))
      go_ret
      exact ⟨rA, bA⟩

end Go.Proofs.Ytbpnbflfpgakmaa.P
