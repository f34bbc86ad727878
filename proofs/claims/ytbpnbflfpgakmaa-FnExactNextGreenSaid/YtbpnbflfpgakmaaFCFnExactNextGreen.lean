/- Printed by myprint.py (wip/tools) over the kit's print: what Go's functions compute, and that they do. Lean checks it. -/
import Derived.Test.YtbpnbflfpgakmaaF0
import Derived.Test.YtbpnbflfpgakmaaFI13
import Derived.Test.YtbpnbflfpgakmaaFLPart
import Derived.Test.YtbpnbflfpgakmaaFLPath
import Derived.Test.YtbpnbflfpgakmaaFS13
namespace Go.Proofs.Ytbpnbflfpgakmaa.P
open Go.RowKit Go.Proofs.YtbpnbflfpgakmaaW.PrintWords Go.Proofs.YtbpnbflfpgakmaaW.PrintLast Go.Proofs.YtbpnbflfpgakmaaW.PrintMore Go.Proofs.Ytbpnbflfpgakmaa.Sq
attribute [local go_sem] max2_int min2_int max_two min_two max_three min_three max_four min_four
set_option linter.unusedVariables false
set_option linter.unusedSimpArgs false

/-! ### laws_FnExactNextGreen: function 13 -/
def laws_FnExactNextGreen.f (k : Nat) (l0 : List (S60)) (l1 : List (S49)) (a2 : Int) (a3 : Int) : Option (Bool) := (laws_szPathS.f l0 1048576).bind fun t740 => (if t740 < 0 then (some true) else ((laws_szPartS.f k l1 t740).bind fun t741 => (if t741 < 0 then (some true) else ((laws_toPathS.f k l0).bind fun t742 => ((laws_toPartS.f k l1).bind fun t745 => ((spec_NextGreen.f k t742 t745 a2 a3).bind fun t748 => ((laws_toPathS.f k l0).bind fun t749 => ((laws_toPartS.f k l1).bind fun t752 => ((impl_NextGreen.f k t749 t752 a2 a3).bind fun t755 => (if t755 = t748 then ((laws_toPathS.f k l0).bind fun t756 => ((laws_eqPathS.f k t749 t756).bind fun t759 => (if t759 = true then ((laws_toPartS.f k l1).bind fun t760 => ((laws_eqPartS.f k t752 t760).bind fun t763 => (if t763 = true then (some true) else (none)))) else (none)))) else (none)))))))))))
theorem laws_FnExactNextGreen.mono : ∀ a0 a1 a2 a3 k, LeO (laws_FnExactNextGreen.f k a0 a1 a2 a3) (laws_FnExactNextGreen.f (k + 1) a0 a1 a2 a3) := by
  intro a0 a1 a2 a3 k
  unfold laws_FnExactNextGreen.f
  repeat' first | (with_reducible first | exact LeO.refl _ | exact LeO.none _ | refine LeO.ite ?_ ?_ | refine LeO.bind ?_ (fun _ => ?_) | exact impl_NextGreen.mono _ _ _ _ _ | exact laws_eqPartS.mono _ _ _ | exact laws_eqPathS.mono _ _ _ | exact laws_szPartS.mono _ _ _ | exact laws_toPartS.mono _ _ | exact laws_toPathS.mono _ _ | exact spec_NextGreen.mono _ _ _ _ _) | exact LeO.none _ | refine LeO.ite ?_ ?_ | refine LeO.bind ?_ (fun _ => ?_) | exact impl_NextGreen.mono _ _ _ _ _ | exact laws_eqPartS.mono _ _ _ | exact laws_eqPathS.mono _ _ _ | exact laws_szPartS.mono _ _ _ | exact laws_toPartS.mono _ _ | exact laws_toPathS.mono _ _ | exact spec_NextGreen.mono _ _ _ _ _
set_option maxHeartbeats 8000000 in
set_option maxRecDepth 100000 in
theorem laws_FnExactNextGreen.calls (k : Nat) (A0 : Option Addr) (c0 : Nat) (l0 : List (S60)) (A1 : Option Addr) (c1 : Nat) (l1 : List (S49)) (a2 : Int) (a3 : Int) (r : Bool) (w : World) (hr0 : Kd.C k60 w A0 l0.length l0) (hc0 : l0.length ≤ c0) (hr1 : Kd.C k49 w A1 l1.length l1) (hc1 : l1.length ≤ c1) (h : laws_FnExactNextGreen.f k l0 l1 a2 a3 = some r) :
    Calls Try.prog 13 #[.slice A0 l0.length c0, .slice A1 l1.length c1, .int .i64 a2, .int .i64 a3] w fun e w' => e = .returned (.bool r) ∧ Below w.heap.size w w' := by
  have HR0 := Aside0.mk hr0
  have HC0 := Aside0.mk hc0
  clear hr0 hc0
  have HR1 := Aside0.mk hr1
  have HC1 := Aside0.mk hc1
  clear hr1 hc1
  have HB := Aside0.mk (Below.refl w.heap.size w)
  have H : ((laws_szPathS.f l0 1048576).bind fun t740 => (if t740 < 0 then (some true) else ((laws_szPartS.f k l1 t740).bind fun t741 => (if t741 < 0 then (some true) else ((laws_toPathS.f k l0).bind fun t742 => ((laws_toPartS.f k l1).bind fun t745 => ((spec_NextGreen.f k t742 t745 a2 a3).bind fun t748 => ((laws_toPathS.f k l0).bind fun t749 => ((laws_toPartS.f k l1).bind fun t752 => ((impl_NextGreen.f k t749 t752 a2 a3).bind fun t755 => (if t755 = t748 then ((laws_toPathS.f k l0).bind fun t756 => ((laws_eqPathS.f k t749 t756).bind fun t759 => (if t759 = true then ((laws_toPartS.f k l1).bind fun t760 => ((laws_eqPartS.f k t752 t760).bind fun t763 => (if t763 = true then (some true) else (none)))) else (none)))) else (none)))))))))))) = some r := h
  clear h
  obtain ⟨t740, A5, H⟩ := bindE H
  try dsimp only at H
  by_cases c6 : t740 < 0
  · rw [if_pos c6] at H
    have c6b0 : decide (t740 < 0) = true := decide_eq_true c6
    clear c6
    obtain rfl := Option.some.inj H
    go_enter Try.func13, Try.ntmps13
    go_wp2_with (first | ((with_reducible refine gate_callee (f := 15) rfl ?_); refine gL (some 16) Try.func15 #[.slice A0 l0.length c0, .int .i64 1048576] ?_; (with_reducible refine (laws_szPathS.calls _ _ l0 1048576 t740 _ ?side1 ?side2 A5.out).mono ?_); (case side1 => exact cO HR0); (case side2 => exact HC0.out); rintro e w' ⟨rfl, ⟨nd, rfl⟩⟩; refine ⟨_, rfl, ?_⟩))
    go_ret
    exact ⟨rA, bA⟩
  · rw [if_neg c6] at H
    have c6b0 : decide (t740 < 0) = false := decide_eq_false c6
    clear c6
    obtain ⟨t741, A7, H⟩ := bindE H
    try dsimp only at H
    by_cases c8 : t741 < 0
    · rw [if_pos c8] at H
      have c8b0 : decide (t741 < 0) = true := decide_eq_true c8
      clear c8
      obtain rfl := Option.some.inj H
      go_enter Try.func13, Try.ntmps13
      go_wp2_with (first | ((with_reducible refine gate_callee (f := 15) rfl ?_); refine gL (some 16) Try.func15 #[.slice A0 l0.length c0, .int .i64 1048576] ?_; (with_reducible refine (laws_szPathS.calls _ _ l0 1048576 t740 _ ?side1 ?side2 A5.out).mono ?_); (case side1 => exact cO HR0); (case side2 => exact HC0.out); rintro e w' ⟨rfl, ⟨nd, rfl⟩⟩; refine ⟨_, rfl, ?_⟩) | ((with_reducible refine gate_callee (f := 16) rfl ?_); refine gL (some 21) Try.func16 #[.slice A1 l1.length c1, .int .i64 t740] ?_; (with_reducible refine (laws_szPartS.calls k _ _ l1 t740 t741 _ ?side1 ?side2 A7.out).mono ?_); (case side1 => exact cO HR1); (case side2 => exact HC1.out); rintro e w9 ⟨rfl, hb⟩; refine ⟨_, rfl, ?_⟩; replace HB := Aside0.mk (below_step bA hb); (try clear hb); (try clear hb2); (try clear hk); (try clear hi)))
      go_ret
      exact ⟨rA, bA⟩
    · rw [if_neg c8] at H
      have c8b0 : decide (t741 < 0) = false := decide_eq_false c8
      clear c8
      obtain ⟨t742, A10, H⟩ := bindE H
      try dsimp only at H
      obtain ⟨t745, A11, H⟩ := bindE H
      try dsimp only at H
      obtain ⟨t748, A12, H⟩ := bindE H
      try dsimp only at H
      obtain ⟨t749, A13, H⟩ := bindE H
      try dsimp only at H
      obtain ⟨t752, A14, H⟩ := bindE H
      try dsimp only at H
      obtain ⟨t755, A15, H⟩ := bindE H
      try dsimp only at H
      have c16 : t755 = t748 := ifN H
      replace H := ifT H
      have c16b0 : (t755 == t748) = true := beq_iff_eq.mpr c16
      have c16b1 : (t755 != t748) = false := bne_eq_false_iff_eq.mpr c16
      clear c16
      obtain ⟨t756, A17, H⟩ := bindE H
      try dsimp only at H
      obtain ⟨t759, A18, H⟩ := bindE H
      try dsimp only at H
      have c19 := ifN H
      replace H := ifT H
      subst c19
      obtain ⟨t760, A20, H⟩ := bindE H
      try dsimp only at H
      obtain ⟨t763, A21, H⟩ := bindE H
      try dsimp only at H
      have c22 := ifN H
      replace H := ifT H
      subst c22
      obtain rfl := Option.some.inj H
      go_enter Try.func13, Try.ntmps13
      go_wp2_with (first | ((with_reducible refine gate_callee (f := 15) rfl ?_); refine gL (some 16) Try.func15 #[.slice A0 l0.length c0, .int .i64 1048576] ?_; (with_reducible refine (laws_szPathS.calls _ _ l0 1048576 t740 _ ?side1 ?side2 A5.out).mono ?_); (case side1 => exact cO HR0); (case side2 => exact HC0.out); rintro e w' ⟨rfl, ⟨nd, rfl⟩⟩; refine ⟨_, rfl, ?_⟩) | ((with_reducible refine gate_callee (f := 16) rfl ?_); refine gL (some 21) Try.func16 #[.slice A1 l1.length c1, .int .i64 t740] ?_; (with_reducible refine (laws_szPartS.calls k _ _ l1 t740 t741 _ ?side1 ?side2 A7.out).mono ?_); (case side1 => exact cO HR1); (case side2 => exact HC1.out); rintro e w23 ⟨rfl, hb⟩; refine ⟨_, rfl, ?_⟩; replace HB := Aside0.mk (below_step bA hb); (try clear hb); (try clear hb2); (try clear hk); (try clear hi)) | ((with_reducible refine gate_callee (f := 18) rfl ?_); refine gL (some 25) Try.func18 #[.slice A0 l0.length c0] ?_; (with_reducible refine (laws_toPathS.calls k _ _ l0 t742 _ ?side1 ?side2 A10.out).mono ?_); (case side1 => exact cB HR0); (case side2 => exact HC0.out); rintro e w24 ⟨v743, rfl, ho0, hb⟩; refine ⟨_, rfl, ?_⟩; have HO744 := Aside0.mk (Kd.R_lower ho0 (below_size bA)); replace HB := Aside0.mk (below_step bA hb); (try clear hb); (try clear hb2); (try clear hk); (try clear hi); (try clear ho0)) | ((with_reducible refine gate_callee (f := 19) rfl ?_); refine gL (some 27) Try.func19 #[.slice A1 l1.length c1] ?_; (with_reducible refine (laws_toPartS.calls k _ _ l1 t745 _ ?side1 ?side2 A11.out).mono ?_); (case side1 => exact cB HR1); (case side2 => exact HC1.out); rintro e w25 ⟨v746, rfl, ho0, hb⟩; refine ⟨_, rfl, ?_⟩; replace HO744 := Aside0.mk (Kd.R_below (rK HO744) hb); have HO747 := Aside0.mk (Kd.S_lower ho0 (below_size bA)); replace HB := Aside0.mk (below_step bA hb); (try clear hb); (try clear hb2); (try clear hk); (try clear hi); (try clear ho0); obtain ⟨Ao26, co26, eo26⟩ := Kd.R_slice HO744.out; subst eo26; obtain ⟨Ao27, co27, eo27⟩ := Kd.S_slice HO747.out; subst eo27) | ((with_reducible refine gate_callee (f := 46) rfl ?_); refine gL (some 30) Try.func46 #[.slice Ao26 t742.length co26, .slice Ao27 t745.length co27, .int .i64 a2, .int .i64 a3] ?_; (with_reducible refine (spec_NextGreen.calls k _ _ t742 _ _ t745 a2 a3 t748 _ ?side1 ?side2 ?side3 ?side4 A12.out).mono ?_); (case side1 => exact cO ⟨(Kd.R_reads' HO744.out).2.2⟩); (case side2 => exact (Kd.R_reads' HO744.out).2.1); (case side3 => repeat (first | exact (Kd.S_reads' HO747.out).2.2 | (with_reducible refine Kd.C_alloc ?_ _) | (with_reducible refine Kd.C_drewN ?_ _) | (with_reducible refine Kd.C_drew ?_))); (case side4 => exact (Kd.S_reads' HO747.out).2.1); rintro e w28 ⟨rfl, hb⟩; refine ⟨_, rfl, ?_⟩; replace HO744 := Aside0.mk (Kd.R_below (rK HO744) hb); replace HO747 := Aside0.mk (Kd.S_below (sK HO747) hb); replace HB := Aside0.mk (below_step bA hb); (try clear hb); (try clear hb2); (try clear hk); (try clear hi)) | ((with_reducible refine gate_callee (f := 18) rfl ?_); refine gL (some 32) Try.func18 #[.slice A0 l0.length c0] ?_; (with_reducible refine (laws_toPathS.calls k _ _ l0 t749 _ ?side1 ?side2 A13.out).mono ?_); (case side1 => exact cB HR0); (case side2 => exact HC0.out); rintro e w29 ⟨v750, rfl, ho0, hb⟩; refine ⟨_, rfl, ?_⟩; replace HO747 := Aside0.mk (Kd.S_below (sK HO747) hb); have HO751 := Aside0.mk (Kd.R_lower (Kd.R_new' ho0 (Kd.R_lt (rK HO744))) (below_size bA)); replace HO744 := Aside0.mk (Kd.R_elder' (rK HO744) (Kd.R_base ho0) hb); replace HB := Aside0.mk (below_step bA hb); (try clear hb); (try clear hb2); (try clear hk); (try clear hi); (try clear ho0)) | ((with_reducible refine gate_callee (f := 19) rfl ?_); refine gL (some 34) Try.func19 #[.slice A1 l1.length c1] ?_; (with_reducible refine (laws_toPartS.calls k _ _ l1 t752 _ ?side1 ?side2 A14.out).mono ?_); (case side1 => exact cB HR1); (case side2 => exact HC1.out); rintro e w30 ⟨v753, rfl, ho0, hb⟩; refine ⟨_, rfl, ?_⟩; replace HO744 := Aside0.mk (Kd.R_below (rK HO744) hb); replace HO751 := Aside0.mk (Kd.R_below (rK HO751) hb); have HO754 := Aside0.mk (Kd.S_lower (Kd.S_new' ho0 (Kd.S_lt (sK HO747))) (below_size bA)); replace HO747 := Aside0.mk (Kd.S_elder' (sK HO747) (Kd.S_base ho0) hb); replace HB := Aside0.mk (below_step bA hb); (try clear hb); (try clear hb2); (try clear hk); (try clear hi); (try clear ho0); obtain ⟨Ao31, co31, eo31⟩ := Kd.R_slice HO751.out; subst eo31; obtain ⟨Ao32, co32, eo32⟩ := Kd.S_slice HO754.out; subst eo32) | ((with_reducible refine gate_callee (f := 47) rfl ?_); refine gL (some 39) Try.func47 #[.slice Ao31 t749.length co31, .slice Ao32 t752.length co32, .int .i64 a2, .int .i64 a3] ?_; (with_reducible refine (impl_NextGreen.calls k _ _ t749 _ _ t752 a2 a3 t755 _ ?side1 ?side2 ?side3 ?side4 A15.out).mono ?_); (case side1 => exact cO ⟨(Kd.R_reads' HO751.out).2.2⟩); (case side2 => exact (Kd.R_reads' HO751.out).2.1); (case side3 => repeat (first | exact (Kd.S_reads' HO754.out).2.2 | (with_reducible refine Kd.C_alloc ?_ _) | (with_reducible refine Kd.C_drewN ?_ _) | (with_reducible refine Kd.C_drew ?_))); (case side4 => exact (Kd.S_reads' HO754.out).2.1); rintro e w33 ⟨rfl, hb⟩; refine ⟨_, rfl, ?_⟩; replace HO744 := Aside0.mk (Kd.R_below (rK HO744) hb); replace HO747 := Aside0.mk (Kd.S_below (sK HO747) hb); replace HO751 := Aside0.mk (Kd.R_below (rK HO751) hb); replace HO754 := Aside0.mk (Kd.S_below (sK HO754) hb); replace HB := Aside0.mk (below_step bA hb); (try clear hb); (try clear hb2); (try clear hk); (try clear hi)) | ((with_reducible refine gate_callee (f := 18) rfl ?_); refine gL (some 45) Try.func18 #[.slice A0 l0.length c0] ?_; (with_reducible refine (laws_toPathS.calls k _ _ l0 t756 _ ?side1 ?side2 A17.out).mono ?_); (case side1 => exact cB HR0); (case side2 => exact HC0.out); rintro e w34 ⟨v757, rfl, ho0, hb⟩; refine ⟨_, rfl, ?_⟩; replace HO747 := Aside0.mk (Kd.S_below (sK HO747) hb); replace HO754 := Aside0.mk (Kd.S_below (sK HO754) hb); have HO758 := Aside0.mk (Kd.R_lower (Kd.R_new' (Kd.R_new' ho0 (Kd.R_lt (rK HO744))) (Kd.R_lt (rK HO751))) (below_size bA)); replace HO744 := Aside0.mk (Kd.R_elder' (rK HO744) (Kd.R_base ho0) hb); replace HO751 := Aside0.mk (Kd.R_elder' (rK HO751) (Kd.R_base ho0) hb); replace HB := Aside0.mk (below_step bA hb); (try clear hb); (try clear hb2); (try clear hk); (try clear hi); (try clear ho0); obtain ⟨Ao35, co35, eo35⟩ := Kd.R_slice HO758.out; subst eo35) | ((with_reducible refine gate_callee (f := 21) rfl ?_); refine gL (some 46) Try.func21 #[.slice Ao31 t749.length co31, .slice Ao35 t756.length co35] ?_; (with_reducible refine (laws_eqPathS.calls k _ _ t749 _ _ t756 true _ ?side1 ?side2 ?side3 ?side4 A18.out).mono ?_); (case side1 => exact cO ⟨(Kd.R_reads' HO751.out).2.2⟩); (case side2 => exact (Kd.R_reads' HO751.out).2.1); (case side3 => exact cO ⟨(Kd.R_reads' HO758.out).2.2⟩); (case side4 => exact (Kd.R_reads' HO758.out).2.1); rintro e w36 ⟨rfl, hb⟩; refine ⟨_, rfl, ?_⟩; replace HO744 := Aside0.mk (Kd.R_below (rK HO744) hb); replace HO747 := Aside0.mk (Kd.S_below (sK HO747) hb); replace HO751 := Aside0.mk (Kd.R_below (rK HO751) hb); replace HO754 := Aside0.mk (Kd.S_below (sK HO754) hb); replace HO758 := Aside0.mk (Kd.R_below (rK HO758) hb); replace HB := Aside0.mk (below_step bA hb); (try clear hb); (try clear hb2); (try clear hk); (try clear hi)) | ((with_reducible refine gate_callee (f := 19) rfl ?_); refine gL (some 50) Try.func19 #[.slice A1 l1.length c1] ?_; (with_reducible refine (laws_toPartS.calls k _ _ l1 t760 _ ?side1 ?side2 A20.out).mono ?_); (case side1 => exact cB HR1); (case side2 => exact HC1.out); rintro e w37 ⟨v761, rfl, ho0, hb⟩; refine ⟨_, rfl, ?_⟩; replace HO744 := Aside0.mk (Kd.R_below (rK HO744) hb); replace HO751 := Aside0.mk (Kd.R_below (rK HO751) hb); replace HO758 := Aside0.mk (Kd.R_below (rK HO758) hb); have HO762 := Aside0.mk (Kd.S_lower (Kd.S_new' (Kd.S_new' ho0 (Kd.S_lt (sK HO747))) (Kd.S_lt (sK HO754))) (below_size bA)); replace HO747 := Aside0.mk (Kd.S_elder' (sK HO747) (Kd.S_base ho0) hb); replace HO754 := Aside0.mk (Kd.S_elder' (sK HO754) (Kd.S_base ho0) hb); replace HB := Aside0.mk (below_step bA hb); (try clear hb); (try clear hb2); (try clear hk); (try clear hi); (try clear ho0); obtain ⟨Ao38, co38, eo38⟩ := Kd.S_slice HO762.out; subst eo38) | ((with_reducible refine gate_callee (f := 22) rfl ?_); refine gL (some 51) Try.func22 #[.slice Ao32 t752.length co32, .slice Ao38 t760.length co38] ?_; (with_reducible refine (laws_eqPartS.calls k _ _ t752 _ _ t760 true _ ?side1 ?side2 ?side3 ?side4 A21.out).mono ?_); (case side1 => repeat (first | exact (Kd.S_reads' HO754.out).2.2 | (with_reducible refine Kd.C_alloc ?_ _) | (with_reducible refine Kd.C_drewN ?_ _) | (with_reducible refine Kd.C_drew ?_))); (case side2 => exact (Kd.S_reads' HO754.out).2.1); (case side3 => repeat (first | exact (Kd.S_reads' HO762.out).2.2 | (with_reducible refine Kd.C_alloc ?_ _) | (with_reducible refine Kd.C_drewN ?_ _) | (with_reducible refine Kd.C_drew ?_))); (case side4 => exact (Kd.S_reads' HO762.out).2.1); rintro e w39 ⟨rfl, hb⟩; refine ⟨_, rfl, ?_⟩; replace HO744 := Aside0.mk (Kd.R_below (rK HO744) hb); replace HO747 := Aside0.mk (Kd.S_below (sK HO747) hb); replace HO751 := Aside0.mk (Kd.R_below (rK HO751) hb); replace HO754 := Aside0.mk (Kd.S_below (sK HO754) hb); replace HO758 := Aside0.mk (Kd.R_below (rK HO758) hb); replace HO762 := Aside0.mk (Kd.S_below (sK HO762) hb); replace HB := Aside0.mk (below_step bA hb); (try clear hb); (try clear hb2); (try clear hk); (try clear hi)))
      go_ret
      exact ⟨rA, bA⟩

end Go.Proofs.Ytbpnbflfpgakmaa.P
