/- Printed by myprint.py (wip/tools) over the kit's print: what Go's functions compute, and that they do. Lean checks it. -/
import Derived.Test.YtbpnbflfpgakmaaF0
import Derived.Test.YtbpnbflfpgakmaaFI13
import Derived.Test.YtbpnbflfpgakmaaFLPart
import Derived.Test.YtbpnbflfpgakmaaFLPath
import Derived.Test.YtbpnbflfpgakmaaFS13
namespace Go.Proofs.Ytbpnbflfpgakmaa.P
open Go.RowKit Go.Proofs.YtbpnbflfpgakmaaW.PrintWords Go.Proofs.YtbpnbflfpgakmaaW.PrintLast Go.Proofs.YtbpnbflfpgakmaaW.PrintMore Go.Proofs.Ytbpnbflfpgakmaa.Sq
attribute [local go_sem] max2_int min2_int max_two min_two max_three min_three max_four min_four
set_option linter.unusedVariables false
set_option linter.unusedSimpArgs false

/-! ### laws_FnExactWorstWait: function 14 -/
def laws_FnExactWorstWait.f (k : Nat) (l0 : List (S60)) (l1 : List (S49)) : Option (Bool) := (laws_szPathS.f l0 1048576).bind fun t771 => (if t771 < 0 then (some true) else ((laws_szPartS.f k l1 t771).bind fun t772 => (if t772 < 0 then (some true) else ((laws_toPathS.f k l0).bind fun t773 => ((laws_toPartS.f k l1).bind fun t776 => ((spec_WorstWait.f k t773 t776).bind fun t779 => ((laws_toPathS.f k l0).bind fun t780 => ((laws_toPartS.f k l1).bind fun t783 => ((impl_WorstWait.f k t780 t783).bind fun t786 => (if t786 = t779 then ((laws_toPathS.f k l0).bind fun t787 => ((laws_eqPathS.f k t780 t787).bind fun t790 => (if t790 = true then ((laws_toPartS.f k l1).bind fun t791 => ((laws_eqPartS.f k t783 t791).bind fun t794 => (if t794 = true then (some true) else (none)))) else (none)))) else (none)))))))))))
theorem laws_FnExactWorstWait.mono : ∀ a0 a1 k, LeO (laws_FnExactWorstWait.f k a0 a1) (laws_FnExactWorstWait.f (k + 1) a0 a1) := by
  intro a0 a1 k
  unfold laws_FnExactWorstWait.f
  repeat' first | (with_reducible first | exact LeO.refl _ | exact LeO.none _ | refine LeO.ite ?_ ?_ | refine LeO.bind ?_ (fun _ => ?_) | exact impl_WorstWait.mono _ _ _ | exact laws_eqPartS.mono _ _ _ | exact laws_eqPathS.mono _ _ _ | exact laws_szPartS.mono _ _ _ | exact laws_toPartS.mono _ _ | exact laws_toPathS.mono _ _ | exact spec_WorstWait.mono _ _ _) | exact LeO.none _ | refine LeO.ite ?_ ?_ | refine LeO.bind ?_ (fun _ => ?_) | exact impl_WorstWait.mono _ _ _ | exact laws_eqPartS.mono _ _ _ | exact laws_eqPathS.mono _ _ _ | exact laws_szPartS.mono _ _ _ | exact laws_toPartS.mono _ _ | exact laws_toPathS.mono _ _ | exact spec_WorstWait.mono _ _ _
set_option maxHeartbeats 8000000 in
set_option maxRecDepth 100000 in
theorem laws_FnExactWorstWait.calls (k : Nat) (A0 : Option Addr) (c0 : Nat) (l0 : List (S60)) (A1 : Option Addr) (c1 : Nat) (l1 : List (S49)) (r : Bool) (w : World) (hr0 : Kd.C k60 w A0 l0.length l0) (hc0 : l0.length ≤ c0) (hr1 : Kd.C k49 w A1 l1.length l1) (hc1 : l1.length ≤ c1) (h : laws_FnExactWorstWait.f k l0 l1 = some r) :
    Calls Try.prog 14 #[.slice A0 l0.length c0, .slice A1 l1.length c1] w fun e w' => e = .returned (.bool r) ∧ Below w.heap.size w w' := by
  have HR0 := Aside0.mk hr0
  have HC0 := Aside0.mk hc0
  clear hr0 hc0
  have HR1 := Aside0.mk hr1
  have HC1 := Aside0.mk hc1
  clear hr1 hc1
  have HB := Aside0.mk (Below.refl w.heap.size w)
  have H : ((laws_szPathS.f l0 1048576).bind fun t771 => (if t771 < 0 then (some true) else ((laws_szPartS.f k l1 t771).bind fun t772 => (if t772 < 0 then (some true) else ((laws_toPathS.f k l0).bind fun t773 => ((laws_toPartS.f k l1).bind fun t776 => ((spec_WorstWait.f k t773 t776).bind fun t779 => ((laws_toPathS.f k l0).bind fun t780 => ((laws_toPartS.f k l1).bind fun t783 => ((impl_WorstWait.f k t780 t783).bind fun t786 => (if t786 = t779 then ((laws_toPathS.f k l0).bind fun t787 => ((laws_eqPathS.f k t780 t787).bind fun t790 => (if t790 = true then ((laws_toPartS.f k l1).bind fun t791 => ((laws_eqPartS.f k t783 t791).bind fun t794 => (if t794 = true then (some true) else (none)))) else (none)))) else (none)))))))))))) = some r := h
  clear h
  obtain ⟨t771, A3, H⟩ := bindE H
  try dsimp only at H
  by_cases c4 : t771 < 0
  · rw [if_pos c4] at H
    have c4b0 : decide (t771 < 0) = true := decide_eq_true c4
    clear c4
    obtain rfl := Option.some.inj H
    go_enter Try.func14, Try.ntmps14
    go_wp2_with (first | ((with_reducible refine gate_callee (f := 15) rfl ?_); refine gL (some 12) Try.func15 #[.slice A0 l0.length c0, .int .i64 1048576] ?_; (with_reducible refine (laws_szPathS.calls _ _ l0 1048576 t771 _ ?side1 ?side2 A3.out).mono ?_); (case side1 => exact cO HR0); (case side2 => exact HC0.out); rintro e w' ⟨rfl, ⟨nd, rfl⟩⟩; refine ⟨_, rfl, ?_⟩))
    go_ret
    exact ⟨rA, bA⟩
  · rw [if_neg c4] at H
    have c4b0 : decide (t771 < 0) = false := decide_eq_false c4
    clear c4
    obtain ⟨t772, A5, H⟩ := bindE H
    try dsimp only at H
    by_cases c6 : t772 < 0
    · rw [if_pos c6] at H
      have c6b0 : decide (t772 < 0) = true := decide_eq_true c6
      clear c6
      obtain rfl := Option.some.inj H
      go_enter Try.func14, Try.ntmps14
      go_wp2_with (first | ((with_reducible refine gate_callee (f := 15) rfl ?_); refine gL (some 12) Try.func15 #[.slice A0 l0.length c0, .int .i64 1048576] ?_; (with_reducible refine (laws_szPathS.calls _ _ l0 1048576 t771 _ ?side1 ?side2 A3.out).mono ?_); (case side1 => exact cO HR0); (case side2 => exact HC0.out); rintro e w' ⟨rfl, ⟨nd, rfl⟩⟩; refine ⟨_, rfl, ?_⟩) | ((with_reducible refine gate_callee (f := 16) rfl ?_); refine gL (some 17) Try.func16 #[.slice A1 l1.length c1, .int .i64 t771] ?_; (with_reducible refine (laws_szPartS.calls k _ _ l1 t771 t772 _ ?side1 ?side2 A5.out).mono ?_); (case side1 => exact cO HR1); (case side2 => exact HC1.out); rintro e w7 ⟨rfl, hb⟩; refine ⟨_, rfl, ?_⟩; replace HB := Aside0.mk (below_step bA hb); (try clear hb); (try clear hb2); (try clear hk); (try clear hi)))
      go_ret
      exact ⟨rA, bA⟩
    · rw [if_neg c6] at H
      have c6b0 : decide (t772 < 0) = false := decide_eq_false c6
      clear c6
      obtain ⟨t773, A8, H⟩ := bindE H
      try dsimp only at H
      obtain ⟨t776, A9, H⟩ := bindE H
      try dsimp only at H
      obtain ⟨t779, A10, H⟩ := bindE H
      try dsimp only at H
      obtain ⟨t780, A11, H⟩ := bindE H
      try dsimp only at H
      obtain ⟨t783, A12, H⟩ := bindE H
      try dsimp only at H
      obtain ⟨t786, A13, H⟩ := bindE H
      try dsimp only at H
      have c14 : t786 = t779 := ifN H
      replace H := ifT H
      have c14b0 : (t786 == t779) = true := beq_iff_eq.mpr c14
      have c14b1 : (t786 != t779) = false := bne_eq_false_iff_eq.mpr c14
      clear c14
      obtain ⟨t787, A15, H⟩ := bindE H
      try dsimp only at H
      obtain ⟨t790, A16, H⟩ := bindE H
      try dsimp only at H
      have c17 := ifN H
      replace H := ifT H
      subst c17
      obtain ⟨t791, A18, H⟩ := bindE H
      try dsimp only at H
      obtain ⟨t794, A19, H⟩ := bindE H
      try dsimp only at H
      have c20 := ifN H
      replace H := ifT H
      subst c20
      obtain rfl := Option.some.inj H
      go_enter Try.func14, Try.ntmps14
      go_wp2_with (first | ((with_reducible refine gate_callee (f := 15) rfl ?_); refine gL (some 12) Try.func15 #[.slice A0 l0.length c0, .int .i64 1048576] ?_; (with_reducible refine (laws_szPathS.calls _ _ l0 1048576 t771 _ ?side1 ?side2 A3.out).mono ?_); (case side1 => exact cO HR0); (case side2 => exact HC0.out); rintro e w' ⟨rfl, ⟨nd, rfl⟩⟩; refine ⟨_, rfl, ?_⟩) | ((with_reducible refine gate_callee (f := 16) rfl ?_); refine gL (some 17) Try.func16 #[.slice A1 l1.length c1, .int .i64 t771] ?_; (with_reducible refine (laws_szPartS.calls k _ _ l1 t771 t772 _ ?side1 ?side2 A5.out).mono ?_); (case side1 => exact cO HR1); (case side2 => exact HC1.out); rintro e w21 ⟨rfl, hb⟩; refine ⟨_, rfl, ?_⟩; replace HB := Aside0.mk (below_step bA hb); (try clear hb); (try clear hb2); (try clear hk); (try clear hi)) | ((with_reducible refine gate_callee (f := 18) rfl ?_); refine gL (some 21) Try.func18 #[.slice A0 l0.length c0] ?_; (with_reducible refine (laws_toPathS.calls k _ _ l0 t773 _ ?side1 ?side2 A8.out).mono ?_); (case side1 => exact cB HR0); (case side2 => exact HC0.out); rintro e w22 ⟨v774, rfl, ho0, hb⟩; refine ⟨_, rfl, ?_⟩; have HO775 := Aside0.mk (Kd.R_lower ho0 (below_size bA)); replace HB := Aside0.mk (below_step bA hb); (try clear hb); (try clear hb2); (try clear hk); (try clear hi); (try clear ho0)) | ((with_reducible refine gate_callee (f := 19) rfl ?_); refine gL (some 23) Try.func19 #[.slice A1 l1.length c1] ?_; (with_reducible refine (laws_toPartS.calls k _ _ l1 t776 _ ?side1 ?side2 A9.out).mono ?_); (case side1 => exact cB HR1); (case side2 => exact HC1.out); rintro e w23 ⟨v777, rfl, ho0, hb⟩; refine ⟨_, rfl, ?_⟩; replace HO775 := Aside0.mk (Kd.R_below (rK HO775) hb); have HO778 := Aside0.mk (Kd.S_lower ho0 (below_size bA)); replace HB := Aside0.mk (below_step bA hb); (try clear hb); (try clear hb2); (try clear hk); (try clear hi); (try clear ho0); obtain ⟨Ao24, co24, eo24⟩ := Kd.R_slice HO775.out; subst eo24; obtain ⟨Ao25, co25, eo25⟩ := Kd.S_slice HO778.out; subst eo25) | ((with_reducible refine gate_callee (f := 48) rfl ?_); refine gL (some 24) Try.func48 #[.slice Ao24 t773.length co24, .slice Ao25 t776.length co25] ?_; (with_reducible refine (spec_WorstWait.calls k _ _ t773 _ _ t776 t779 _ ?side1 ?side2 ?side3 ?side4 A10.out).mono ?_); (case side1 => exact cO ⟨(Kd.R_reads' HO775.out).2.2⟩); (case side2 => exact (Kd.R_reads' HO775.out).2.1); (case side3 => repeat (first | exact (Kd.S_reads' HO778.out).2.2 | (with_reducible refine Kd.C_alloc ?_ _) | (with_reducible refine Kd.C_drewN ?_ _) | (with_reducible refine Kd.C_drew ?_))); (case side4 => exact (Kd.S_reads' HO778.out).2.1); rintro e w26 ⟨rfl, hb⟩; refine ⟨_, rfl, ?_⟩; replace HO775 := Aside0.mk (Kd.R_below (rK HO775) hb); replace HO778 := Aside0.mk (Kd.S_below (sK HO778) hb); replace HB := Aside0.mk (below_step bA hb); (try clear hb); (try clear hb2); (try clear hk); (try clear hi)) | ((with_reducible refine gate_callee (f := 18) rfl ?_); refine gL (some 26) Try.func18 #[.slice A0 l0.length c0] ?_; (with_reducible refine (laws_toPathS.calls k _ _ l0 t780 _ ?side1 ?side2 A11.out).mono ?_); (case side1 => exact cB HR0); (case side2 => exact HC0.out); rintro e w27 ⟨v781, rfl, ho0, hb⟩; refine ⟨_, rfl, ?_⟩; replace HO778 := Aside0.mk (Kd.S_below (sK HO778) hb); have HO782 := Aside0.mk (Kd.R_lower (Kd.R_new' ho0 (Kd.R_lt (rK HO775))) (below_size bA)); replace HO775 := Aside0.mk (Kd.R_elder' (rK HO775) (Kd.R_base ho0) hb); replace HB := Aside0.mk (below_step bA hb); (try clear hb); (try clear hb2); (try clear hk); (try clear hi); (try clear ho0)) | ((with_reducible refine gate_callee (f := 19) rfl ?_); refine gL (some 28) Try.func19 #[.slice A1 l1.length c1] ?_; (with_reducible refine (laws_toPartS.calls k _ _ l1 t783 _ ?side1 ?side2 A12.out).mono ?_); (case side1 => exact cB HR1); (case side2 => exact HC1.out); rintro e w28 ⟨v784, rfl, ho0, hb⟩; refine ⟨_, rfl, ?_⟩; replace HO775 := Aside0.mk (Kd.R_below (rK HO775) hb); replace HO782 := Aside0.mk (Kd.R_below (rK HO782) hb); have HO785 := Aside0.mk (Kd.S_lower (Kd.S_new' ho0 (Kd.S_lt (sK HO778))) (below_size bA)); replace HO778 := Aside0.mk (Kd.S_elder' (sK HO778) (Kd.S_base ho0) hb); replace HB := Aside0.mk (below_step bA hb); (try clear hb); (try clear hb2); (try clear hk); (try clear hi); (try clear ho0); obtain ⟨Ao29, co29, eo29⟩ := Kd.R_slice HO782.out; subst eo29; obtain ⟨Ao30, co30, eo30⟩ := Kd.S_slice HO785.out; subst eo30) | ((with_reducible refine gate_callee (f := 49) rfl ?_); refine gL (some 31) Try.func49 #[.slice Ao29 t780.length co29, .slice Ao30 t783.length co30] ?_; (with_reducible refine (impl_WorstWait.calls k _ _ t780 _ _ t783 t786 _ ?side1 ?side2 ?side3 ?side4 A13.out).mono ?_); (case side1 => exact cO ⟨(Kd.R_reads' HO782.out).2.2⟩); (case side2 => exact (Kd.R_reads' HO782.out).2.1); (case side3 => repeat (first | exact (Kd.S_reads' HO785.out).2.2 | (with_reducible refine Kd.C_alloc ?_ _) | (with_reducible refine Kd.C_drewN ?_ _) | (with_reducible refine Kd.C_drew ?_))); (case side4 => exact (Kd.S_reads' HO785.out).2.1); rintro e w31 ⟨rfl, hb⟩; refine ⟨_, rfl, ?_⟩; replace HO775 := Aside0.mk (Kd.R_below (rK HO775) hb); replace HO778 := Aside0.mk (Kd.S_below (sK HO778) hb); replace HO782 := Aside0.mk (Kd.R_below (rK HO782) hb); replace HO785 := Aside0.mk (Kd.S_below (sK HO785) hb); replace HB := Aside0.mk (below_step bA hb); (try clear hb); (try clear hb2); (try clear hk); (try clear hi)) | ((with_reducible refine gate_callee (f := 18) rfl ?_); refine gL (some 37) Try.func18 #[.slice A0 l0.length c0] ?_; (with_reducible refine (laws_toPathS.calls k _ _ l0 t787 _ ?side1 ?side2 A15.out).mono ?_); (case side1 => exact cB HR0); (case side2 => exact HC0.out); rintro e w32 ⟨v788, rfl, ho0, hb⟩; refine ⟨_, rfl, ?_⟩; replace HO778 := Aside0.mk (Kd.S_below (sK HO778) hb); replace HO785 := Aside0.mk (Kd.S_below (sK HO785) hb); have HO789 := Aside0.mk (Kd.R_lower (Kd.R_new' (Kd.R_new' ho0 (Kd.R_lt (rK HO775))) (Kd.R_lt (rK HO782))) (below_size bA)); replace HO775 := Aside0.mk (Kd.R_elder' (rK HO775) (Kd.R_base ho0) hb); replace HO782 := Aside0.mk (Kd.R_elder' (rK HO782) (Kd.R_base ho0) hb); replace HB := Aside0.mk (below_step bA hb); (try clear hb); (try clear hb2); (try clear hk); (try clear hi); (try clear ho0); obtain ⟨Ao33, co33, eo33⟩ := Kd.R_slice HO789.out; subst eo33) | ((with_reducible refine gate_callee (f := 21) rfl ?_); refine gL (some 38) Try.func21 #[.slice Ao29 t780.length co29, .slice Ao33 t787.length co33] ?_; (with_reducible refine (laws_eqPathS.calls k _ _ t780 _ _ t787 true _ ?side1 ?side2 ?side3 ?side4 A16.out).mono ?_); (case side1 => exact cO ⟨(Kd.R_reads' HO782.out).2.2⟩); (case side2 => exact (Kd.R_reads' HO782.out).2.1); (case side3 => exact cO ⟨(Kd.R_reads' HO789.out).2.2⟩); (case side4 => exact (Kd.R_reads' HO789.out).2.1); rintro e w34 ⟨rfl, hb⟩; refine ⟨_, rfl, ?_⟩; replace HO775 := Aside0.mk (Kd.R_below (rK HO775) hb); replace HO778 := Aside0.mk (Kd.S_below (sK HO778) hb); replace HO782 := Aside0.mk (Kd.R_below (rK HO782) hb); replace HO785 := Aside0.mk (Kd.S_below (sK HO785) hb); replace HO789 := Aside0.mk (Kd.R_below (rK HO789) hb); replace HB := Aside0.mk (below_step bA hb); (try clear hb); (try clear hb2); (try clear hk); (try clear hi)) | ((with_reducible refine gate_callee (f := 19) rfl ?_); refine gL (some 42) Try.func19 #[.slice A1 l1.length c1] ?_; (with_reducible refine (laws_toPartS.calls k _ _ l1 t791 _ ?side1 ?side2 A18.out).mono ?_); (case side1 => exact cB HR1); (case side2 => exact HC1.out); rintro e w35 ⟨v792, rfl, ho0, hb⟩; refine ⟨_, rfl, ?_⟩; replace HO775 := Aside0.mk (Kd.R_below (rK HO775) hb); replace HO782 := Aside0.mk (Kd.R_below (rK HO782) hb); replace HO789 := Aside0.mk (Kd.R_below (rK HO789) hb); have HO793 := Aside0.mk (Kd.S_lower (Kd.S_new' (Kd.S_new' ho0 (Kd.S_lt (sK HO778))) (Kd.S_lt (sK HO785))) (below_size bA)); replace HO778 := Aside0.mk (Kd.S_elder' (sK HO778) (Kd.S_base ho0) hb); replace HO785 := Aside0.mk (Kd.S_elder' (sK HO785) (Kd.S_base ho0) hb); replace HB := Aside0.mk (below_step bA hb); (try clear hb); (try clear hb2); (try clear hk); (try clear hi); (try clear ho0); obtain ⟨Ao36, co36, eo36⟩ := Kd.S_slice HO793.out; subst eo36) | ((with_reducible refine gate_callee (f := 22) rfl ?_); refine gL (some 43) Try.func22 #[.slice Ao30 t783.length co30, .slice Ao36 t791.length co36] ?_; (with_reducible refine (laws_eqPartS.calls k _ _ t783 _ _ t791 true _ ?side1 ?side2 ?side3 ?side4 A19.out).mono ?_); (case side1 => repeat (first | exact (Kd.S_reads' HO785.out).2.2 | (with_reducible refine Kd.C_alloc ?_ _) | (with_reducible refine Kd.C_drewN ?_ _) | (with_reducible refine Kd.C_drew ?_))); (case side2 => exact (Kd.S_reads' HO785.out).2.1); (case side3 => repeat (first | exact (Kd.S_reads' HO793.out).2.2 | (with_reducible refine Kd.C_alloc ?_ _) | (with_reducible refine Kd.C_drewN ?_ _) | (with_reducible refine Kd.C_drew ?_))); (case side4 => exact (Kd.S_reads' HO793.out).2.1); rintro e w37 ⟨rfl, hb⟩; refine ⟨_, rfl, ?_⟩; replace HO775 := Aside0.mk (Kd.R_below (rK HO775) hb); replace HO778 := Aside0.mk (Kd.S_below (sK HO778) hb); replace HO782 := Aside0.mk (Kd.R_below (rK HO782) hb); replace HO785 := Aside0.mk (Kd.S_below (sK HO785) hb); replace HO789 := Aside0.mk (Kd.R_below (rK HO789) hb); replace HO793 := Aside0.mk (Kd.S_below (sK HO793) hb); replace HB := Aside0.mk (below_step bA hb); (try clear hb); (try clear hb2); (try clear hk); (try clear hi)))
      go_ret
      exact ⟨rA, bA⟩

end Go.Proofs.Ytbpnbflfpgakmaa.P
