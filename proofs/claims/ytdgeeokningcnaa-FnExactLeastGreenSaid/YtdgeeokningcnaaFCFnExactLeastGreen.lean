/- Printed by myprint.py (wip/tools) over the kit's print: what Go's functions compute, and that they do. Lean checks it. -/
import Derived.Test.YtdgeeokningcnaaF0
import Derived.Test.YtdgeeokningcnaaFI08
import Derived.Test.YtdgeeokningcnaaFLInt
import Derived.Test.YtdgeeokningcnaaFLPath
import Derived.Test.YtdgeeokningcnaaFS08
namespace Go.Proofs.Ytdgeeokningcnaa.P
open Go.RowKit Go.Proofs.YtdgeeokningcnaaW.PrintWords Go.Proofs.YtdgeeokningcnaaW.PrintLast Go.Proofs.YtdgeeokningcnaaW.PrintMore Go.Proofs.Ytdgeeokningcnaa.Sq
attribute [local go_sem] max2_int min2_int max_two min_two max_three min_three max_four min_four
set_option linter.unusedVariables false
set_option linter.unusedSimpArgs false

/-! ### laws_FnExactLeastGreen: function 12 -/
def laws_FnExactLeastGreen.f (k : Nat) (l0 : List (S94)) (l1 : List Int) : Option (Bool) := if (l1.length : Int) > 1048576 then (some true) else ((laws_szPathS.f l0 1048576).bind fun t388 => (if t388 < 0 then (some true) else ((laws_toPathS.f k l0).bind fun t389 => ((laws_toIntS.f k l1).bind fun t392 => ((spec_LeastGreen.f k t389 t392).bind fun t395 => ((laws_toPathS.f k l0).bind fun t396 => ((laws_toIntS.f k l1).bind fun t399 => ((impl_LeastGreen.f k t396 t399).bind fun t402 => (if t402 = t395 then ((laws_toPathS.f k l0).bind fun t403 => ((laws_eqPathS.f k t396 t403).bind fun t406 => (if t406 = true then ((laws_toIntS.f k l1).bind fun t407 => ((laws_eqIntS.f k t399 t407).bind fun t410 => (if t410 = true then (some true) else (none)))) else (none)))) else (none))))))))))
theorem laws_FnExactLeastGreen.mono : ∀ a0 a1 k, LeO (laws_FnExactLeastGreen.f k a0 a1) (laws_FnExactLeastGreen.f (k + 1) a0 a1) := by
  intro a0 a1 k
  unfold laws_FnExactLeastGreen.f
  repeat' first | (with_reducible first | exact LeO.refl _ | exact LeO.none _ | refine LeO.ite ?_ ?_ | refine LeO.bind ?_ (fun _ => ?_) | exact impl_LeastGreen.mono _ _ _ | exact laws_eqIntS.mono _ _ _ | exact laws_eqPathS.mono _ _ _ | exact laws_toIntS.mono _ _ | exact laws_toPathS.mono _ _ | exact spec_LeastGreen.mono _ _ _) | exact LeO.none _ | refine LeO.ite ?_ ?_ | refine LeO.bind ?_ (fun _ => ?_) | exact impl_LeastGreen.mono _ _ _ | exact laws_eqIntS.mono _ _ _ | exact laws_eqPathS.mono _ _ _ | exact laws_toIntS.mono _ _ | exact laws_toPathS.mono _ _ | exact spec_LeastGreen.mono _ _ _
set_option maxHeartbeats 8000000 in
set_option maxRecDepth 100000 in
theorem laws_FnExactLeastGreen.calls (k : Nat) (A0 : Option Addr) (c0 : Nat) (l0 : List (S94)) (A1 : Option Addr) (c1 : Nat) (l1 : List Int) (r : Bool) (w : World) (hr0 : Kd.C k94 w A0 l0.length l0) (hc0 : l0.length ≤ c0) (hr1 : Kd.C (Kd.int .i64) w A1 l1.length l1) (hc1 : l1.length ≤ c1) (h : laws_FnExactLeastGreen.f k l0 l1 = some r) :
    Calls Try.prog 12 #[.slice A0 l0.length c0, .slice A1 l1.length c1] w fun e w' => e = .returned (.bool r) ∧ Below w.heap.size w w' := by
  have HR0 := Aside0.mk hr0
  have HC0 := Aside0.mk hc0
  clear hr0 hc0
  have HR1 := Aside0.mk hr1
  have HC1 := Aside0.mk hc1
  clear hr1 hc1
  have HB := Aside0.mk (Below.refl w.heap.size w)
  have H : (if (l1.length : Int) > 1048576 then (some true) else ((laws_szPathS.f l0 1048576).bind fun t388 => (if t388 < 0 then (some true) else ((laws_toPathS.f k l0).bind fun t389 => ((laws_toIntS.f k l1).bind fun t392 => ((spec_LeastGreen.f k t389 t392).bind fun t395 => ((laws_toPathS.f k l0).bind fun t396 => ((laws_toIntS.f k l1).bind fun t399 => ((impl_LeastGreen.f k t396 t399).bind fun t402 => (if t402 = t395 then ((laws_toPathS.f k l0).bind fun t403 => ((laws_eqPathS.f k t396 t403).bind fun t406 => (if t406 = true then ((laws_toIntS.f k l1).bind fun t407 => ((laws_eqIntS.f k t399 t407).bind fun t410 => (if t410 = true then (some true) else (none)))) else (none)))) else (none))))))))))) = some r := h
  clear h
  by_cases c3 : (l1.length : Int) > 1048576
  · rw [if_pos c3] at H
    have c3b0 : decide (1048576 < (l1.length : Int)) = true := decide_eq_true c3
    have c3b1 : decide (1048576 < l1.length) = true := decide_eq_true (by omega)
    clear c3
    obtain rfl := Option.some.inj H
    go_enter Try.func12, Try.ntmps12
    go_wp2
    go_ret
    exact ⟨rA, bA⟩
  · rw [if_neg c3] at H
    have c3b0 : decide (1048576 < (l1.length : Int)) = false := decide_eq_false c3
    have c3b1 : decide (1048576 < l1.length) = false := decide_eq_false (by omega)
    clear c3
    obtain ⟨t388, A4, H⟩ := bindE H
    try dsimp only at H
    by_cases c5 : t388 < 0
    · rw [if_pos c5] at H
      have c5b0 : decide (t388 < 0) = true := decide_eq_true c5
      clear c5
      obtain rfl := Option.some.inj H
      go_enter Try.func12, Try.ntmps12
      go_wp2_with (first | ((with_reducible refine gate_callee (f := 46) rfl ?_); refine gL (some 15) Try.func46 #[.slice A0 l0.length c0, .int .i64 1048576] ?_; (with_reducible refine (laws_szPathS.calls _ _ l0 1048576 t388 _ ?side1 ?side2 A4.out).mono ?_); (case side1 => exact cO HR0); (case side2 => exact HC0.out); rintro e w' ⟨rfl, ⟨nd, rfl⟩⟩; refine ⟨_, rfl, ?_⟩))
      go_ret
      exact ⟨rA, bA⟩
    · rw [if_neg c5] at H
      have c5b0 : decide (t388 < 0) = false := decide_eq_false c5
      clear c5
      obtain ⟨t389, A6, H⟩ := bindE H
      try dsimp only at H
      obtain ⟨t392, A7, H⟩ := bindE H
      try dsimp only at H
      obtain ⟨t395, A8, H⟩ := bindE H
      try dsimp only at H
      obtain ⟨t396, A9, H⟩ := bindE H
      try dsimp only at H
      obtain ⟨t399, A10, H⟩ := bindE H
      try dsimp only at H
      obtain ⟨t402, A11, H⟩ := bindE H
      try dsimp only at H
      have c12 : t402 = t395 := ifN H
      replace H := ifT H
      have c12b0 : (t402 == t395) = true := beq_iff_eq.mpr c12
      have c12b1 : (t402 != t395) = false := bne_eq_false_iff_eq.mpr c12
      clear c12
      obtain ⟨t403, A13, H⟩ := bindE H
      try dsimp only at H
      obtain ⟨t406, A14, H⟩ := bindE H
      try dsimp only at H
      have c15 := ifN H
      replace H := ifT H
      subst c15
      obtain ⟨t407, A16, H⟩ := bindE H
      try dsimp only at H
      obtain ⟨t410, A17, H⟩ := bindE H
      try dsimp only at H
      have c18 := ifN H
      replace H := ifT H
      subst c18
      obtain rfl := Option.some.inj H
      go_enter Try.func12, Try.ntmps12
      go_wp2_with (first | ((with_reducible refine gate_callee (f := 46) rfl ?_); refine gL (some 15) Try.func46 #[.slice A0 l0.length c0, .int .i64 1048576] ?_; (with_reducible refine (laws_szPathS.calls _ _ l0 1048576 t388 _ ?side1 ?side2 A4.out).mono ?_); (case side1 => exact cO HR0); (case side2 => exact HC0.out); rintro e w' ⟨rfl, ⟨nd, rfl⟩⟩; refine ⟨_, rfl, ?_⟩) | ((with_reducible refine gate_callee (f := 48) rfl ?_); refine gL (some 19) Try.func48 #[.slice A0 l0.length c0] ?_; (with_reducible refine (laws_toPathS.calls k _ _ l0 t389 _ ?side1 ?side2 A6.out).mono ?_); (case side1 => exact cO HR0); (case side2 => exact HC0.out); rintro e w19 ⟨v390, rfl, ho0, hb⟩; refine ⟨_, rfl, ?_⟩; have HO391 := Aside0.mk (Kd.R_lower ho0 (below_size bA)); replace HB := Aside0.mk (below_step bA hb); (try clear hb); (try clear hb2); (try clear hk); (try clear hi); (try clear ho0)) | ((with_reducible refine gate_callee (f := 22) rfl ?_); refine gL (some 21) Try.func22 #[.slice A1 l1.length c1] ?_; (with_reducible refine (laws_toIntS.calls k _ _ l1 t392 _ ?side1 ?side2 A7.out).mono ?_); (case side1 => exact cB HR1); (case side2 => exact HC1.out); rintro e w20 ⟨v393, rfl, ho0, hb⟩; refine ⟨_, rfl, ?_⟩; replace HO391 := Aside0.mk (Kd.R_below (rK HO391) hb); have HO394 := Aside0.mk (Kd.R_lower ho0 (below_size bA)); replace HB := Aside0.mk (below_step bA hb); (try clear hb); (try clear hb2); (try clear hk); (try clear hi); (try clear ho0); obtain ⟨Ao21, co21, eo21⟩ := Kd.R_slice HO391.out; subst eo21; obtain ⟨Ao22, co22, eo22⟩ := Kd.R_slice HO394.out; subst eo22) | ((with_reducible refine gate_callee (f := 47) rfl ?_); refine gL (some 22) Try.func47 #[.slice Ao21 t389.length co21, .slice Ao22 t392.length co22] ?_; (with_reducible refine (spec_LeastGreen.calls k _ _ t389 _ _ t392 t395 _ ?side1 ?side2 ?side3 ?side4 A8.out).mono ?_); (case side1 => exact cO ⟨(Kd.R_reads' HO391.out).2.2⟩); (case side2 => exact (Kd.R_reads' HO391.out).2.1); (case side3 => exact cO ⟨(Kd.R_reads' HO394.out).2.2⟩); (case side4 => exact (Kd.R_reads' HO394.out).2.1); rintro e w' ⟨rfl, ⟨nd, rfl⟩⟩; refine ⟨_, rfl, ?_⟩) | ((with_reducible refine gate_callee (f := 48) rfl ?_); refine gL (some 24) Try.func48 #[.slice A0 l0.length c0] ?_; (with_reducible refine (laws_toPathS.calls k _ _ l0 t396 _ ?side1 ?side2 A9.out).mono ?_); (case side1 => exact cG HR0); (case side2 => exact HC0.out); rintro e w23 ⟨v397, rfl, ho0, hb⟩; refine ⟨_, rfl, ?_⟩; replace HO394 := Aside0.mk (Kd.R_below (rK HO394) hb); have HO398 := Aside0.mk (Kd.R_lower (Kd.R_new' ho0 (Kd.R_lt (rK HO391))) (below_size bA)); replace HO391 := Aside0.mk (Kd.R_elder' (rK HO391) (Kd.R_base ho0) hb); replace HB := Aside0.mk (below_step bA hb); (try clear hb); (try clear hb2); (try clear hk); (try clear hi); (try clear ho0)) | ((with_reducible refine gate_callee (f := 22) rfl ?_); refine gL (some 26) Try.func22 #[.slice A1 l1.length c1] ?_; (with_reducible refine (laws_toIntS.calls k _ _ l1 t399 _ ?side1 ?side2 A10.out).mono ?_); (case side1 => exact cB HR1); (case side2 => exact HC1.out); rintro e w24 ⟨v400, rfl, ho0, hb⟩; refine ⟨_, rfl, ?_⟩; replace HO391 := Aside0.mk (Kd.R_below (rK HO391) hb); replace HO398 := Aside0.mk (Kd.R_below (rK HO398) hb); have HO401 := Aside0.mk (Kd.R_lower (Kd.R_new' ho0 (Kd.R_lt (rK HO394))) (below_size bA)); replace HO394 := Aside0.mk (Kd.R_elder' (rK HO394) (Kd.R_base ho0) hb); replace HB := Aside0.mk (below_step bA hb); (try clear hb); (try clear hb2); (try clear hk); (try clear hi); (try clear ho0); obtain ⟨Ao25, co25, eo25⟩ := Kd.R_slice HO398.out; subst eo25; obtain ⟨Ao26, co26, eo26⟩ := Kd.R_slice HO401.out; subst eo26) | ((with_reducible refine gate_callee (f := 49) rfl ?_); refine gL (some 29) Try.func49 #[.slice Ao25 t396.length co25, .slice Ao26 t399.length co26] ?_; (with_reducible refine (impl_LeastGreen.calls k _ _ t396 _ _ t399 t402 _ ?side1 ?side2 ?side3 ?side4 A11.out).mono ?_); (case side1 => exact cO ⟨(Kd.R_reads' HO398.out).2.2⟩); (case side2 => exact (Kd.R_reads' HO398.out).2.1); (case side3 => exact cO ⟨(Kd.R_reads' HO401.out).2.2⟩); (case side4 => exact (Kd.R_reads' HO401.out).2.1); rintro e w27 ⟨rfl, hb⟩; refine ⟨_, rfl, ?_⟩; replace HO391 := Aside0.mk (Kd.R_below (rK HO391) hb); replace HO394 := Aside0.mk (Kd.R_below (rK HO394) hb); replace HO398 := Aside0.mk (Kd.R_below (rK HO398) hb); replace HO401 := Aside0.mk (Kd.R_below (rK HO401) hb); replace HB := Aside0.mk (below_step bA hb); (try clear hb); (try clear hb2); (try clear hk); (try clear hi)) | ((with_reducible refine gate_callee (f := 48) rfl ?_); refine gL (some 35) Try.func48 #[.slice A0 l0.length c0] ?_; (with_reducible refine (laws_toPathS.calls k _ _ l0 t403 _ ?side1 ?side2 A13.out).mono ?_); (case side1 => exact cB HR0); (case side2 => exact HC0.out); rintro e w28 ⟨v404, rfl, ho0, hb⟩; refine ⟨_, rfl, ?_⟩; replace HO394 := Aside0.mk (Kd.R_below (rK HO394) hb); replace HO401 := Aside0.mk (Kd.R_below (rK HO401) hb); have HO405 := Aside0.mk (Kd.R_lower (Kd.R_new' (Kd.R_new' ho0 (Kd.R_lt (rK HO391))) (Kd.R_lt (rK HO398))) (below_size bA)); replace HO391 := Aside0.mk (Kd.R_elder' (rK HO391) (Kd.R_base ho0) hb); replace HO398 := Aside0.mk (Kd.R_elder' (rK HO398) (Kd.R_base ho0) hb); replace HB := Aside0.mk (below_step bA hb); (try clear hb); (try clear hb2); (try clear hk); (try clear hi); (try clear ho0); obtain ⟨Ao29, co29, eo29⟩ := Kd.R_slice HO405.out; subst eo29) | ((with_reducible refine gate_callee (f := 50) rfl ?_); refine gL (some 36) Try.func50 #[.slice Ao25 t396.length co25, .slice Ao29 t403.length co29] ?_; (with_reducible refine (laws_eqPathS.calls k _ _ t396 _ _ t403 true _ ?side1 ?side2 ?side3 ?side4 A14.out).mono ?_); (case side1 => exact cO ⟨(Kd.R_reads' HO398.out).2.2⟩); (case side2 => exact (Kd.R_reads' HO398.out).2.1); (case side3 => exact cO ⟨(Kd.R_reads' HO405.out).2.2⟩); (case side4 => exact (Kd.R_reads' HO405.out).2.1); rintro e w30 ⟨rfl, hb⟩; refine ⟨_, rfl, ?_⟩; replace HO391 := Aside0.mk (Kd.R_below (rK HO391) hb); replace HO394 := Aside0.mk (Kd.R_below (rK HO394) hb); replace HO398 := Aside0.mk (Kd.R_below (rK HO398) hb); replace HO401 := Aside0.mk (Kd.R_below (rK HO401) hb); replace HO405 := Aside0.mk (Kd.R_below (rK HO405) hb); replace HB := Aside0.mk (below_step bA hb); (try clear hb); (try clear hb2); (try clear hk); (try clear hi)) | ((with_reducible refine gate_callee (f := 22) rfl ?_); refine gL (some 40) Try.func22 #[.slice A1 l1.length c1] ?_; (with_reducible refine (laws_toIntS.calls k _ _ l1 t407 _ ?side1 ?side2 A16.out).mono ?_); (case side1 => exact cB HR1); (case side2 => exact HC1.out); rintro e w31 ⟨v408, rfl, ho0, hb⟩; refine ⟨_, rfl, ?_⟩; replace HO391 := Aside0.mk (Kd.R_below (rK HO391) hb); replace HO398 := Aside0.mk (Kd.R_below (rK HO398) hb); replace HO405 := Aside0.mk (Kd.R_below (rK HO405) hb); have HO409 := Aside0.mk (Kd.R_lower (Kd.R_new' (Kd.R_new' ho0 (Kd.R_lt (rK HO394))) (Kd.R_lt (rK HO401))) (below_size bA)); replace HO394 := Aside0.mk (Kd.R_elder' (rK HO394) (Kd.R_base ho0) hb); replace HO401 := Aside0.mk (Kd.R_elder' (rK HO401) (Kd.R_base ho0) hb); replace HB := Aside0.mk (below_step bA hb); (try clear hb); (try clear hb2); (try clear hk); (try clear hi); (try clear ho0); obtain ⟨Ao32, co32, eo32⟩ := Kd.R_slice HO409.out; subst eo32) | ((with_reducible refine gate_callee (f := 24) rfl ?_); refine gL (some 41) Try.func24 #[.slice Ao26 t399.length co26, .slice Ao32 t407.length co32] ?_; (with_reducible refine (laws_eqIntS.calls k _ _ t399 _ _ t407 true _ ?side1 ?side2 ?side3 ?side4 A17.out).mono ?_); (case side1 => exact cO ⟨(Kd.R_reads' HO401.out).2.2⟩); (case side2 => exact (Kd.R_reads' HO401.out).2.1); (case side3 => exact cO ⟨(Kd.R_reads' HO409.out).2.2⟩); (case side4 => exact (Kd.R_reads' HO409.out).2.1); rintro e w' ⟨rfl, ⟨nd, rfl⟩⟩; refine ⟨_, rfl, ?_⟩))
      go_ret
      exact ⟨rA, bA⟩

end Go.Proofs.Ytdgeeokningcnaa.P
