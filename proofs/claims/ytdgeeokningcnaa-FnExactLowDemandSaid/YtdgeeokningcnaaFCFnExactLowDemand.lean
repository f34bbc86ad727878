/- Printed by myprint.py (wip/tools) over the kit's print: what Go's functions compute, and that they do. Lean checks it. -/
import Derived.Test.YtdgeeokningcnaaF0
import Derived.Test.YtdgeeokningcnaaFI10
import Derived.Test.YtdgeeokningcnaaFLDetector
import Derived.Test.YtdgeeokningcnaaFS10
namespace Go.Proofs.Ytdgeeokningcnaa.P
open Go.RowKit Go.Proofs.YtdgeeokningcnaaW.PrintWords Go.Proofs.YtdgeeokningcnaaW.PrintLast Go.Proofs.YtdgeeokningcnaaW.PrintMore Go.Proofs.Ytdgeeokningcnaa.Sq
attribute [local go_sem] max2_int min2_int max_two min_two max_three min_three max_four min_four
set_option linter.unusedVariables false
set_option linter.unusedSimpArgs false

/-! ### laws_FnExactLowDemand: function 8 -/
def laws_FnExactLowDemand.f (k : Nat) (l0 : List (S23)) (a1 : Int) : Option (Bool) := (laws_szDetectorS.f l0 1048576).bind fun t198 => (if t198 < 0 then (some true) else ((laws_toDetectorS.f k l0).bind fun t199 => ((spec_LowDemand.f k t199 a1).bind fun t202 => ((laws_toDetectorS.f k l0).bind fun t203 => ((impl_LowDemand.f t203 a1).bind fun t206 => (if t206 = t202 then ((laws_toDetectorS.f k l0).bind fun t207 => ((laws_eqDetectorS.f k t203 t207).bind fun t210 => (if t210 = true then (some true) else (none)))) else (none)))))))
theorem laws_FnExactLowDemand.mono : ∀ a0 a1 k, LeO (laws_FnExactLowDemand.f k a0 a1) (laws_FnExactLowDemand.f (k + 1) a0 a1) := by
  intro a0 a1 k
  unfold laws_FnExactLowDemand.f
  repeat' first | (with_reducible first | exact LeO.refl _ | exact LeO.none _ | refine LeO.ite ?_ ?_ | refine LeO.bind ?_ (fun _ => ?_) | exact laws_eqDetectorS.mono _ _ _ | exact laws_toDetectorS.mono _ _ | exact spec_LowDemand.mono _ _ _) | exact LeO.none _ | refine LeO.ite ?_ ?_ | refine LeO.bind ?_ (fun _ => ?_) | exact laws_eqDetectorS.mono _ _ _ | exact laws_toDetectorS.mono _ _ | exact spec_LowDemand.mono _ _ _
set_option maxHeartbeats 8000000 in
set_option maxRecDepth 100000 in
theorem laws_FnExactLowDemand.calls (k : Nat) (A0 : Option Addr) (c0 : Nat) (l0 : List (S23)) (a1 : Int) (r : Bool) (w : World) (hr0 : Kd.C k23 w A0 l0.length l0) (hc0 : l0.length ≤ c0) (h : laws_FnExactLowDemand.f k l0 a1 = some r) :
    Calls Try.prog 8 #[.slice A0 l0.length c0, .int .i64 a1] w fun e w' => e = .returned (.bool r) ∧ Below w.heap.size w w' := by
  have HR0 := Aside0.mk hr0
  have HC0 := Aside0.mk hc0
  clear hr0 hc0
  have HB := Aside0.mk (Below.refl w.heap.size w)
  have H : ((laws_szDetectorS.f l0 1048576).bind fun t198 => (if t198 < 0 then (some true) else ((laws_toDetectorS.f k l0).bind fun t199 => ((spec_LowDemand.f k t199 a1).bind fun t202 => ((laws_toDetectorS.f k l0).bind fun t203 => ((impl_LowDemand.f t203 a1).bind fun t206 => (if t206 = t202 then ((laws_toDetectorS.f k l0).bind fun t207 => ((laws_eqDetectorS.f k t203 t207).bind fun t210 => (if t210 = true then (some true) else (none)))) else (none)))))))) = some r := h
  clear h
  obtain ⟨t198, A3, H⟩ := bindE H
  try dsimp only at H
  by_cases c4 : t198 < 0
  · rw [if_pos c4] at H
    have c4b0 : decide (t198 < 0) = true := decide_eq_true c4
    clear c4
    obtain rfl := Option.some.inj H
    go_enter Try.func8, Try.ntmps8
    go_wp2_with (first | ((with_reducible refine gate_callee (f := 29) rfl ?_); refine gL (some 11) Try.func29 #[.slice A0 l0.length c0, .int .i64 1048576] ?_; (with_reducible refine (laws_szDetectorS.calls _ _ l0 1048576 t198 _ ?side1 ?side2 A3.out).mono ?_); (case side1 => exact cO HR0); (case side2 => exact HC0.out); rintro e w' ⟨rfl, ⟨nd, rfl⟩⟩; refine ⟨_, rfl, ?_⟩))
    go_ret
    exact ⟨rA, bA⟩
  · rw [if_neg c4] at H
    have c4b0 : decide (t198 < 0) = false := decide_eq_false c4
    clear c4
    obtain ⟨t199, A5, H⟩ := bindE H
    try dsimp only at H
    obtain ⟨t202, A6, H⟩ := bindE H
    try dsimp only at H
    obtain ⟨t203, A7, H⟩ := bindE H
    try dsimp only at H
    obtain ⟨t206, A8, H⟩ := bindE H
    try dsimp only at H
    have c9 : t206 = t202 := ifN H
    replace H := ifT H
    have c9b0 : (t206 == t202) = true := beq_iff_eq.mpr c9
    have c9b1 : (t206 != t202) = false := bne_eq_false_iff_eq.mpr c9
    clear c9
    obtain ⟨t207, A10, H⟩ := bindE H
    try dsimp only at H
    obtain ⟨t210, A11, H⟩ := bindE H
    try dsimp only at H
    have c12 := ifN H
    replace H := ifT H
    subst c12
    obtain rfl := Option.some.inj H
    go_enter Try.func8, Try.ntmps8
    go_wp2_with (first | ((with_reducible refine gate_callee (f := 29) rfl ?_); refine gL (some 11) Try.func29 #[.slice A0 l0.length c0, .int .i64 1048576] ?_; (with_reducible refine (laws_szDetectorS.calls _ _ l0 1048576 t198 _ ?side1 ?side2 A3.out).mono ?_); (case side1 => exact cO HR0); (case side2 => exact HC0.out); rintro e w' ⟨rfl, ⟨nd, rfl⟩⟩; refine ⟨_, rfl, ?_⟩) | ((with_reducible refine gate_callee (f := 31) rfl ?_); refine gL (some 15) Try.func31 #[.slice A0 l0.length c0] ?_; (with_reducible refine (laws_toDetectorS.calls k _ _ l0 t199 _ ?side1 ?side2 A5.out).mono ?_); (case side1 => exact cO HR0); (case side2 => exact HC0.out); rintro e w13 ⟨v200, rfl, ho0, hb⟩; refine ⟨_, rfl, ?_⟩; have HO201 := Aside0.mk (Kd.R_lower ho0 (below_size bA)); replace HB := Aside0.mk (below_step bA hb); (try clear hb); (try clear hb2); (try clear hk); (try clear hi); (try clear ho0); obtain ⟨Ao14, co14, eo14⟩ := Kd.R_slice HO201.out; subst eo14) | ((with_reducible refine gate_callee (f := 30) rfl ?_); refine gL (some 17) Try.func30 #[.slice Ao14 t199.length co14, .int .i64 a1] ?_; (with_reducible refine (spec_LowDemand.calls k _ _ t199 a1 t202 _ ?side1 ?side2 A6.out).mono ?_); (case side1 => exact cO ⟨(Kd.R_reads' HO201.out).2.2⟩); (case side2 => exact (Kd.R_reads' HO201.out).2.1); rintro e w15 ⟨rfl, hb⟩; refine ⟨_, rfl, ?_⟩; replace HO201 := Aside0.mk (Kd.R_below (rK HO201) hb); replace HB := Aside0.mk (below_step bA hb); (try clear hb); (try clear hb2); (try clear hk); (try clear hi)) | ((with_reducible refine gate_callee (f := 31) rfl ?_); refine gL (some 19) Try.func31 #[.slice A0 l0.length c0] ?_; (with_reducible refine (laws_toDetectorS.calls k _ _ l0 t203 _ ?side1 ?side2 A7.out).mono ?_); (case side1 => exact cB HR0); (case side2 => exact HC0.out); rintro e w16 ⟨v204, rfl, ho0, hb⟩; refine ⟨_, rfl, ?_⟩; have HO205 := Aside0.mk (Kd.R_lower (Kd.R_new' ho0 (Kd.R_lt (rK HO201))) (below_size bA)); replace HO201 := Aside0.mk (Kd.R_elder' (rK HO201) (Kd.R_base ho0) hb); replace HB := Aside0.mk (below_step bA hb); (try clear hb); (try clear hb2); (try clear hk); (try clear hi); (try clear ho0); obtain ⟨Ao17, co17, eo17⟩ := Kd.R_slice HO205.out; subst eo17) | ((with_reducible refine gate_callee (f := 32) rfl ?_); refine gL (some 22) Try.func32 #[.slice Ao17 t203.length co17, .int .i64 a1] ?_; (with_reducible refine (impl_LowDemand.calls _ _ t203 a1 t206 _ ?side1 ?side2 A8.out).mono ?_); (case side1 => exact cO ⟨(Kd.R_reads' HO205.out).2.2⟩); (case side2 => exact (Kd.R_reads' HO205.out).2.1); rintro e w18 ⟨rfl, hb⟩; refine ⟨_, rfl, ?_⟩; replace HO201 := Aside0.mk (Kd.R_below (rK HO201) hb); replace HO205 := Aside0.mk (Kd.R_below (rK HO205) hb); replace HB := Aside0.mk (below_step bA hb); (try clear hb); (try clear hb2); (try clear hk); (try clear hi)) | ((with_reducible refine gate_callee (f := 31) rfl ?_); refine gL (some 28) Try.func31 #[.slice A0 l0.length c0] ?_; (with_reducible refine (laws_toDetectorS.calls k _ _ l0 t207 _ ?side1 ?side2 A10.out).mono ?_); (case side1 => exact cB HR0); (case side2 => exact HC0.out); rintro e w19 ⟨v208, rfl, ho0, hb⟩; refine ⟨_, rfl, ?_⟩; have HO209 := Aside0.mk (Kd.R_lower (Kd.R_new' (Kd.R_new' ho0 (Kd.R_lt (rK HO201))) (Kd.R_lt (rK HO205))) (below_size bA)); replace HO201 := Aside0.mk (Kd.R_elder' (rK HO201) (Kd.R_base ho0) hb); replace HO205 := Aside0.mk (Kd.R_elder' (rK HO205) (Kd.R_base ho0) hb); replace HB := Aside0.mk (below_step bA hb); (try clear hb); (try clear hb2); (try clear hk); (try clear hi); (try clear ho0); obtain ⟨Ao20, co20, eo20⟩ := Kd.R_slice HO209.out; subst eo20) | ((with_reducible refine gate_callee (f := 33) rfl ?_); refine gL (some 29) Try.func33 #[.slice Ao17 t203.length co17, .slice Ao20 t207.length co20] ?_; (with_reducible refine (laws_eqDetectorS.calls k _ _ t203 _ _ t207 true _ ?side1 ?side2 ?side3 ?side4 A11.out).mono ?_); (case side1 => exact cO ⟨(Kd.R_reads' HO205.out).2.2⟩); (case side2 => exact (Kd.R_reads' HO205.out).2.1); (case side3 => exact cO ⟨(Kd.R_reads' HO209.out).2.2⟩); (case side4 => exact (Kd.R_reads' HO209.out).2.1); rintro e w21 ⟨rfl, hb⟩; refine ⟨_, rfl, ?_⟩; replace HO201 := Aside0.mk (Kd.R_below (rK HO201) hb); replace HO205 := Aside0.mk (Kd.R_below (rK HO205) hb); replace HO209 := Aside0.mk (Kd.R_below (rK HO209) hb); replace HB := Aside0.mk (below_step bA hb); (try clear hb); (try clear hb2); (try clear hk); (try clear hi)))
    go_ret
    exact ⟨rA, bA⟩

end Go.Proofs.Ytdgeeokningcnaa.P
