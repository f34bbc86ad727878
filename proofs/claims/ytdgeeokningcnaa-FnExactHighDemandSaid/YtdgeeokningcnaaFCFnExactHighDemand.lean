/- Printed by myprint.py (wip/tools) over the kit's print: what Go's functions compute, and that they do. Lean checks it. -/
import Derived.Test.YtdgeeokningcnaaF0
import Derived.Test.YtdgeeokningcnaaFI10
import Derived.Test.YtdgeeokningcnaaFLDetector
import Derived.Test.YtdgeeokningcnaaFS10
namespace Go.Proofs.Ytdgeeokningcnaa.P
open Go.RowKit Go.Proofs.YtdgeeokningcnaaW.PrintWords Go.Proofs.YtdgeeokningcnaaW.PrintLast Go.Proofs.YtdgeeokningcnaaW.PrintMore Go.Proofs.Ytdgeeokningcnaa.Sq
attribute [local go_sem] max2_int min2_int max_two min_two max_three min_three max_four min_four
set_option linter.unusedVariables false
set_option linter.unusedSimpArgs false

/-! ### laws_FnExactHighDemand: function 9 -/
def laws_FnExactHighDemand.f (k : Nat) (l0 : List (S23)) (a1 : Int) : Option (Bool) := (laws_szDetectorS.f l0 1048576).bind fun t215 => (if t215 < 0 then (some true) else ((laws_toDetectorS.f k l0).bind fun t216 => ((spec_HighDemand.f k t216 a1).bind fun t219 => ((laws_toDetectorS.f k l0).bind fun t220 => ((impl_HighDemand.f t220 a1).bind fun t223 => (if t223 = t219 then ((laws_toDetectorS.f k l0).bind fun t224 => ((laws_eqDetectorS.f k t220 t224).bind fun t227 => (if t227 = true then (some true) else (none)))) else (none)))))))
theorem laws_FnExactHighDemand.mono : ∀ a0 a1 k, LeO (laws_FnExactHighDemand.f k a0 a1) (laws_FnExactHighDemand.f (k + 1) a0 a1) := by
  intro a0 a1 k
  unfold laws_FnExactHighDemand.f
  repeat' first | (with_reducible first | exact LeO.refl _ | exact LeO.none _ | refine LeO.ite ?_ ?_ | refine LeO.bind ?_ (fun _ => ?_) | exact laws_eqDetectorS.mono _ _ _ | exact laws_toDetectorS.mono _ _ | exact spec_HighDemand.mono _ _ _) | exact LeO.none _ | refine LeO.ite ?_ ?_ | refine LeO.bind ?_ (fun _ => ?_) | exact laws_eqDetectorS.mono _ _ _ | exact laws_toDetectorS.mono _ _ | exact spec_HighDemand.mono _ _ _
set_option maxHeartbeats 8000000 in
set_option maxRecDepth 100000 in
theorem laws_FnExactHighDemand.calls (k : Nat) (A0 : Option Addr) (c0 : Nat) (l0 : List (S23)) (a1 : Int) (r : Bool) (w : World) (hr0 : Kd.C k23 w A0 l0.length l0) (hc0 : l0.length ≤ c0) (h : laws_FnExactHighDemand.f k l0 a1 = some r) :
    Calls Try.prog 9 #[.slice A0 l0.length c0, .int .i64 a1] w fun e w' => e = .returned (.bool r) ∧ Below w.heap.size w w' := by
  have HR0 := Aside0.mk hr0
  have HC0 := Aside0.mk hc0
  clear hr0 hc0
  have HB := Aside0.mk (Below.refl w.heap.size w)
  have H : ((laws_szDetectorS.f l0 1048576).bind fun t215 => (if t215 < 0 then (some true) else ((laws_toDetectorS.f k l0).bind fun t216 => ((spec_HighDemand.f k t216 a1).bind fun t219 => ((laws_toDetectorS.f k l0).bind fun t220 => ((impl_HighDemand.f t220 a1).bind fun t223 => (if t223 = t219 then ((laws_toDetectorS.f k l0).bind fun t224 => ((laws_eqDetectorS.f k t220 t224).bind fun t227 => (if t227 = true then (some true) else (none)))) else (none)))))))) = some r := h
  clear h
  obtain ⟨t215, A3, H⟩ := bindE H
  try dsimp only at H
  by_cases c4 : t215 < 0
  · rw [if_pos c4] at H
    have c4b0 : decide (t215 < 0) = true := decide_eq_true c4
    clear c4
    obtain rfl := Option.some.inj H
    go_enter Try.func9, Try.ntmps9
    go_wp2_with (first | ((with_reducible refine gate_callee (f := 29) rfl ?_); refine gL (some 11) Try.func29 #[.slice A0 l0.length c0, .int .i64 1048576] ?_; (with_reducible refine (laws_szDetectorS.calls _ _ l0 1048576 t215 _ ?side1 ?side2 A3.out).mono ?_); (case side1 => exact cO HR0); (case side2 => exact HC0.out); rintro e w' ⟨rfl, ⟨nd, rfl⟩⟩; refine ⟨_, rfl, ?_⟩))
    go_ret
    exact ⟨rA, bA⟩
  · rw [if_neg c4] at H
    have c4b0 : decide (t215 < 0) = false := decide_eq_false c4
    clear c4
    obtain ⟨t216, A5, H⟩ := bindE H
    try dsimp only at H
    obtain ⟨t219, A6, H⟩ := bindE H
    try dsimp only at H
    obtain ⟨t220, A7, H⟩ := bindE H
    try dsimp only at H
    obtain ⟨t223, A8, H⟩ := bindE H
    try dsimp only at H
    have c9 : t223 = t219 := ifN H
    replace H := ifT H
    have c9b0 : (t223 == t219) = true := beq_iff_eq.mpr c9
    have c9b1 : (t223 != t219) = false := bne_eq_false_iff_eq.mpr c9
    clear c9
    obtain ⟨t224, A10, H⟩ := bindE H
    try dsimp only at H
    obtain ⟨t227, A11, H⟩ := bindE H
    try dsimp only at H
    have c12 := ifN H
    replace H := ifT H
    subst c12
    obtain rfl := Option.some.inj H
    go_enter Try.func9, Try.ntmps9
    go_wp2_with (first | ((with_reducible refine gate_callee (f := 29) rfl ?_); refine gL (some 11) Try.func29 #[.slice A0 l0.length c0, .int .i64 1048576] ?_; (with_reducible refine (laws_szDetectorS.calls _ _ l0 1048576 t215 _ ?side1 ?side2 A3.out).mono ?_); (case side1 => exact cO HR0); (case side2 => exact HC0.out); rintro e w' ⟨rfl, ⟨nd, rfl⟩⟩; refine ⟨_, rfl, ?_⟩) | ((with_reducible refine gate_callee (f := 31) rfl ?_); refine gL (some 15) Try.func31 #[.slice A0 l0.length c0] ?_; (with_reducible refine (laws_toDetectorS.calls k _ _ l0 t216 _ ?side1 ?side2 A5.out).mono ?_); (case side1 => exact cO HR0); (case side2 => exact HC0.out); rintro e w13 ⟨v217, rfl, ho0, hb⟩; refine ⟨_, rfl, ?_⟩; have HO218 := Aside0.mk (Kd.R_lower ho0 (below_size bA)); replace HB := Aside0.mk (below_step bA hb); (try clear hb); (try clear hb2); (try clear hk); (try clear hi); (try clear ho0); obtain ⟨Ao14, co14, eo14⟩ := Kd.R_slice HO218.out; subst eo14) | ((with_reducible refine gate_callee (f := 34) rfl ?_); refine gL (some 17) Try.func34 #[.slice Ao14 t216.length co14, .int .i64 a1] ?_; (with_reducible refine (spec_HighDemand.calls k _ _ t216 a1 t219 _ ?side1 ?side2 A6.out).mono ?_); (case side1 => exact cO ⟨(Kd.R_reads' HO218.out).2.2⟩); (case side2 => exact (Kd.R_reads' HO218.out).2.1); rintro e w15 ⟨rfl, hb⟩; refine ⟨_, rfl, ?_⟩; replace HO218 := Aside0.mk (Kd.R_below (rK HO218) hb); replace HB := Aside0.mk (below_step bA hb); (try clear hb); (try clear hb2); (try clear hk); (try clear hi)) | ((with_reducible refine gate_callee (f := 31) rfl ?_); refine gL (some 19) Try.func31 #[.slice A0 l0.length c0] ?_; (with_reducible refine (laws_toDetectorS.calls k _ _ l0 t220 _ ?side1 ?side2 A7.out).mono ?_); (case side1 => exact cB HR0); (case side2 => exact HC0.out); rintro e w16 ⟨v221, rfl, ho0, hb⟩; refine ⟨_, rfl, ?_⟩; have HO222 := Aside0.mk (Kd.R_lower (Kd.R_new' ho0 (Kd.R_lt (rK HO218))) (below_size bA)); replace HO218 := Aside0.mk (Kd.R_elder' (rK HO218) (Kd.R_base ho0) hb); replace HB := Aside0.mk (below_step bA hb); (try clear hb); (try clear hb2); (try clear hk); (try clear hi); (try clear ho0); obtain ⟨Ao17, co17, eo17⟩ := Kd.R_slice HO222.out; subst eo17) | ((with_reducible refine gate_callee (f := 35) rfl ?_); refine gL (some 22) Try.func35 #[.slice Ao17 t220.length co17, .int .i64 a1] ?_; (with_reducible refine (impl_HighDemand.calls _ _ t220 a1 t223 _ ?side1 ?side2 A8.out).mono ?_); (case side1 => exact cO ⟨(Kd.R_reads' HO222.out).2.2⟩); (case side2 => exact (Kd.R_reads' HO222.out).2.1); rintro e w18 ⟨rfl, hb⟩; refine ⟨_, rfl, ?_⟩; replace HO218 := Aside0.mk (Kd.R_below (rK HO218) hb); replace HO222 := Aside0.mk (Kd.R_below (rK HO222) hb); replace HB := Aside0.mk (below_step bA hb); (try clear hb); (try clear hb2); (try clear hk); (try clear hi)) | ((with_reducible refine gate_callee (f := 31) rfl ?_); refine gL (some 28) Try.func31 #[.slice A0 l0.length c0] ?_; (with_reducible refine (laws_toDetectorS.calls k _ _ l0 t224 _ ?side1 ?side2 A10.out).mono ?_); (case side1 => exact cB HR0); (case side2 => exact HC0.out); rintro e w19 ⟨v225, rfl, ho0, hb⟩; refine ⟨_, rfl, ?_⟩; have HO226 := Aside0.mk (Kd.R_lower (Kd.R_new' (Kd.R_new' ho0 (Kd.R_lt (rK HO218))) (Kd.R_lt (rK HO222))) (below_size bA)); replace HO218 := Aside0.mk (Kd.R_elder' (rK HO218) (Kd.R_base ho0) hb); replace HO222 := Aside0.mk (Kd.R_elder' (rK HO222) (Kd.R_base ho0) hb); replace HB := Aside0.mk (below_step bA hb); (try clear hb); (try clear hb2); (try clear hk); (try clear hi); (try clear ho0); obtain ⟨Ao20, co20, eo20⟩ := Kd.R_slice HO226.out; subst eo20) | ((with_reducible refine gate_callee (f := 33) rfl ?_); refine gL (some 29) Try.func33 #[.slice Ao17 t220.length co17, .slice Ao20 t224.length co20] ?_; (with_reducible refine (laws_eqDetectorS.calls k _ _ t220 _ _ t224 true _ ?side1 ?side2 ?side3 ?side4 A11.out).mono ?_); (case side1 => exact cO ⟨(Kd.R_reads' HO222.out).2.2⟩); (case side2 => exact (Kd.R_reads' HO222.out).2.1); (case side3 => exact cO ⟨(Kd.R_reads' HO226.out).2.2⟩); (case side4 => exact (Kd.R_reads' HO226.out).2.1); rintro e w21 ⟨rfl, hb⟩; refine ⟨_, rfl, ?_⟩; replace HO218 := Aside0.mk (Kd.R_below (rK HO218) hb); replace HO222 := Aside0.mk (Kd.R_below (rK HO222) hb); replace HO226 := Aside0.mk (Kd.R_below (rK HO226) hb); replace HB := Aside0.mk (below_step bA hb); (try clear hb); (try clear hb2); (try clear hk); (try clear hi)))
    go_ret
    exact ⟨rA, bA⟩

end Go.Proofs.Ytdgeeokningcnaa.P
