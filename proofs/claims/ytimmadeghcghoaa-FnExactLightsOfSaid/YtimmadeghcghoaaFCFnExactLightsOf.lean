/- Printed by myprint.py (wip/tools) over the kit's print: what Go's functions compute, and that they do. Lean checks it. -/
import Derived.Test.YtimmadeghcghoaaF0
import Derived.Test.YtimmadeghcghoaaFI14
import Derived.Test.YtimmadeghcghoaaFLControl
import Derived.Test.YtimmadeghcghoaaFLInt
import Derived.Test.YtimmadeghcghoaaFLPath
import Derived.Test.YtimmadeghcghoaaFMControl
import Derived.Test.YtimmadeghcghoaaFMInt
import Derived.Test.YtimmadeghcghoaaFMPath
import Derived.Test.YtimmadeghcghoaaFS14
namespace Go.Proofs.Ytimmadeghcghoaa.P
open Go.RowKit Go.Proofs.YtimmadeghcghoaaW.PrintWords Go.Proofs.YtimmadeghcghoaaW.PrintLast Go.Proofs.YtimmadeghcghoaaW.PrintMore Go.Proofs.Ytimmadeghcghoaa.Sq
attribute [local go_sem] max2_int min2_int max_two min_two max_three min_three max_four min_four
set_option linter.unusedVariables false
set_option linter.unusedSimpArgs false

/-! ### laws_FnExactLightsOf: function 13 -/
def laws_FnExactLightsOf.j0 : Nat → List (S92) → List Int → List Int → Bool → List Int → Int → List Int → Int → Option (Bool)
  | 0, _, _, _, _, _, _, _, _ => none
  | k + 1, x0, x6, x9, x63, x932000, x932001, x932002, x932003 => if x63 = true then (none) else ((laws_markIntS.f k x9 1).bind fun bt983 => ((laws_heldIntS.f k bt983.2 1).bind fun t985 => (if t985 < 0 then (none) else (if t985 = bt983.1 then ((laws_toPathS.f k x0).bind fun t986 => ((laws_toControl.f k x932000 x932001 x932002 x932003).bind fun bt989 => ((impl_LightsOf.f k t986 bt989.1 bt989.2.1 bt989.2.2.1 bt989.2.2.2).bind fun t997 => ((laws_eqIntS.f k t997 x6).bind fun t1000 => (if t1000 = true then ((laws_heldIntS.f k bt983.2 1).bind fun t1001 => (if t1001 < 0 then (none) else (if t1001 = bt983.1 then (some true) else (none)))) else (none)))))) else (none)))))
def laws_FnExactLightsOf.f (k : Nat) (l0 : List (S92)) (l1_0 : List Int) (a1_1 : Int) (l1_2 : List Int) (a1_3 : Int) : Option (Bool) := (laws_szPathS.f l0 1048576).bind fun t932 => (if t932 < 0 then (some true) else ((laws_szControl.f l1_0 a1_1 l1_2 a1_3 t932).bind fun t933 => (if t933 < 0 then (some true) else ((laws_toPathS.f k l0).bind fun t934 => ((laws_toControl.f k l1_0 a1_1 l1_2 a1_3).bind fun bt937 => ((spec_LightsOf.f k t934 bt937.1 bt937.2.1 bt937.2.2.1 bt937.2.2.2).bind fun t945 => ((laws_toPathS.f k l0).bind fun t948 => ((laws_toControl.f k l1_0 a1_1 l1_2 a1_3).bind fun bt951 => ((impl_LightsOf.f k t948 bt951.1 bt951.2.1 bt951.2.2.1 bt951.2.2.2).bind fun t960 => ((laws_eqIntS.f k t960 t945).bind fun t963 => (if t963 = true then ((laws_toPathS.f k l0).bind fun t964 => ((laws_eqPathS.f k t948 t964).bind fun t967 => (if t967 = true then ((laws_toControl.f k l1_0 a1_1 l1_2 a1_3).bind fun bt968 => ((laws_eqControl.f k bt951.1 bt951.2.1 bt951.2.2.1 bt951.2.2.2 bt968.1 bt968.2.1 bt968.2.2.1 bt968.2.2.2).bind fun t976 => (if t976 = true then ((laws_markPathS.f k t948 1).bind fun bt977 => ((laws_markControl.f k bt951.1 bt951.2.1 bt951.2.2.1 bt951.2.2.2 bt977.1).bind fun bt979 => (if bt979.1 < 0 then (laws_FnExactLightsOf.j0 k l0 t945 t960 true l1_0 a1_1 l1_2 a1_3) else ((laws_eqIntS.f k t960 t945).bind fun t982 => (laws_FnExactLightsOf.j0 k l0 t945 t960 (!t982) l1_0 a1_1 l1_2 a1_3))))) else (none)))) else (none)))) else (none))))))))))))
theorem laws_FnExactLightsOf.mono_l : ∀ k, (∀ y0 y1 y2 y3 y4 y5 y6 y7, LeO (laws_FnExactLightsOf.j0 k y0 y1 y2 y3 y4 y5 y6 y7) (laws_FnExactLightsOf.j0 (k + 1) y0 y1 y2 y3 y4 y5 y6 y7))
  | 0 => fun _ _ _ _ _ _ _ _ r h => by simp [laws_FnExactLightsOf.j0] at h
  | k + 1 => by
    have ih0 := laws_FnExactLightsOf.mono_l k
    · intro y0 y1 y2 y3 y4 y5 y6 y7
      unfold laws_FnExactLightsOf.j0
      repeat' first | (with_reducible first | exact LeO.refl _ | exact LeO.none _ | refine LeO.ite ?_ ?_ | refine LeO.bind ?_ (fun _ => ?_) | exact ih0 _ _ _ _ _ _ _ _ | exact impl_LightsOf.mono _ _ _ _ _ _ | exact laws_eqControl.mono _ _ _ _ _ _ _ _ _ | exact laws_eqIntS.mono _ _ _ | exact laws_eqPathS.mono _ _ _ | exact laws_heldIntS.mono _ _ _ | exact laws_markControl.mono _ _ _ _ _ _ | exact laws_markIntS.mono _ _ _ | exact laws_markPathS.mono _ _ _ | exact laws_toControl.mono _ _ _ _ _ | exact laws_toPathS.mono _ _ | exact spec_LightsOf.mono _ _ _ _ _ _) | exact LeO.none _ | refine LeO.ite ?_ ?_ | refine LeO.bind ?_ (fun _ => ?_) | exact ih0 _ _ _ _ _ _ _ _ | exact impl_LightsOf.mono _ _ _ _ _ _ | exact laws_eqControl.mono _ _ _ _ _ _ _ _ _ | exact laws_eqIntS.mono _ _ _ | exact laws_eqPathS.mono _ _ _ | exact laws_heldIntS.mono _ _ _ | exact laws_markControl.mono _ _ _ _ _ _ | exact laws_markIntS.mono _ _ _ | exact laws_markPathS.mono _ _ _ | exact laws_toControl.mono _ _ _ _ _ | exact laws_toPathS.mono _ _ | exact spec_LightsOf.mono _ _ _ _ _ _
theorem laws_FnExactLightsOf.mono : ∀ a0 a1 a2 a3 a4 k, LeO (laws_FnExactLightsOf.f k a0 a1 a2 a3 a4) (laws_FnExactLightsOf.f (k + 1) a0 a1 a2 a3 a4) := by
  intro a0 a1 a2 a3 a4 k
  have ih0 := laws_FnExactLightsOf.mono_l k
  unfold laws_FnExactLightsOf.f
  repeat' first | (with_reducible first | exact LeO.refl _ | exact LeO.none _ | refine LeO.ite ?_ ?_ | refine LeO.bind ?_ (fun _ => ?_) | exact ih0 _ _ _ _ _ _ _ _ | exact impl_LightsOf.mono _ _ _ _ _ _ | exact laws_eqControl.mono _ _ _ _ _ _ _ _ _ | exact laws_eqIntS.mono _ _ _ | exact laws_eqPathS.mono _ _ _ | exact laws_heldIntS.mono _ _ _ | exact laws_markControl.mono _ _ _ _ _ _ | exact laws_markIntS.mono _ _ _ | exact laws_markPathS.mono _ _ _ | exact laws_toControl.mono _ _ _ _ _ | exact laws_toPathS.mono _ _ | exact spec_LightsOf.mono _ _ _ _ _ _) | exact LeO.none _ | refine LeO.ite ?_ ?_ | refine LeO.bind ?_ (fun _ => ?_) | exact ih0 _ _ _ _ _ _ _ _ | exact impl_LightsOf.mono _ _ _ _ _ _ | exact laws_eqControl.mono _ _ _ _ _ _ _ _ _ | exact laws_eqIntS.mono _ _ _ | exact laws_eqPathS.mono _ _ _ | exact laws_heldIntS.mono _ _ _ | exact laws_markControl.mono _ _ _ _ _ _ | exact laws_markIntS.mono _ _ _ | exact laws_markPathS.mono _ _ _ | exact laws_toControl.mono _ _ _ _ _ | exact laws_toPathS.mono _ _ | exact spec_LightsOf.mono _ _ _ _ _ _
set_option maxHeartbeats 8000000 in
set_option maxRecDepth 100000 in
theorem laws_FnExactLightsOf.calls (k : Nat) (A0 : Option Addr) (c0 : Nat) (l0 : List (S92)) (A1_0 : Option Addr) (c1_0 : Nat) (l1_0 : List Int) (a1_1 : Int) (A1_2 : Option Addr) (c1_2 : Nat) (l1_2 : List Int) (a1_3 : Int) (r : Bool) (w : World) (hr0 : Kd.C k92 w A0 l0.length l0) (hc0 : l0.length ≤ c0) (hr1_0 : Kd.C (Kd.int .i64) w A1_0 l1_0.length l1_0) (hc1_0 : l1_0.length ≤ c1_0) (hr1_2 : Kd.C (Kd.int .i64) w A1_2 l1_2.length l1_2) (hc1_2 : l1_2.length ≤ c1_2) (h : laws_FnExactLightsOf.f k l0 l1_0 a1_1 l1_2 a1_3 = some r) :
    Calls Try.prog 13 #[.slice A0 l0.length c0, .agg #[.slice A1_0 l1_0.length c1_0, .int .i64 a1_1, .slice A1_2 l1_2.length c1_2, .int .i64 a1_3]] w fun e w' => e = .returned (.bool r) ∧ Below w.heap.size w w' := by
  have hu67 := Try.underlying67
  have hu70 := Try.underlying70
  have HR0 := Aside0.mk hr0
  have HC0 := Aside0.mk hc0
  clear hr0 hc0
  have HR1_0 := Aside0.mk hr1_0
  have HC1_0 := Aside0.mk hc1_0
  clear hr1_0 hc1_0
  have HR1_2 := Aside0.mk hr1_2
  have HC1_2 := Aside0.mk hc1_2
  clear hr1_2 hc1_2
  have HB := Aside0.mk (Below.refl w.heap.size w)
  have H : ((laws_szPathS.f l0 1048576).bind fun t932 => (if t932 < 0 then (some true) else ((laws_szControl.f l1_0 a1_1 l1_2 a1_3 t932).bind fun t933 => (if t933 < 0 then (some true) else ((laws_toPathS.f k l0).bind fun t934 => ((laws_toControl.f k l1_0 a1_1 l1_2 a1_3).bind fun bt937 => ((spec_LightsOf.f k t934 bt937.1 bt937.2.1 bt937.2.2.1 bt937.2.2.2).bind fun t945 => ((laws_toPathS.f k l0).bind fun t948 => ((laws_toControl.f k l1_0 a1_1 l1_2 a1_3).bind fun bt951 => ((impl_LightsOf.f k t948 bt951.1 bt951.2.1 bt951.2.2.1 bt951.2.2.2).bind fun t960 => ((laws_eqIntS.f k t960 t945).bind fun t963 => (if t963 = true then ((laws_toPathS.f k l0).bind fun t964 => ((laws_eqPathS.f k t948 t964).bind fun t967 => (if t967 = true then ((laws_toControl.f k l1_0 a1_1 l1_2 a1_3).bind fun bt968 => ((laws_eqControl.f k bt951.1 bt951.2.1 bt951.2.2.1 bt951.2.2.2 bt968.1 bt968.2.1 bt968.2.2.1 bt968.2.2.2).bind fun t976 => (if t976 = true then ((laws_markPathS.f k t948 1).bind fun bt977 => ((laws_markControl.f k bt951.1 bt951.2.1 bt951.2.2.1 bt951.2.2.2 bt977.1).bind fun bt979 => (if bt979.1 < 0 then (laws_FnExactLightsOf.j0 k l0 t945 t960 true l1_0 a1_1 l1_2 a1_3) else ((laws_eqIntS.f k t960 t945).bind fun t982 => (laws_FnExactLightsOf.j0 k l0 t945 t960 (!t982) l1_0 a1_1 l1_2 a1_3))))) else (none)))) else (none)))) else (none))))))))))))) = some r := h
  clear h
  obtain ⟨t932, A3, H⟩ := bindE H
  try dsimp only at H
  by_cases c4 : t932 < 0
  · rw [if_pos c4] at H
    have c4b0 : decide (t932 < 0) = true := decide_eq_true c4
    clear c4
    obtain rfl := Option.some.inj H
    go_enter Try.func13, Try.ntmps13
    go_wp2_with (first | ((with_reducible refine gate_dst (N := 3) rfl ?_); refine bE (N := 3) (cs := #[.slice A1_0 l1_0.length c1_0, .int .i64 a1_1, .slice A1_2 l1_2.length c1_2, .int .i64 a1_3]) (t := 67) ?_; intro gb931 hg w5 hbox hb; have n0_ := Aside0.mk (below_step bA hb); have n1_ := Aside0.mk (hbox); have n2_ := Aside0.mk ((by rw [hg]; exact (below_size bA) : w.heap.size ≤ gb931)); have n3_ := Aside0.mk ((by rw [hg]; exact (below_size bA) : w.heap.size ≤ gb931)); clear HB; have HB := n0_; have BK931 := n1_; have GW931 := n2_; have GE931 := n3_; clear n0_ n1_ n2_ n3_; clear hb hbox hg) | ((with_reducible refine gate_callee (f := 31) rfl ?_); refine gL (some 16) Try.func31 #[.slice A0 l0.length c0, .int .i64 1048576] ?_; (with_reducible refine (laws_szPathS.calls _ _ l0 1048576 t932 _ ?side1 ?side2 A3.out).mono ?_); (case side1 => exact cB HR0); (case side2 => exact HC0.out); rintro e w' ⟨rfl, ⟨nd, rfl⟩⟩; refine ⟨_, rfl, ?_⟩))
    go_ret
    exact ⟨rA, bG⟩
  · rw [if_neg c4] at H
    have c4b0 : decide (t932 < 0) = false := decide_eq_false c4
    clear c4
    obtain ⟨t933, A6, H⟩ := bindE H
    try dsimp only at H
    by_cases c7 : t933 < 0
    · rw [if_pos c7] at H
      have c7b0 : decide (t933 < 0) = true := decide_eq_true c7
      clear c7
      obtain rfl := Option.some.inj H
      go_enter Try.func13, Try.ntmps13
      go_wp2_with (first | ((with_reducible refine gate_dst (N := 3) rfl ?_); refine bE (N := 3) (cs := #[.slice A1_0 l1_0.length c1_0, .int .i64 a1_1, .slice A1_2 l1_2.length c1_2, .int .i64 a1_3]) (t := 67) ?_; intro gb931 hg w8 hbox hb; have n0_ := Aside0.mk (below_step bA hb); have n1_ := Aside0.mk (hbox); have n2_ := Aside0.mk ((by rw [hg]; exact (below_size bA) : w.heap.size ≤ gb931)); have n3_ := Aside0.mk ((by rw [hg]; exact (below_size bA) : w.heap.size ≤ gb931)); clear HB; have HB := n0_; have BK931 := n1_; have GW931 := n2_; have GE931 := n3_; clear n0_ n1_ n2_ n3_; clear hb hbox hg) | ((with_reducible refine gate_callee (f := 31) rfl ?_); refine gL (some 16) Try.func31 #[.slice A0 l0.length c0, .int .i64 1048576] ?_; (with_reducible refine (laws_szPathS.calls _ _ l0 1048576 t932 _ ?side1 ?side2 A3.out).mono ?_); (case side1 => exact cB HR0); (case side2 => exact HC0.out); rintro e w' ⟨rfl, ⟨nd, rfl⟩⟩; refine ⟨_, rfl, ?_⟩; have hcz9_0 : w8.cell? ⟨gb931, 0, none⟩ = some (.slice A1_0 l1_0.length c1_0) := (blk_cell BK931.out 0).trans rfl; have hcz9_1 : w8.cell? ⟨gb931, 1, none⟩ = some (.int .i64 a1_1) := (blk_cell BK931.out 1).trans rfl; have hcz9_2 : w8.cell? ⟨gb931, 2, none⟩ = some (.slice A1_2 l1_2.length c1_2) := (blk_cell BK931.out 2).trans rfl; have hcz9_3 : w8.cell? ⟨gb931, 3, none⟩ = some (.int .i64 a1_3) := (blk_cell BK931.out 3).trans rfl; have hfz9_0 := blk_frozen BK931.out 0; have hfz9_1 := blk_frozen BK931.out 1; have hfz9_2 := blk_frozen BK931.out 2; have hfz9_3 := blk_frozen BK931.out 3) | ((with_reducible refine gate_callee (f := 54) rfl ?_); refine gL (some 21) Try.func54 #[.agg #[.slice A1_0 l1_0.length c1_0, .int .i64 a1_1, .slice A1_2 l1_2.length c1_2, .int .i64 a1_3], .int .i64 t932] ?_; (with_reducible refine (laws_szControl.calls _ _ l1_0 a1_1 _ _ l1_2 a1_3 t932 t933 _ ?side1 ?side2 ?side3 ?side4 A6.out).mono ?_); (case side1 => exact cG HR1_0); (case side2 => exact HC1_0.out); (case side3 => exact cG HR1_2); (case side4 => exact HC1_2.out); rintro e w10 ⟨rfl, hb⟩; refine ⟨_, rfl, ?_⟩; replace BK931 := Aside0.mk (blk_below (g := gb931) (bK BK931) hb); replace HB := Aside0.mk (below_step bG hb); (try clear hb); (try clear hb2); (try clear hk); (try clear hi)))
      go_ret
      exact ⟨rA, bG⟩
    · rw [if_neg c7] at H
      have c7b0 : decide (t933 < 0) = false := decide_eq_false c7
      clear c7
      obtain ⟨t934, A11, H⟩ := bindE H
      try dsimp only at H
      obtain ⟨⟨t937, t940, t941, t944⟩, A12, H⟩ := bindE H
      try dsimp only at H
      obtain ⟨t945, A13, H⟩ := bindE H
      try dsimp only at H
      obtain ⟨t948, A14, H⟩ := bindE H
      try dsimp only at H
      obtain ⟨⟨t951, t954, t955, t958⟩, A15, H⟩ := bindE H
      try dsimp only at H
      obtain ⟨t960, A16, H⟩ := bindE H
      try dsimp only at H
      obtain ⟨t963, A17, H⟩ := bindE H
      try dsimp only at H
      have c18 := ifN H
      replace H := ifT H
      subst c18
      obtain ⟨t964, A19, H⟩ := bindE H
      try dsimp only at H
      obtain ⟨t967, A20, H⟩ := bindE H
      try dsimp only at H
      have c21 := ifN H
      replace H := ifT H
      subst c21
      obtain ⟨⟨t968, t971, t972, t975⟩, A22, H⟩ := bindE H
      try dsimp only at H
      obtain ⟨t976, A23, H⟩ := bindE H
      try dsimp only at H
      have c24 := ifN H
      replace H := ifT H
      subst c24
      obtain ⟨⟨t977, t978⟩, A25, H⟩ := bindE H
      try dsimp only at H
      obtain ⟨⟨t979, t980, t981⟩, A26, H⟩ := bindE H
      try dsimp only at H
      have HC27 := Aside0.mk H
      clear H
      go_enter Try.func13, Try.ntmps13
      try go_wp2_with (first | ((with_reducible refine gate_dst (N := 3) rfl ?_); refine bE (N := 3) (cs := #[.slice A1_0 l1_0.length c1_0, .int .i64 a1_1, .slice A1_2 l1_2.length c1_2, .int .i64 a1_3]) (t := 67) ?_; intro gb931 hg w28 hbox hb; have n0_ := Aside0.mk (below_step bA hb); have n1_ := Aside0.mk (hbox); have n2_ := Aside0.mk ((by rw [hg]; exact (below_size bA) : w.heap.size ≤ gb931)); have n3_ := Aside0.mk ((by rw [hg]; exact (below_size bA) : w.heap.size ≤ gb931)); clear HB; have HB := n0_; have BK931 := n1_; have GW931 := n2_; have GE931 := n3_; clear n0_ n1_ n2_ n3_; clear hb hbox hg) | ((with_reducible refine gate_callee (f := 31) rfl ?_); refine gL (some 16) Try.func31 #[.slice A0 l0.length c0, .int .i64 1048576] ?_; (with_reducible refine (laws_szPathS.calls _ _ l0 1048576 t932 _ ?side1 ?side2 A3.out).mono ?_); (case side1 => exact cB HR0); (case side2 => exact HC0.out); rintro e w' ⟨rfl, ⟨nd, rfl⟩⟩; refine ⟨_, rfl, ?_⟩; (try (rw [drewN_self w28]; generalize hq_ : World.drewN w28 _ = w28; have n0_ : Aside0 (w28.heap[gb931]? = some (.cells #[.slice A1_0 l1_0.length c1_0, .int .i64 a1_1, .slice A1_2 l1_2.length c1_2, .int .i64 a1_3] 67 (0, 0))) := ⟨by rw [← hq_]; exact (bK BK931)⟩; have n1_ : Aside0 (Below w.heap.size w w28) := ⟨by rw [← hq_]; exact bG⟩; clear BK931 HB hq_; have BK931 := n0_; have HB := n1_; clear n0_ n1_)); have hcz29_0 : w28.cell? ⟨gb931, 0, none⟩ = some (.slice A1_0 l1_0.length c1_0) := (blk_cell BK931.out 0).trans rfl; have hcz29_1 : w28.cell? ⟨gb931, 1, none⟩ = some (.int .i64 a1_1) := (blk_cell BK931.out 1).trans rfl; have hcz29_2 : w28.cell? ⟨gb931, 2, none⟩ = some (.slice A1_2 l1_2.length c1_2) := (blk_cell BK931.out 2).trans rfl; have hcz29_3 : w28.cell? ⟨gb931, 3, none⟩ = some (.int .i64 a1_3) := (blk_cell BK931.out 3).trans rfl; have hfz29_0 := blk_frozen BK931.out 0; have hfz29_1 := blk_frozen BK931.out 1; have hfz29_2 := blk_frozen BK931.out 2; have hfz29_3 := blk_frozen BK931.out 3) | ((with_reducible refine gate_callee (f := 54) rfl ?_); refine gL (some 21) Try.func54 #[.agg #[.slice A1_0 l1_0.length c1_0, .int .i64 a1_1, .slice A1_2 l1_2.length c1_2, .int .i64 a1_3], .int .i64 t932] ?_; (with_reducible refine (laws_szControl.calls _ _ l1_0 a1_1 _ _ l1_2 a1_3 t932 t933 _ ?side1 ?side2 ?side3 ?side4 A6.out).mono ?_); (case side1 => exact cB HR1_0); (case side2 => exact HC1_0.out); (case side3 => exact cB HR1_2); (case side4 => exact HC1_2.out); rintro e w30 ⟨rfl, hb⟩; refine ⟨_, rfl, ?_⟩; replace BK931 := Aside0.mk (blk_below (g := gb931) (bK BK931) hb); replace HB := Aside0.mk (below_step bG hb); (try clear hb); (try clear hb2); (try clear hk); (try clear hi)))
      replace BK931 := Aside0.mk (blk_drew BK931.out)
      have HBo := HB
      replace HB := Aside0.mk (below_drew1 HB.out)
      refine start_ (n := 6) (S := fun w' => w'.cell? ⟨gb931, 0, none⟩ = some (.slice A1_0 l1_0.length c1_0) ∧ w'.cell? ⟨gb931, 1, none⟩ = some (.int .i64 a1_1) ∧ w'.cell? ⟨gb931, 2, none⟩ = some (.slice A1_2 l1_2.length c1_2) ∧ w'.cell? ⟨gb931, 3, none⟩ = some (.int .i64 a1_3)) (ds := []) (mb 6 0) (by kernel_rfl) rfl rfl ⟨(blk_cell BK931.out 0).trans rfl, (blk_cell BK931.out 1).trans rfl, (blk_cell BK931.out 2).trans rfl, (blk_cell BK931.out 3).trans rfl⟩ (fun hHeld => ?_)
      generalize w30.drew = w31 at BK931 HB hHeld ⊢
      refine pure_ (i := 0) (N := some 24) (v := ?_) (a' := ?_) (mb 6 1) rfl rfl (by kernel_rfl) (fun _ _ _ h => h) (Or.inl ⟨by rfl, ?_⟩) ?_ ?_
      rotate_left
      · intro w'
        go_simp
        with_reducible rfl
      rotate_left
      · simp only [Act.put, List.setIfInBounds_toArray, List.set_cons_zero, List.set_cons_succ, i64_w, i32_w]
        rfl
      refine take_ (i := 2) (N := some 26) (v := ?_) (a' := ?_) (mb 6 5) rfl rfl (by kernel_rfl) (fun _ _ _ h => h) (Or.inl ⟨by rfl, ?_⟩) hHeld ?_ ?_
      rotate_left
      · rintro w' ⟨s0, s1, s2, s3⟩
        go_simp
        with_reducible rfl
      rotate_left
      · simp only [Act.put, List.setIfInBounds_toArray, List.set_cons_zero, List.set_cons_succ, i64_w, i32_w]
        rfl
      refine one_ (i := 1) (N := some 25) (mb 6 7) rfl rfl (by kernel_rfl) (by decide) (fun K hK => ?_)
      refine gA Try.func34 #[.slice A0 l0.length c0] ?_
      with_reducible refine (laws_toPathS.calls k _ _ l0 t934 _ ?side1 ?side2 A11.out).mono ?_
      (case side1 => exact cB HR0)
      (case side2 => exact HC0.out)
      rintro e w32 ⟨v935, rfl, ho0, hb⟩
      refine ⟨_, rfl, ?_⟩
      have HO936 := Aside0.mk (Kd.R_lower ho0 (below_size bG))
      replace BK931 := Aside0.mk (blk_below (g := gb931) (bK BK931) hb)
      replace HB := Aside0.mk (below_step bG hb)
      (try clear hb)
      (try clear hb2)
      (try clear hk)
      (try clear hi)
      (try clear ho0)
      refine hK.out _ _ ⟨(blk_cell BK931.out 0).trans rfl, (blk_cell BK931.out 1).trans rfl, (blk_cell BK931.out 2).trans rfl, (blk_cell BK931.out 3).trans rfl⟩ (fun hHeld => ?_)
      clear hK K
      refine nA ?_
      refine one_ (i := 3) (N := some 27) (mb 6 15) rfl rfl (by kernel_rfl) (by decide) (fun K hK => ?_)
      refine gA Try.func56 #[.agg #[.slice A1_0 l1_0.length c1_0, .int .i64 a1_1, .slice A1_2 l1_2.length c1_2, .int .i64 a1_3]] ?_
      with_reducible refine (laws_toControl.calls k _ _ l1_0 a1_1 _ _ l1_2 a1_3 t937 t940 t941 t944 _ ?side1 ?side2 ?side3 ?side4 A12.out).mono ?_
      (case side1 => exact cB HR1_0)
      (case side2 => exact HC1_0.out)
      (case side3 => exact cB HR1_2)
      (case side4 => exact HC1_2.out)
      rintro e w33 ⟨v938, v942, rfl, ho0, ho1, hb⟩
      refine ⟨_, rfl, ?_⟩
      replace HO936 := Aside0.mk (Kd.R_below (rK HO936) hb)
      have HO939 := Aside0.mk (Kd.R_lower ho0 (below_size bG))
      have HO943 := Aside0.mk (Kd.R_lower ho1 (below_size bG))
      replace BK931 := Aside0.mk (blk_below (g := gb931) (bK BK931) hb)
      replace HB := Aside0.mk (below_step bG hb)
      (try clear hb)
      (try clear hb2)
      (try clear hk)
      (try clear hi)
      (try clear ho0)
      (try clear ho1)
      obtain ⟨Ao34, co34, eo34⟩ := Kd.R_slice HO936.out
      (first | subst eo34 | (injection eo34 with f1_ f2_ f3_; have f4_ := f1_.symm; have f5_ := f3_.symm; clear f1_ f2_ f3_; subst f4_; subst f5_))
      obtain ⟨Ao35, co35, eo35⟩ := Kd.R_slice HO939.out
      (first | subst eo35 | (injection eo35 with f1_ f2_ f3_; have f4_ := f1_.symm; have f5_ := f3_.symm; clear f1_ f2_ f3_; subst f4_; subst f5_))
      obtain ⟨Ao36, co36, eo36⟩ := Kd.R_slice HO943.out
      (first | subst eo36 | (injection eo36 with f1_ f2_ f3_; have f4_ := f1_.symm; have f5_ := f3_.symm; clear f1_ f2_ f3_; subst f4_; subst f5_))
      refine hK.out _ _ ⟨(blk_cell BK931.out 0).trans rfl, (blk_cell BK931.out 1).trans rfl, (blk_cell BK931.out 2).trans rfl, (blk_cell BK931.out 3).trans rfl⟩ (fun hHeld => ?_)
      clear hK K
      refine nA ?_
      refine one_ (i := 4) (N := some 28) (mb 6 31) rfl rfl (by kernel_rfl) (by decide) (fun K hK => ?_)
      refine gA Try.func61 #[.slice Ao34 t934.length co34, .agg #[.slice Ao35 t937.length co35, .int .i64 t940, .slice Ao36 t941.length co36, .int .i64 t944]] ?_
      with_reducible refine (spec_LightsOf.calls k _ _ t934 _ _ t937 t940 _ _ t941 t944 t945 _ ?side1 ?side2 ?side3 ?side4 ?side5 ?side6 A13.out).mono ?_
      (case side1 => exact cO ⟨(Kd.R_reads' HO936.out).2.2⟩)
      (case side2 => exact (Kd.R_reads' HO936.out).2.1)
      (case side3 => exact cO ⟨(Kd.R_reads' HO939.out).2.2⟩)
      (case side4 => exact (Kd.R_reads' HO939.out).2.1)
      (case side5 => exact cO ⟨(Kd.R_reads' HO943.out).2.2⟩)
      (case side6 => exact (Kd.R_reads' HO943.out).2.1)
      rintro e w37 ⟨v946, rfl, ho0, hb⟩
      refine ⟨_, rfl, ?_⟩
      replace HO936 := Aside0.mk (Kd.R_below (rK HO936) hb)
      have HO947 := Aside0.mk (Kd.R_lower (Kd.R_new' (Kd.R_new' ho0 (Kd.R_lt (rK HO939))) (Kd.R_lt (rK HO943))) (below_size bG))
      replace HO939 := Aside0.mk (Kd.R_elder' (rK HO939) (Kd.R_base ho0) hb)
      replace HO943 := Aside0.mk (Kd.R_elder' (rK HO943) (Kd.R_base ho0) hb)
      replace BK931 := Aside0.mk (blk_below (g := gb931) (bK BK931) hb)
      replace HB := Aside0.mk (below_step bG hb)
      (try clear hb)
      (try clear hb2)
      (try clear hk)
      (try clear hi)
      (try clear ho0)
      refine hK.out _ _ ⟨(blk_cell BK931.out 0).trans rfl, (blk_cell BK931.out 1).trans rfl, (blk_cell BK931.out 2).trans rfl, (blk_cell BK931.out 3).trans rfl⟩ (fun hHeld => ?_)
      clear hK K
      refine nA ?_
      refine pure_ (i := 5) (N := some 6) (v := ?_) (a' := ?_) (mb 6 63) rfl rfl (by kernel_rfl) (fun _ _ _ h => h) (Or.inl ⟨by rfl, ?_⟩) ?_ ?_
      rotate_left
      · intro w'
        go_simp
        with_reducible rfl
      rotate_left
      · simp only [Act.put, List.setIfInBounds_toArray, List.set_cons_zero, List.set_cons_succ, i64_w, i32_w]
        rfl
      refine done_ (by kernel_rfl) ?_
      try go_wp2_with (first | ((with_reducible refine gate_callee (f := 34) rfl ?_); refine gL (some 30) Try.func34 #[.slice A0 l0.length c0] ?_; (with_reducible refine (laws_toPathS.calls k _ _ l0 t948 _ ?side1 ?side2 A14.out).mono ?_); (case side1 => exact cB HR0); (case side2 => exact HC0.out); rintro e w38 ⟨v949, rfl, ho0, hb⟩; refine ⟨_, rfl, ?_⟩; replace HO939 := Aside0.mk (Kd.R_below (rK HO939) hb); replace HO943 := Aside0.mk (Kd.R_below (rK HO943) hb); replace HO947 := Aside0.mk (Kd.R_below (rK HO947) hb); have HO950 := Aside0.mk (Kd.R_lower (Kd.R_new' ho0 (Kd.R_lt (rK HO936))) (below_size bG)); replace HO936 := Aside0.mk (Kd.R_elder' (rK HO936) (Kd.R_base ho0) hb); replace BK931 := Aside0.mk (blk_below (g := gb931) (bK BK931) hb); replace HB := Aside0.mk (below_step bG hb); (try clear hb); (try clear hb2); (try clear hk); (try clear hi); (try clear ho0); have hcz39_0 : w38.cell? ⟨gb931, 0, none⟩ = some (.slice A1_0 l1_0.length c1_0) := (blk_cell BK931.out 0).trans rfl; have hcz39_1 : w38.cell? ⟨gb931, 1, none⟩ = some (.int .i64 a1_1) := (blk_cell BK931.out 1).trans rfl; have hcz39_2 : w38.cell? ⟨gb931, 2, none⟩ = some (.slice A1_2 l1_2.length c1_2) := (blk_cell BK931.out 2).trans rfl; have hcz39_3 : w38.cell? ⟨gb931, 3, none⟩ = some (.int .i64 a1_3) := (blk_cell BK931.out 3).trans rfl; have hfz39_0 := blk_frozen BK931.out 0; have hfz39_1 := blk_frozen BK931.out 1; have hfz39_2 := blk_frozen BK931.out 2; have hfz39_3 := blk_frozen BK931.out 3) | ((with_reducible refine gate_callee (f := 56) rfl ?_); refine gL (some 32) Try.func56 #[.agg #[.slice A1_0 l1_0.length c1_0, .int .i64 a1_1, .slice A1_2 l1_2.length c1_2, .int .i64 a1_3]] ?_; (with_reducible refine (laws_toControl.calls k _ _ l1_0 a1_1 _ _ l1_2 a1_3 t951 t954 t955 t958 _ ?side1 ?side2 ?side3 ?side4 A15.out).mono ?_); (case side1 => exact cB HR1_0); (case side2 => exact HC1_0.out); (case side3 => exact cB HR1_2); (case side4 => exact HC1_2.out); rintro e w40 ⟨v952, v956, rfl, ho0, ho1, hb⟩; refine ⟨_, rfl, ?_⟩; replace HO936 := Aside0.mk (Kd.R_below (rK HO936) hb); replace HO950 := Aside0.mk (Kd.R_below (rK HO950) hb); have HO953 := Aside0.mk (Kd.R_lower (Kd.R_new' (Kd.R_new' (Kd.R_new' ho0 (Kd.R_lt (rK HO939))) (Kd.R_lt (rK HO943))) (Kd.R_lt (rK HO947))) (below_size bG)); have HO957 := Aside0.mk (Kd.R_lower (Kd.R_new' (Kd.R_new' (Kd.R_new' ho1 (Kd.R_lt (rK HO939))) (Kd.R_lt (rK HO943))) (Kd.R_lt (rK HO947))) (below_size bG)); replace HO939 := Aside0.mk (Kd.R_mono (Kd.R_told (Kd.R_told (Kd.R_old (rK HO939) hb) (Kd.R_base ho0)) (Kd.R_base ho1)) (fun _ h_ => h_.1)); replace HO943 := Aside0.mk (Kd.R_mono (Kd.R_told (Kd.R_told (Kd.R_old (rK HO943) hb) (Kd.R_base ho0)) (Kd.R_base ho1)) (fun _ h_ => h_.1)); replace HO947 := Aside0.mk (Kd.R_mono (Kd.R_told (Kd.R_told (Kd.R_old (rK HO947) hb) (Kd.R_base ho0)) (Kd.R_base ho1)) (fun _ h_ => h_.1)); replace BK931 := Aside0.mk (blk_below (g := gb931) (bK BK931) hb); replace HB := Aside0.mk (below_step bG hb); (try clear hb); (try clear hb2); (try clear hk); (try clear hi); (try clear ho0); (try clear ho1)) | ((with_reducible refine gate_dst (N := 8) rfl ?_); refine bE (N := 8) (cs := #[.slice none 0 0, .int .i64 0, .slice none 0 0, .int .i64 0]) (t := 70) ?_; intro gb959 hg w41 hbox hb; have n0_ := Aside0.mk (Kd.R_below (rK HO936) hb); have n1_ := Aside0.mk (Kd.R_below (rK HO939) hb); have n2_ := Aside0.mk (Kd.R_below (rK HO943) hb); have n3_ := Aside0.mk (Kd.R_below (rK HO947) hb); have n4_ := Aside0.mk (Kd.R_below (rK HO950) hb); have n5_ := Aside0.mk (Kd.R_below (rK HO953) hb); have n6_ := Aside0.mk (Kd.R_below (rK HO957) hb); have n7_ := Aside0.mk (blk_below (g := gb931) (bK BK931) hb); have n8_ := Aside0.mk (below_step bG hb); have n9_ := Aside0.mk (hbox); have n10_ := Aside0.mk ((by rw [hg]; exact (below_size bG) : w.heap.size ≤ gb959)); have n11_ := Aside0.mk ((by rw [hg]; exact (below_size bG) : w.heap.size ≤ gb959)); have n12_ := Aside0.mk ((by rw [hg]; exact Nat.ne_of_lt (blk_lt (g := gb931) (o := .cells #[.slice A1_0 l1_0.length c1_0, .int .i64 a1_1, .slice A1_2 l1_2.length c1_2, .int .i64 a1_3] 67 (0, 0)) (bK BK931)) : gb931 ≠ gb959)); have n13_ := Aside0.mk ((by rw [hg]; exact Nat.ne_of_gt (blk_lt (g := gb931) (o := .cells #[.slice A1_0 l1_0.length c1_0, .int .i64 a1_1, .slice A1_2 l1_2.length c1_2, .int .i64 a1_3] 67 (0, 0)) (bK BK931)) : gb959 ≠ gb931)); clear HO936; clear HO939; clear HO943; clear HO947; clear HO950; clear HO953; clear HO957; clear BK931; clear HB; have HO936 := n0_; have HO939 := n1_; have HO943 := n2_; have HO947 := n3_; have HO950 := n4_; have HO953 := n5_; have HO957 := n6_; have BK931 := n7_; have HB := n8_; have BK959 := n9_; have GW959 := n10_; have GE959 := n11_; have NB931_959 := n12_; have NB959_931 := n13_; clear n0_ n1_ n2_ n3_ n4_ n5_ n6_ n7_ n8_ n9_ n10_ n11_ n12_ n13_; clear hb hbox hg; obtain ⟨Ao42, co42, eo42⟩ := Kd.R_slice HO953.out; subst eo42; have hnb43 := NB959_931.out; have hnc43 := NB931_959.out; obtain ⟨hcz44_0, hcz44_1, hcz44_2, hcz44_3, hfz44_0, hfz44_1, hfz44_2, hfz44_3⟩ := blkc4 BK959; obtain ⟨Ao45, co45, eo45⟩ := Kd.R_slice HO957.out; subst eo45; obtain ⟨Ao46, co46, eo46⟩ := Kd.R_slice HO950.out; subst eo46) | ((with_reducible refine gate_callee (f := 62) rfl ?_); refine gL (some 35) Try.func62 #[.slice Ao46 t948.length co46, .agg #[.slice Ao42 t951.length co42, .int .i64 t954, .slice Ao45 t955.length co45, .int .i64 t958]] ?_; (with_reducible refine (impl_LightsOf.calls k _ _ t948 _ _ t951 t954 _ _ t955 t958 t960 _ ?side1 ?side2 ?side3 ?side4 ?side5 ?side6 A16.out).mono ?_); (case side1 => refine (Kd.R_reads' (e := 90) (base := w.heap.size) (ok := fun k_ => (True ∧ some k_ ≠ (.slice Ao34 t934.length co34 : Value).ownBlock)) (n := t948.length) (c := co46) ?_).2.2; exact (by (with_reducible repeat (first | apply Kd.R_alloc | apply Kd.R_drewN | apply Kd.R_drew)); exact (Kd.R_mono (Kd.R_far (p := ⟨gb959, 3, none⟩) (Kd.R_far (p := ⟨gb959, 2, none⟩) (Kd.R_far (p := ⟨gb959, 1, none⟩) (Kd.R_far (p := ⟨gb959, 0, none⟩) (Kd.R_types HO950.out BK959.out (by decide)) (fun _ hk => hk.2) (.slice Ao42 t951.length co42)) (fun _ hk => hk.2) (.int .i64 t954)) (fun _ hk => hk.2) (.slice Ao45 t955.length co45)) (fun _ hk => hk.2) (.int .i64 t958)) (fun _ h_ => h_.1)))); (case side2 => exact (Kd.R_reads' HO950.out).2.1); (case side3 => refine (Kd.R_reads' (e := 3) (base := w.heap.size) (ok := fun k_ => (((some k_ ≠ (.slice Ao45 t955.length co45 : Value).ownBlock ∧ some k_ ≠ (.slice Ao35 t937.length co35 : Value).ownBlock) ∧ some k_ ≠ (.slice Ao36 t941.length co36 : Value).ownBlock) ∧ some k_ ≠ (v946 : Value).ownBlock)) (n := t951.length) (c := co42) ?_).2.2; exact (by (with_reducible repeat (first | apply Kd.R_alloc | apply Kd.R_drewN | apply Kd.R_drew)); exact (Kd.R_mono (Kd.R_far (p := ⟨gb959, 3, none⟩) (Kd.R_far (p := ⟨gb959, 2, none⟩) (Kd.R_far (p := ⟨gb959, 1, none⟩) (Kd.R_far (p := ⟨gb959, 0, none⟩) (Kd.R_types HO953.out BK959.out (by decide)) (fun _ hk => hk.2) (.slice Ao42 t951.length co42)) (fun _ hk => hk.2) (.int .i64 t954)) (fun _ hk => hk.2) (.slice Ao45 t955.length co45)) (fun _ hk => hk.2) (.int .i64 t958)) (fun _ h_ => h_.1)))); (case side4 => exact (Kd.R_reads' HO953.out).2.1); (case side5 => refine (Kd.R_reads' (e := 3) (base := w.heap.size) (ok := fun k_ => (((some k_ ≠ (.slice Ao42 t951.length co42 : Value).ownBlock ∧ some k_ ≠ (.slice Ao35 t937.length co35 : Value).ownBlock) ∧ some k_ ≠ (.slice Ao36 t941.length co36 : Value).ownBlock) ∧ some k_ ≠ (v946 : Value).ownBlock)) (n := t955.length) (c := co45) ?_).2.2; exact (by (with_reducible repeat (first | apply Kd.R_alloc | apply Kd.R_drewN | apply Kd.R_drew)); exact (Kd.R_mono (Kd.R_far (p := ⟨gb959, 3, none⟩) (Kd.R_far (p := ⟨gb959, 2, none⟩) (Kd.R_far (p := ⟨gb959, 1, none⟩) (Kd.R_far (p := ⟨gb959, 0, none⟩) (Kd.R_types HO957.out BK959.out (by decide)) (fun _ hk => hk.2) (.slice Ao42 t951.length co42)) (fun _ hk => hk.2) (.int .i64 t954)) (fun _ hk => hk.2) (.slice Ao45 t955.length co45)) (fun _ hk => hk.2) (.int .i64 t958)) (fun _ h_ => h_.1)))); (case side6 => exact (Kd.R_reads' HO957.out).2.1); rintro e w47 ⟨v961, rfl, ho0, hb⟩; refine ⟨_, rfl, ?_⟩; have n0_ := Aside0.mk (Kd.R_below (by (with_reducible repeat (first | apply Kd.R_alloc | apply Kd.R_drewN | apply Kd.R_drew)); exact (Kd.R_mono (Kd.R_far (p := ⟨gb959, 3, none⟩) (Kd.R_far (p := ⟨gb959, 2, none⟩) (Kd.R_far (p := ⟨gb959, 1, none⟩) (Kd.R_far (p := ⟨gb959, 0, none⟩) (Kd.R_types HO936.out BK959.out (by decide)) (fun _ hk => hk.2) (.slice Ao42 t951.length co42)) (fun _ hk => hk.2) (.int .i64 t954)) (fun _ hk => hk.2) (.slice Ao45 t955.length co45)) (fun _ hk => hk.2) (.int .i64 t958)) (fun _ h_ => h_.1))) hb); have n1_ := Aside0.mk (Kd.R_elder' (by (with_reducible repeat (first | apply Kd.R_alloc | apply Kd.R_drewN | apply Kd.R_drew)); exact (Kd.R_mono (Kd.R_far (p := ⟨gb959, 3, none⟩) (Kd.R_far (p := ⟨gb959, 2, none⟩) (Kd.R_far (p := ⟨gb959, 1, none⟩) (Kd.R_far (p := ⟨gb959, 0, none⟩) (Kd.R_types HO939.out BK959.out (by decide)) (fun _ hk => hk.2) (.slice Ao42 t951.length co42)) (fun _ hk => hk.2) (.int .i64 t954)) (fun _ hk => hk.2) (.slice Ao45 t955.length co45)) (fun _ hk => hk.2) (.int .i64 t958)) (fun _ h_ => h_.1))) (Kd.R_base ho0) hb); have n2_ := Aside0.mk (Kd.R_elder' (by (with_reducible repeat (first | apply Kd.R_alloc | apply Kd.R_drewN | apply Kd.R_drew)); exact (Kd.R_mono (Kd.R_far (p := ⟨gb959, 3, none⟩) (Kd.R_far (p := ⟨gb959, 2, none⟩) (Kd.R_far (p := ⟨gb959, 1, none⟩) (Kd.R_far (p := ⟨gb959, 0, none⟩) (Kd.R_types HO943.out BK959.out (by decide)) (fun _ hk => hk.2) (.slice Ao42 t951.length co42)) (fun _ hk => hk.2) (.int .i64 t954)) (fun _ hk => hk.2) (.slice Ao45 t955.length co45)) (fun _ hk => hk.2) (.int .i64 t958)) (fun _ h_ => h_.1))) (Kd.R_base ho0) hb); have n3_ := Aside0.mk (Kd.R_elder' (by (with_reducible repeat (first | apply Kd.R_alloc | apply Kd.R_drewN | apply Kd.R_drew)); exact (Kd.R_mono (Kd.R_far (p := ⟨gb959, 3, none⟩) (Kd.R_far (p := ⟨gb959, 2, none⟩) (Kd.R_far (p := ⟨gb959, 1, none⟩) (Kd.R_far (p := ⟨gb959, 0, none⟩) (Kd.R_types HO947.out BK959.out (by decide)) (fun _ hk => hk.2) (.slice Ao42 t951.length co42)) (fun _ hk => hk.2) (.int .i64 t954)) (fun _ hk => hk.2) (.slice Ao45 t955.length co45)) (fun _ hk => hk.2) (.int .i64 t958)) (fun _ h_ => h_.1))) (Kd.R_base ho0) hb); have n4_ := Aside0.mk (Kd.R_below (by (with_reducible repeat (first | apply Kd.R_alloc | apply Kd.R_drewN | apply Kd.R_drew)); exact (Kd.R_mono (Kd.R_far (p := ⟨gb959, 3, none⟩) (Kd.R_far (p := ⟨gb959, 2, none⟩) (Kd.R_far (p := ⟨gb959, 1, none⟩) (Kd.R_far (p := ⟨gb959, 0, none⟩) (Kd.R_types HO950.out BK959.out (by decide)) (fun _ hk => hk.2) (.slice Ao42 t951.length co42)) (fun _ hk => hk.2) (.int .i64 t954)) (fun _ hk => hk.2) (.slice Ao45 t955.length co45)) (fun _ hk => hk.2) (.int .i64 t958)) (fun _ h_ => h_.1))) hb); have n5_ := Aside0.mk (Kd.R_elder' (by (with_reducible repeat (first | apply Kd.R_alloc | apply Kd.R_drewN | apply Kd.R_drew)); exact (Kd.R_mono (Kd.R_far (p := ⟨gb959, 3, none⟩) (Kd.R_far (p := ⟨gb959, 2, none⟩) (Kd.R_far (p := ⟨gb959, 1, none⟩) (Kd.R_far (p := ⟨gb959, 0, none⟩) (Kd.R_types HO953.out BK959.out (by decide)) (fun _ hk => hk.2) (.slice Ao42 t951.length co42)) (fun _ hk => hk.2) (.int .i64 t954)) (fun _ hk => hk.2) (.slice Ao45 t955.length co45)) (fun _ hk => hk.2) (.int .i64 t958)) (fun _ h_ => h_.1))) (Kd.R_base ho0) hb); have n6_ := Aside0.mk (Kd.R_elder' (by (with_reducible repeat (first | apply Kd.R_alloc | apply Kd.R_drewN | apply Kd.R_drew)); exact (Kd.R_mono (Kd.R_far (p := ⟨gb959, 3, none⟩) (Kd.R_far (p := ⟨gb959, 2, none⟩) (Kd.R_far (p := ⟨gb959, 1, none⟩) (Kd.R_far (p := ⟨gb959, 0, none⟩) (Kd.R_types HO957.out BK959.out (by decide)) (fun _ hk => hk.2) (.slice Ao42 t951.length co42)) (fun _ hk => hk.2) (.int .i64 t954)) (fun _ hk => hk.2) (.slice Ao45 t955.length co45)) (fun _ hk => hk.2) (.int .i64 t958)) (fun _ h_ => h_.1))) (Kd.R_base ho0) hb); have n7_ := Aside0.mk (Kd.R_lower (Kd.R_new' (Kd.R_new' (Kd.R_new' (Kd.R_new' (Kd.R_new' ho0 (Kd.R_lt (by (with_reducible repeat (first | apply Kd.R_alloc | apply Kd.R_drewN | apply Kd.R_drew)); exact (Kd.R_mono (Kd.R_far (p := ⟨gb959, 3, none⟩) (Kd.R_far (p := ⟨gb959, 2, none⟩) (Kd.R_far (p := ⟨gb959, 1, none⟩) (Kd.R_far (p := ⟨gb959, 0, none⟩) (Kd.R_types HO939.out BK959.out (by decide)) (fun _ hk => hk.2) (.slice Ao42 t951.length co42)) (fun _ hk => hk.2) (.int .i64 t954)) (fun _ hk => hk.2) (.slice Ao45 t955.length co45)) (fun _ hk => hk.2) (.int .i64 t958)) (fun _ h_ => h_.1))))) (Kd.R_lt (by (with_reducible repeat (first | apply Kd.R_alloc | apply Kd.R_drewN | apply Kd.R_drew)); exact (Kd.R_mono (Kd.R_far (p := ⟨gb959, 3, none⟩) (Kd.R_far (p := ⟨gb959, 2, none⟩) (Kd.R_far (p := ⟨gb959, 1, none⟩) (Kd.R_far (p := ⟨gb959, 0, none⟩) (Kd.R_types HO943.out BK959.out (by decide)) (fun _ hk => hk.2) (.slice Ao42 t951.length co42)) (fun _ hk => hk.2) (.int .i64 t954)) (fun _ hk => hk.2) (.slice Ao45 t955.length co45)) (fun _ hk => hk.2) (.int .i64 t958)) (fun _ h_ => h_.1))))) (Kd.R_lt (by (with_reducible repeat (first | apply Kd.R_alloc | apply Kd.R_drewN | apply Kd.R_drew)); exact (Kd.R_mono (Kd.R_far (p := ⟨gb959, 3, none⟩) (Kd.R_far (p := ⟨gb959, 2, none⟩) (Kd.R_far (p := ⟨gb959, 1, none⟩) (Kd.R_far (p := ⟨gb959, 0, none⟩) (Kd.R_types HO947.out BK959.out (by decide)) (fun _ hk => hk.2) (.slice Ao42 t951.length co42)) (fun _ hk => hk.2) (.int .i64 t954)) (fun _ hk => hk.2) (.slice Ao45 t955.length co45)) (fun _ hk => hk.2) (.int .i64 t958)) (fun _ h_ => h_.1))))) (Kd.R_lt (by (with_reducible repeat (first | apply Kd.R_alloc | apply Kd.R_drewN | apply Kd.R_drew)); exact (Kd.R_mono (Kd.R_far (p := ⟨gb959, 3, none⟩) (Kd.R_far (p := ⟨gb959, 2, none⟩) (Kd.R_far (p := ⟨gb959, 1, none⟩) (Kd.R_far (p := ⟨gb959, 0, none⟩) (Kd.R_types HO953.out BK959.out (by decide)) (fun _ hk => hk.2) (.slice Ao42 t951.length co42)) (fun _ hk => hk.2) (.int .i64 t954)) (fun _ hk => hk.2) (.slice Ao45 t955.length co45)) (fun _ hk => hk.2) (.int .i64 t958)) (fun _ h_ => h_.1))))) (Kd.R_lt (by (with_reducible repeat (first | apply Kd.R_alloc | apply Kd.R_drewN | apply Kd.R_drew)); exact (Kd.R_mono (Kd.R_far (p := ⟨gb959, 3, none⟩) (Kd.R_far (p := ⟨gb959, 2, none⟩) (Kd.R_far (p := ⟨gb959, 1, none⟩) (Kd.R_far (p := ⟨gb959, 0, none⟩) (Kd.R_types HO957.out BK959.out (by decide)) (fun _ hk => hk.2) (.slice Ao42 t951.length co42)) (fun _ hk => hk.2) (.int .i64 t954)) (fun _ hk => hk.2) (.slice Ao45 t955.length co45)) (fun _ hk => hk.2) (.int .i64 t958)) (fun _ h_ => h_.1))))) (below_size bG)); have n8_ := Aside0.mk (blk_below (g := gb931) (o := .cells #[.slice A1_0 l1_0.length c1_0, .int .i64 a1_1, .slice A1_2 l1_2.length c1_2, .int .i64 a1_3] 67 (0, 0)) (by (with_reducible repeat (first | refine blk_drewN ?_ _ | refine blk_drew ?_ | refine blk_alloc ?_ _)); refine blk_far ?_ NB931_959.out _; (with_reducible repeat (first | refine blk_drewN ?_ _ | refine blk_drew ?_ | refine blk_alloc ?_ _)); refine blk_far ?_ NB931_959.out _; (with_reducible repeat (first | refine blk_drewN ?_ _ | refine blk_drew ?_ | refine blk_alloc ?_ _)); refine blk_far ?_ NB931_959.out _; (with_reducible repeat (first | refine blk_drewN ?_ _ | refine blk_drew ?_ | refine blk_alloc ?_ _)); refine blk_far ?_ NB931_959.out _; (with_reducible repeat (first | refine blk_drewN ?_ _ | refine blk_drew ?_ | refine blk_alloc ?_ _)); exact BK931.out) hb); have n9_ := Aside0.mk (blk_below (g := gb959) (o := .cells #[.slice Ao42 t951.length co42, .int .i64 t954, .slice Ao45 t955.length co45, .int .i64 t958] 70 (0, 0)) (by (with_reducible repeat (first | refine blk_drewN ?_ _ | refine blk_drew ?_ | refine blk_alloc ?_ _)); refine blk_put (cs := #[.slice Ao42 t951.length co42, .int .i64 t954, .slice Ao45 t955.length co45, .int .i64 0]) ?_ 3 _ rfl; (with_reducible repeat (first | refine blk_drewN ?_ _ | refine blk_drew ?_ | refine blk_alloc ?_ _)); refine blk_put (cs := #[.slice Ao42 t951.length co42, .int .i64 t954, .slice none 0 0, .int .i64 0]) ?_ 2 _ rfl; (with_reducible repeat (first | refine blk_drewN ?_ _ | refine blk_drew ?_ | refine blk_alloc ?_ _)); refine blk_put (cs := #[.slice Ao42 t951.length co42, .int .i64 0, .slice none 0 0, .int .i64 0]) ?_ 1 _ rfl; (with_reducible repeat (first | refine blk_drewN ?_ _ | refine blk_drew ?_ | refine blk_alloc ?_ _)); refine blk_put (cs := #[.slice none 0 0, .int .i64 0, .slice none 0 0, .int .i64 0]) ?_ 0 _ rfl; (with_reducible repeat (first | refine blk_drewN ?_ _ | refine blk_drew ?_ | refine blk_alloc ?_ _)); exact BK959.out) hb); have n10_ := Aside0.mk (below_step bG hb); clear HO936; clear HO939; clear HO943; clear HO947; clear HO950; clear HO953; clear HO957; clear BK931; clear BK959; clear HB; have HO936 := n0_; have HO939 := n1_; have HO943 := n2_; have HO947 := n3_; have HO950 := n4_; have HO953 := n5_; have HO957 := n6_; have HO962 := n7_; have BK931 := n8_; have BK959 := n9_; have HB := n10_; clear n0_ n1_ n2_ n3_ n4_ n5_ n6_ n7_ n8_ n9_ n10_; (try clear hb); (try clear hb2); (try clear hk); (try clear hi); (try clear ho0); obtain ⟨Ao48, co48, eo48⟩ := Kd.R_slice HO962.out; subst eo48; obtain ⟨Ao49, co49, eo49⟩ := Kd.R_slice HO947.out; subst eo49) | ((with_reducible refine gate_callee (f := 19) rfl ?_); refine gL (some 38) Try.func19 #[.slice Ao48 t960.length co48, .slice Ao49 t945.length co49] ?_; (with_reducible refine (laws_eqIntS.calls k _ _ t960 _ _ t945 true _ ?side1 ?side2 ?side3 ?side4 A17.out).mono ?_); (case side1 => exact cO ⟨(Kd.R_reads' HO962.out).2.2⟩); (case side2 => exact (Kd.R_reads' HO962.out).2.1); (case side3 => exact cO ⟨(Kd.R_reads' HO947.out).2.2⟩); (case side4 => exact (Kd.R_reads' HO947.out).2.1); rintro e w' ⟨rfl, ⟨nd, rfl⟩⟩; refine ⟨_, rfl, ?_⟩) | ((with_reducible refine gate_callee (f := 34) rfl ?_); refine gL (some 42) Try.func34 #[.slice A0 l0.length c0] ?_; (with_reducible refine (laws_toPathS.calls k _ _ l0 t964 _ ?side1 ?side2 A19.out).mono ?_); (case side1 => exact cG HR0); (case side2 => exact HC0.out); rintro e w50 ⟨v965, rfl, ho0, hb⟩; refine ⟨_, rfl, ?_⟩; replace HO939 := Aside0.mk (Kd.R_below (rK HO939) hb); replace HO943 := Aside0.mk (Kd.R_below (rK HO943) hb); replace HO947 := Aside0.mk (Kd.R_below (rK HO947) hb); replace HO953 := Aside0.mk (Kd.R_below (rK HO953) hb); replace HO957 := Aside0.mk (Kd.R_below (rK HO957) hb); replace HO962 := Aside0.mk (Kd.R_below (rK HO962) hb); have HO966 := Aside0.mk (Kd.R_lower (Kd.R_new' (Kd.R_new' ho0 (Kd.R_lt (rK HO936))) (Kd.R_lt (rK HO950))) (below_size bG)); replace HO936 := Aside0.mk (Kd.R_elder' (rK HO936) (Kd.R_base ho0) hb); replace HO950 := Aside0.mk (Kd.R_elder' (rK HO950) (Kd.R_base ho0) hb); replace BK931 := Aside0.mk (blk_below (g := gb931) (bK BK931) hb); replace BK959 := Aside0.mk (blk_below (g := gb959) (bK BK959) hb); replace HB := Aside0.mk (below_step bG hb); (try clear hb); (try clear hb2); (try clear hk); (try clear hi); (try clear ho0); obtain ⟨Ao51, co51, eo51⟩ := Kd.R_slice HO966.out; subst eo51) | ((with_reducible refine gate_callee (f := 37) rfl ?_); refine gL (some 43) Try.func37 #[.slice Ao46 t948.length co46, .slice Ao51 t964.length co51] ?_; (with_reducible refine (laws_eqPathS.calls k _ _ t948 _ _ t964 true _ ?side1 ?side2 ?side3 ?side4 A20.out).mono ?_); (case side1 => exact cO ⟨(Kd.R_reads' HO950.out).2.2⟩); (case side2 => exact (Kd.R_reads' HO950.out).2.1); (case side3 => exact cO ⟨(Kd.R_reads' HO966.out).2.2⟩); (case side4 => exact (Kd.R_reads' HO966.out).2.1); rintro e w52 ⟨rfl, hb⟩; refine ⟨_, rfl, ?_⟩; replace HO936 := Aside0.mk (Kd.R_below (rK HO936) hb); replace HO939 := Aside0.mk (Kd.R_below (rK HO939) hb); replace HO943 := Aside0.mk (Kd.R_below (rK HO943) hb); replace HO947 := Aside0.mk (Kd.R_below (rK HO947) hb); replace HO950 := Aside0.mk (Kd.R_below (rK HO950) hb); replace HO953 := Aside0.mk (Kd.R_below (rK HO953) hb); replace HO957 := Aside0.mk (Kd.R_below (rK HO957) hb); replace HO962 := Aside0.mk (Kd.R_below (rK HO962) hb); replace HO966 := Aside0.mk (Kd.R_below (rK HO966) hb); replace BK931 := Aside0.mk (blk_below (g := gb931) (bK BK931) hb); replace BK959 := Aside0.mk (blk_below (g := gb959) (bK BK959) hb); replace HB := Aside0.mk (below_step bG hb); (try clear hb); (try clear hb2); (try clear hk); (try clear hi)))
      replace HO936 := Aside0.mk (Kd.R_drew HO936.out)
      replace HO939 := Aside0.mk (Kd.R_drew HO939.out)
      replace HO943 := Aside0.mk (Kd.R_drew HO943.out)
      replace HO947 := Aside0.mk (Kd.R_drew HO947.out)
      replace HO950 := Aside0.mk (Kd.R_drew HO950.out)
      replace HO953 := Aside0.mk (Kd.R_drew HO953.out)
      replace HO957 := Aside0.mk (Kd.R_drew HO957.out)
      replace HO962 := Aside0.mk (Kd.R_drew HO962.out)
      replace HO966 := Aside0.mk (Kd.R_drew HO966.out)
      replace BK931 := Aside0.mk (blk_drew BK931.out)
      replace BK959 := Aside0.mk (blk_drew BK959.out)
      have HBo := HB
      replace HB := Aside0.mk (below_drew1 HB.out)
      refine start_ (n := 5) (S := fun w' => w'.cell? ⟨gb959, 0, none⟩ = some (.slice Ao42 t951.length co42) ∧ w'.cell? ⟨gb959, 1, none⟩ = some (.int .i64 t954) ∧ w'.cell? ⟨gb959, 2, none⟩ = some (.slice Ao45 t955.length co45) ∧ w'.cell? ⟨gb959, 3, none⟩ = some (.int .i64 t958) ∧ w'.cell? ⟨gb931, 0, none⟩ = some (.slice A1_0 l1_0.length c1_0) ∧ w'.cell? ⟨gb931, 1, none⟩ = some (.int .i64 a1_1) ∧ w'.cell? ⟨gb931, 2, none⟩ = some (.slice A1_2 l1_2.length c1_2) ∧ w'.cell? ⟨gb931, 3, none⟩ = some (.int .i64 a1_3)) (ds := []) (mb 5 0) (by kernel_rfl) rfl rfl ⟨(blk_cell BK959.out 0).trans rfl, (blk_cell BK959.out 1).trans rfl, (blk_cell BK959.out 2).trans rfl, (blk_cell BK959.out 3).trans rfl, (blk_cell BK931.out 0).trans rfl, (blk_cell BK931.out 1).trans rfl, (blk_cell BK931.out 2).trans rfl, (blk_cell BK931.out 3).trans rfl⟩ (fun hHeld => ?_)
      generalize w52.drew = w53 at HO936 HO939 HO943 HO947 HO950 HO953 HO957 HO962 HO966 BK931 BK959 HB hHeld ⊢
      refine take_ (i := 0) (N := some 45) (v := ?_) (a' := ?_) (mb 5 1) rfl rfl (by kernel_rfl) (fun _ _ _ h => h) (Or.inl ⟨by rfl, ?_⟩) hHeld ?_ ?_
      rotate_left
      · rintro w' ⟨s0, s1, s2, s3, s4, s5, s6, s7⟩
        go_simp
        with_reducible rfl
      rotate_left
      · simp only [Act.put, List.setIfInBounds_toArray, List.set_cons_zero, List.set_cons_succ, i64_w, i32_w]
        rfl
      refine take_ (i := 1) (N := some 46) (v := ?_) (a' := ?_) (mb 5 3) rfl rfl (by kernel_rfl) (fun _ _ _ h => h) (Or.inl ⟨by rfl, ?_⟩) hHeld ?_ ?_
      rotate_left
      · rintro w' ⟨s0, s1, s2, s3, s4, s5, s6, s7⟩
        go_simp
        with_reducible rfl
      rotate_left
      · simp only [Act.put, List.setIfInBounds_toArray, List.set_cons_zero, List.set_cons_succ, i64_w, i32_w]
        rfl
      refine one_ (i := 2) (N := some 47) (mb 5 7) rfl rfl (by kernel_rfl) (by decide) (fun K hK => ?_)
      refine gA Try.func56 #[.agg #[.slice A1_0 l1_0.length c1_0, .int .i64 a1_1, .slice A1_2 l1_2.length c1_2, .int .i64 a1_3]] ?_
      with_reducible refine (laws_toControl.calls k _ _ l1_0 a1_1 _ _ l1_2 a1_3 t968 t971 t972 t975 _ ?side1 ?side2 ?side3 ?side4 A22.out).mono ?_
      (case side1 => exact cB HR1_0)
      (case side2 => exact HC1_0.out)
      (case side3 => exact cB HR1_2)
      (case side4 => exact HC1_2.out)
      rintro e w54 ⟨v969, v973, rfl, ho0, ho1, hb⟩
      refine ⟨_, rfl, ?_⟩
      replace HO936 := Aside0.mk (Kd.R_below (rK HO936) hb)
      replace HO950 := Aside0.mk (Kd.R_below (rK HO950) hb)
      replace HO966 := Aside0.mk (Kd.R_below (rK HO966) hb)
      have HO970 := Aside0.mk (Kd.R_lower (Kd.R_new' (Kd.R_new' (Kd.R_new' (Kd.R_new' (Kd.R_new' (Kd.R_new' ho0 (Kd.R_lt (rK HO939))) (Kd.R_lt (rK HO943))) (Kd.R_lt (rK HO947))) (Kd.R_lt (rK HO953))) (Kd.R_lt (rK HO957))) (Kd.R_lt (rK HO962))) (below_size bG))
      have HO974 := Aside0.mk (Kd.R_lower (Kd.R_new' (Kd.R_new' (Kd.R_new' (Kd.R_new' (Kd.R_new' (Kd.R_new' ho1 (Kd.R_lt (rK HO939))) (Kd.R_lt (rK HO943))) (Kd.R_lt (rK HO947))) (Kd.R_lt (rK HO953))) (Kd.R_lt (rK HO957))) (Kd.R_lt (rK HO962))) (below_size bG))
      replace HO939 := Aside0.mk (Kd.R_mono (Kd.R_told (Kd.R_told (Kd.R_old (rK HO939) hb) (Kd.R_base ho0)) (Kd.R_base ho1)) (fun _ h_ => h_.1))
      replace HO943 := Aside0.mk (Kd.R_mono (Kd.R_told (Kd.R_told (Kd.R_old (rK HO943) hb) (Kd.R_base ho0)) (Kd.R_base ho1)) (fun _ h_ => h_.1))
      replace HO947 := Aside0.mk (Kd.R_mono (Kd.R_told (Kd.R_told (Kd.R_old (rK HO947) hb) (Kd.R_base ho0)) (Kd.R_base ho1)) (fun _ h_ => h_.1))
      replace HO953 := Aside0.mk (Kd.R_mono (Kd.R_told (Kd.R_told (Kd.R_old (rK HO953) hb) (Kd.R_base ho0)) (Kd.R_base ho1)) (fun _ h_ => h_.1))
      replace HO957 := Aside0.mk (Kd.R_mono (Kd.R_told (Kd.R_told (Kd.R_old (rK HO957) hb) (Kd.R_base ho0)) (Kd.R_base ho1)) (fun _ h_ => h_.1))
      replace HO962 := Aside0.mk (Kd.R_mono (Kd.R_told (Kd.R_told (Kd.R_old (rK HO962) hb) (Kd.R_base ho0)) (Kd.R_base ho1)) (fun _ h_ => h_.1))
      replace BK931 := Aside0.mk (blk_below (g := gb931) (bK BK931) hb)
      replace BK959 := Aside0.mk (blk_below (g := gb959) (bK BK959) hb)
      replace HB := Aside0.mk (below_step bG hb)
      (try clear hb)
      (try clear hb2)
      (try clear hk)
      (try clear hi)
      (try clear ho0)
      (try clear ho1)
      obtain ⟨Ao55, co55, eo55⟩ := Kd.R_slice HO970.out
      (first | subst eo55 | (injection eo55 with f1_ f2_ f3_; have f4_ := f1_.symm; have f5_ := f3_.symm; clear f1_ f2_ f3_; subst f4_; subst f5_))
      obtain ⟨Ao56, co56, eo56⟩ := Kd.R_slice HO974.out
      (first | subst eo56 | (injection eo56 with f1_ f2_ f3_; have f4_ := f1_.symm; have f5_ := f3_.symm; clear f1_ f2_ f3_; subst f4_; subst f5_))
      refine hK.out _ _ ⟨(blk_cell BK959.out 0).trans rfl, (blk_cell BK959.out 1).trans rfl, (blk_cell BK959.out 2).trans rfl, (blk_cell BK959.out 3).trans rfl, (blk_cell BK931.out 0).trans rfl, (blk_cell BK931.out 1).trans rfl, (blk_cell BK931.out 2).trans rfl, (blk_cell BK931.out 3).trans rfl⟩ (fun hHeld => ?_)
      clear hK K
      refine nA ?_
      refine one_ (i := 3) (N := some 48) (mb 5 15) rfl rfl (by kernel_rfl) (by decide) (fun K hK => ?_)
      refine gA Try.func58 #[.agg #[.slice Ao42 t951.length co42, .int .i64 t954, .slice Ao45 t955.length co45, .int .i64 t958], .agg #[.slice Ao55 t968.length co55, .int .i64 t971, .slice Ao56 t972.length co56, .int .i64 t975]] ?_
      with_reducible refine (laws_eqControl.calls k _ _ t951 t954 _ _ t955 t958 _ _ t968 t971 _ _ t972 t975 true _ ?side1 ?side2 ?side3 ?side4 ?side5 ?side6 ?side7 ?side8 A23.out).mono ?_
      (case side1 => exact cO ⟨(Kd.R_reads' HO953.out).2.2⟩)
      (case side2 => exact (Kd.R_reads' HO953.out).2.1)
      (case side3 => exact cO ⟨(Kd.R_reads' HO957.out).2.2⟩)
      (case side4 => exact (Kd.R_reads' HO957.out).2.1)
      (case side5 => exact cO ⟨(Kd.R_reads' HO970.out).2.2⟩)
      (case side6 => exact (Kd.R_reads' HO970.out).2.1)
      (case side7 => exact cO ⟨(Kd.R_reads' HO974.out).2.2⟩)
      (case side8 => exact (Kd.R_reads' HO974.out).2.1)
      rintro e w57 ⟨rfl, hb⟩
      refine ⟨_, rfl, ?_⟩
      replace HO936 := Aside0.mk (Kd.R_below (rK HO936) hb)
      replace HO939 := Aside0.mk (Kd.R_below (rK HO939) hb)
      replace HO943 := Aside0.mk (Kd.R_below (rK HO943) hb)
      replace HO947 := Aside0.mk (Kd.R_below (rK HO947) hb)
      replace HO950 := Aside0.mk (Kd.R_below (rK HO950) hb)
      replace HO953 := Aside0.mk (Kd.R_below (rK HO953) hb)
      replace HO957 := Aside0.mk (Kd.R_below (rK HO957) hb)
      replace HO962 := Aside0.mk (Kd.R_below (rK HO962) hb)
      replace HO966 := Aside0.mk (Kd.R_below (rK HO966) hb)
      replace HO970 := Aside0.mk (Kd.R_below (rK HO970) hb)
      replace HO974 := Aside0.mk (Kd.R_below (rK HO974) hb)
      replace BK931 := Aside0.mk (blk_below (g := gb931) (bK BK931) hb)
      replace BK959 := Aside0.mk (blk_below (g := gb959) (bK BK959) hb)
      replace HB := Aside0.mk (below_step bG hb)
      (try clear hb)
      (try clear hb2)
      (try clear hk)
      (try clear hi)
      refine hK.out _ _ ⟨(blk_cell BK959.out 0).trans rfl, (blk_cell BK959.out 1).trans rfl, (blk_cell BK959.out 2).trans rfl, (blk_cell BK959.out 3).trans rfl, (blk_cell BK931.out 0).trans rfl, (blk_cell BK931.out 1).trans rfl, (blk_cell BK931.out 2).trans rfl, (blk_cell BK931.out 3).trans rfl⟩ (fun hHeld => ?_)
      clear hK K
      refine nA ?_
      refine pure_ (i := 4) (N := some 49) (v := ?_) (a' := ?_) (mb 5 31) rfl rfl (by kernel_rfl) (fun _ _ _ h => h) (Or.inl ⟨by rfl, ?_⟩) ?_ ?_
      rotate_left
      · intro w'
        go_simp
        with_reducible rfl
      rotate_left
      · simp only [Act.put, List.setIfInBounds_toArray, List.set_cons_zero, List.set_cons_succ, i64_w, i32_w]
        rfl
      refine done_ (by kernel_rfl) ?_
      go_upto_region 21 with (first | ((with_reducible refine gate_callee (f := 46) rfl ?_); refine gL (some 52) Try.func46 #[.slice Ao46 t948.length co46, .int .i64 1] ?_; (with_reducible refine (laws_markPathS.calls k (fun k_ => some k_ = (.slice Ao46 t948.length co46 : Value).ownBlock) (.slice Ao46 t948.length co46) t948 1 t977 t978 w _ ?side1 ?side2 A25.out).mono ?_); (case side1 => repeat (first | (with_reducible first | exact HB.out | apply below_alloc | apply pw_below_drewN | apply below_drew1 | refine below_set ?_ GE931.out | refine below_set ?_ GE959.out) | exact HB.out)); (case side2 => exact Kd.R_tight rfl HO950.out); rintro e w58 ⟨rfl, hy0, hb, hkp⟩; refine ⟨_, rfl, ?_⟩; replace BK931 := Aside0.mk (blk_kept (bK BK931) hkp (fun hs_ => (fun e_ => (Kd.R_ne HO950.out BK931.out (by decide)) e_) hs_)); replace HO936 := Aside0.mk (Kd.R_mono (ok' := fun k_ => some k_ ≠ (.slice Ao46 t948.length co46 : Value).ownBlock ∧ some k_ ≠ (.slice Ao51 t964.length co51 : Value).ownBlock) (Kd.R_keptB (HO936.out) hkp (fun k_ hk_ hs_ => (hk_.1.2) hs_)) (fun k_ hk_ => ⟨hk_.1.1.2, hk_.1.2⟩)); replace HO939 := Aside0.mk (Kd.R_mono (ok' := fun k_ => some k_ ≠ (.slice Ao36 t941.length co36 : Value).ownBlock ∧ some k_ ≠ (.slice Ao49 t945.length co49 : Value).ownBlock ∧ some k_ ≠ (.slice Ao42 t951.length co42 : Value).ownBlock ∧ some k_ ≠ (.slice Ao45 t955.length co45 : Value).ownBlock ∧ some k_ ≠ (.slice Ao48 t960.length co48 : Value).ownBlock ∧ some k_ ≠ (.slice Ao55 t968.length co55 : Value).ownBlock ∧ some k_ ≠ (.slice Ao56 t972.length co56 : Value).ownBlock) (Kd.R_keptB ((Kd.R_apart' HO939.out (Kd.R_typed HO950.out) (by decide))) hkp (fun k_ hk_ hs_ => (hk_.2) hs_)) (fun k_ hk_ => ⟨hk_.1.1.1.1.1.1.1.1, hk_.1.1.1.1.1.1.1.2, hk_.1.1.1.1.1.1.2, hk_.1.1.1.1.1.2, hk_.1.1.1.1.2, hk_.1.1.1.2, hk_.1.1.2⟩)); replace HO943 := Aside0.mk (Kd.R_mono (ok' := fun k_ => some k_ ≠ (.slice Ao35 t937.length co35 : Value).ownBlock ∧ some k_ ≠ (.slice Ao49 t945.length co49 : Value).ownBlock ∧ some k_ ≠ (.slice Ao42 t951.length co42 : Value).ownBlock ∧ some k_ ≠ (.slice Ao45 t955.length co45 : Value).ownBlock ∧ some k_ ≠ (.slice Ao48 t960.length co48 : Value).ownBlock ∧ some k_ ≠ (.slice Ao55 t968.length co55 : Value).ownBlock ∧ some k_ ≠ (.slice Ao56 t972.length co56 : Value).ownBlock) (Kd.R_keptB ((Kd.R_apart' HO943.out (Kd.R_typed HO950.out) (by decide))) hkp (fun k_ hk_ hs_ => (hk_.2) hs_)) (fun k_ hk_ => ⟨hk_.1.1.1.1.1.1.1.1, hk_.1.1.1.1.1.1.1.2, hk_.1.1.1.1.1.1.2, hk_.1.1.1.1.1.2, hk_.1.1.1.1.2, hk_.1.1.1.2, hk_.1.1.2⟩)); replace HO947 := Aside0.mk (Kd.R_mono (ok' := fun k_ => some k_ ≠ (.slice Ao35 t937.length co35 : Value).ownBlock ∧ some k_ ≠ (.slice Ao36 t941.length co36 : Value).ownBlock ∧ some k_ ≠ (.slice Ao42 t951.length co42 : Value).ownBlock ∧ some k_ ≠ (.slice Ao45 t955.length co45 : Value).ownBlock ∧ some k_ ≠ (.slice Ao48 t960.length co48 : Value).ownBlock ∧ some k_ ≠ (.slice Ao55 t968.length co55 : Value).ownBlock ∧ some k_ ≠ (.slice Ao56 t972.length co56 : Value).ownBlock) (Kd.R_keptB ((Kd.R_apart' HO947.out (Kd.R_typed HO950.out) (by decide))) hkp (fun k_ hk_ hs_ => (hk_.2) hs_)) (fun k_ hk_ => ⟨hk_.1.1.1.1.1.1.1.1.2, hk_.1.1.1.1.1.1.1.2, hk_.1.1.1.1.1.1.2, hk_.1.1.1.1.1.2, hk_.1.1.1.1.2, hk_.1.1.1.2, hk_.1.1.2⟩)); replace HO953 := Aside0.mk (Kd.R_mono (ok' := fun k_ => some k_ ≠ (.slice Ao35 t937.length co35 : Value).ownBlock ∧ some k_ ≠ (.slice Ao36 t941.length co36 : Value).ownBlock ∧ some k_ ≠ (.slice Ao49 t945.length co49 : Value).ownBlock ∧ some k_ ≠ (.slice Ao45 t955.length co45 : Value).ownBlock ∧ some k_ ≠ (.slice Ao48 t960.length co48 : Value).ownBlock ∧ some k_ ≠ (.slice Ao55 t968.length co55 : Value).ownBlock ∧ some k_ ≠ (.slice Ao56 t972.length co56 : Value).ownBlock) (Kd.R_keptB ((Kd.R_apart' HO953.out (Kd.R_typed HO950.out) (by decide))) hkp (fun k_ hk_ hs_ => (hk_.2) hs_)) (fun k_ hk_ => ⟨hk_.1.1.1.1.1.1.1.2, hk_.1.1.1.1.1.1.2, hk_.1.1.1.1.1.2, hk_.1.1.1.1.1.1.1.1, hk_.1.1.1.1.2, hk_.1.1.1.2, hk_.1.1.2⟩)); replace HO957 := Aside0.mk (Kd.R_mono (ok' := fun k_ => some k_ ≠ (.slice Ao35 t937.length co35 : Value).ownBlock ∧ some k_ ≠ (.slice Ao36 t941.length co36 : Value).ownBlock ∧ some k_ ≠ (.slice Ao49 t945.length co49 : Value).ownBlock ∧ some k_ ≠ (.slice Ao42 t951.length co42 : Value).ownBlock ∧ some k_ ≠ (.slice Ao48 t960.length co48 : Value).ownBlock ∧ some k_ ≠ (.slice Ao55 t968.length co55 : Value).ownBlock ∧ some k_ ≠ (.slice Ao56 t972.length co56 : Value).ownBlock) (Kd.R_keptB ((Kd.R_apart' HO957.out (Kd.R_typed HO950.out) (by decide))) hkp (fun k_ hk_ hs_ => (hk_.2) hs_)) (fun k_ hk_ => ⟨hk_.1.1.1.1.1.1.1.2, hk_.1.1.1.1.1.1.2, hk_.1.1.1.1.1.2, hk_.1.1.1.1.1.1.1.1, hk_.1.1.1.1.2, hk_.1.1.1.2, hk_.1.1.2⟩)); replace BK959 := Aside0.mk (blk_kept (bK BK959) hkp (fun hs_ => (fun e_ => (Kd.R_ne HO950.out BK959.out (by decide)) e_) hs_)); replace HO962 := Aside0.mk (Kd.R_mono (ok' := fun k_ => some k_ ≠ (.slice Ao35 t937.length co35 : Value).ownBlock ∧ some k_ ≠ (.slice Ao36 t941.length co36 : Value).ownBlock ∧ some k_ ≠ (.slice Ao49 t945.length co49 : Value).ownBlock ∧ some k_ ≠ (.slice Ao42 t951.length co42 : Value).ownBlock ∧ some k_ ≠ (.slice Ao45 t955.length co45 : Value).ownBlock ∧ some k_ ≠ (.slice Ao55 t968.length co55 : Value).ownBlock ∧ some k_ ≠ (.slice Ao56 t972.length co56 : Value).ownBlock) (Kd.R_keptB ((Kd.R_apart' HO962.out (Kd.R_typed HO950.out) (by decide))) hkp (fun k_ hk_ hs_ => (hk_.2) hs_)) (fun k_ hk_ => ⟨hk_.1.1.1.1.1.1.1.1.2, hk_.1.1.1.1.1.1.1.2, hk_.1.1.1.1.1.1.2, hk_.1.1.1.1.1.2, hk_.1.1.1.1.2, hk_.1.1.1.2, hk_.1.1.2⟩)); replace HO966 := Aside0.mk (Kd.R_mono (ok' := fun k_ => some k_ ≠ (.slice Ao34 t934.length co34 : Value).ownBlock ∧ some k_ ≠ (.slice Ao46 t948.length co46 : Value).ownBlock) (Kd.R_keptB (HO966.out) hkp (fun k_ hk_ hs_ => (hk_.2) hs_)) (fun k_ hk_ => ⟨hk_.1.1.2, hk_.1.2⟩)); replace HO970 := Aside0.mk (Kd.R_mono (ok' := fun k_ => some k_ ≠ (.slice Ao35 t937.length co35 : Value).ownBlock ∧ some k_ ≠ (.slice Ao36 t941.length co36 : Value).ownBlock ∧ some k_ ≠ (.slice Ao49 t945.length co49 : Value).ownBlock ∧ some k_ ≠ (.slice Ao42 t951.length co42 : Value).ownBlock ∧ some k_ ≠ (.slice Ao45 t955.length co45 : Value).ownBlock ∧ some k_ ≠ (.slice Ao48 t960.length co48 : Value).ownBlock ∧ some k_ ≠ (.slice Ao56 t972.length co56 : Value).ownBlock) (Kd.R_keptB ((Kd.R_apart' HO970.out (Kd.R_typed HO950.out) (by decide))) hkp (fun k_ hk_ hs_ => (hk_.2) hs_)) (fun k_ hk_ => ⟨hk_.1.1.1.1.1.1.1.2, hk_.1.1.1.1.1.1.2, hk_.1.1.1.1.1.2, hk_.1.1.1.1.2, hk_.1.1.1.2, hk_.1.1.2, hk_.1.1.1.1.1.1.1.1⟩)); replace HO974 := Aside0.mk (Kd.R_mono (ok' := fun k_ => some k_ ≠ (.slice Ao35 t937.length co35 : Value).ownBlock ∧ some k_ ≠ (.slice Ao36 t941.length co36 : Value).ownBlock ∧ some k_ ≠ (.slice Ao49 t945.length co49 : Value).ownBlock ∧ some k_ ≠ (.slice Ao42 t951.length co42 : Value).ownBlock ∧ some k_ ≠ (.slice Ao45 t955.length co45 : Value).ownBlock ∧ some k_ ≠ (.slice Ao48 t960.length co48 : Value).ownBlock ∧ some k_ ≠ (.slice Ao55 t968.length co55 : Value).ownBlock) (Kd.R_keptB ((Kd.R_apart' HO974.out (Kd.R_typed HO950.out) (by decide))) hkp (fun k_ hk_ hs_ => (hk_.2) hs_)) (fun k_ hk_ => ⟨hk_.1.1.1.1.1.1.1.2, hk_.1.1.1.1.1.1.2, hk_.1.1.1.1.1.2, hk_.1.1.1.1.2, hk_.1.1.1.2, hk_.1.1.2, hk_.1.1.1.1.1.1.1.1⟩)); replace HO950 := Aside0.mk (Kd.R_reok rfl hy0 (fun k_ e_ => HO950.out.1 k_ e_)); replace HB := Aside0.mk (hb); (try clear hb); (try clear hkp); (try clear hy0); have hcz59_0 : w58.cell? ⟨gb959, 0, none⟩ = some (.slice Ao42 t951.length co42) := (blk_cell BK959.out 0).trans rfl; have hcz59_1 : w58.cell? ⟨gb959, 1, none⟩ = some (.int .i64 t954) := (blk_cell BK959.out 1).trans rfl; have hcz59_2 : w58.cell? ⟨gb959, 2, none⟩ = some (.slice Ao45 t955.length co45) := (blk_cell BK959.out 2).trans rfl; have hcz59_3 : w58.cell? ⟨gb959, 3, none⟩ = some (.int .i64 t958) := (blk_cell BK959.out 3).trans rfl; have hfz59_0 := blk_frozen BK959.out 0; have hfz59_1 := blk_frozen BK959.out 1; have hfz59_2 := blk_frozen BK959.out 2; have hfz59_3 := blk_frozen BK959.out 3) | ((with_reducible refine gate_callee (f := 63) rfl ?_); refine gL (some 55) Try.func63 #[.agg #[.slice Ao42 t951.length co42, .int .i64 t954, .slice Ao45 t955.length co45, .int .i64 t958], .int .i64 t977] ?_; (with_reducible refine (laws_markControl.calls k (fun k_ => some k_ = (.slice Ao42 t951.length co42 : Value).ownBlock) (.slice Ao42 t951.length co42) t951 t954 (fun k_ => some k_ = (.slice Ao45 t955.length co45 : Value).ownBlock) (.slice Ao45 t955.length co45) t955 t958 t977 t979 t980 t981 w _ ?side1 ?side2 ?side3 ?side4 ?side5 A26.out).mono ?_); (case side1 => repeat (first | (with_reducible first | exact HB.out | apply below_alloc | apply pw_below_drewN | apply below_drew1 | refine below_set ?_ GE931.out | refine below_set ?_ GE959.out) | exact HB.out)); (case side2 => exact Kd.R_tight rfl HO953.out); (case side3 => exact fun k_ e_ => (HO953.out.1 k_ e_.symm).2.2.2.1); (case side4 => exact Kd.R_tight rfl HO957.out); (case side5 => exact fun k_ e_ => (HO957.out.1 k_ e_.symm).2.2.2.1); rintro e w60 ⟨rfl, hy0, hy1, hb, hkp⟩; refine ⟨_, rfl, ?_⟩; replace BK931 := Aside0.mk (blk_kept (bK BK931) hkp (fun hs_ => Or.elim hs_ (fun e_ => (fun e_ => (Kd.R_ne HO953.out BK931.out (by decide)) e_) e_) (fun e_ => (fun e_ => (Kd.R_ne HO957.out BK931.out (by decide)) e_) e_))); replace HO936 := Aside0.mk (Kd.R_mono (ok' := fun k_ => some k_ ≠ (.slice Ao46 t948.length co46 : Value).ownBlock ∧ some k_ ≠ (.slice Ao51 t964.length co51 : Value).ownBlock) (Kd.R_keptB ((Kd.R_apart' (Kd.R_apart' HO936.out (Kd.R_typed HO953.out) (by decide)) (Kd.R_typed HO957.out) (by decide))) hkp (fun k_ hk_ hs_ => Or.elim hs_ (fun e_ => (hk_.1.2) e_) (fun e_ => (hk_.2) e_))) (fun k_ hk_ => ⟨hk_.1.1.1.1, hk_.1.1.1.2⟩)); replace HO939 := Aside0.mk (Kd.R_mono (ok' := fun k_ => some k_ ≠ (.slice Ao36 t941.length co36 : Value).ownBlock ∧ some k_ ≠ (.slice Ao49 t945.length co49 : Value).ownBlock ∧ some k_ ≠ (.slice Ao42 t951.length co42 : Value).ownBlock ∧ some k_ ≠ (.slice Ao45 t955.length co45 : Value).ownBlock ∧ some k_ ≠ (.slice Ao48 t960.length co48 : Value).ownBlock ∧ some k_ ≠ (.slice Ao55 t968.length co55 : Value).ownBlock ∧ some k_ ≠ (.slice Ao56 t972.length co56 : Value).ownBlock) (Kd.R_keptB (HO939.out) hkp (fun k_ hk_ hs_ => Or.elim hs_ (fun e_ => (hk_.2.2.1) e_) (fun e_ => (hk_.2.2.2.1) e_))) (fun k_ hk_ => ⟨hk_.1.1, hk_.1.2.1, hk_.1.2.2.1, hk_.1.2.2.2.1, hk_.1.2.2.2.2.1, hk_.1.2.2.2.2.2.1, hk_.1.2.2.2.2.2.2⟩)); replace HO943 := Aside0.mk (Kd.R_mono (ok' := fun k_ => some k_ ≠ (.slice Ao35 t937.length co35 : Value).ownBlock ∧ some k_ ≠ (.slice Ao49 t945.length co49 : Value).ownBlock ∧ some k_ ≠ (.slice Ao42 t951.length co42 : Value).ownBlock ∧ some k_ ≠ (.slice Ao45 t955.length co45 : Value).ownBlock ∧ some k_ ≠ (.slice Ao48 t960.length co48 : Value).ownBlock ∧ some k_ ≠ (.slice Ao55 t968.length co55 : Value).ownBlock ∧ some k_ ≠ (.slice Ao56 t972.length co56 : Value).ownBlock) (Kd.R_keptB (HO943.out) hkp (fun k_ hk_ hs_ => Or.elim hs_ (fun e_ => (hk_.2.2.1) e_) (fun e_ => (hk_.2.2.2.1) e_))) (fun k_ hk_ => ⟨hk_.1.1, hk_.1.2.1, hk_.1.2.2.1, hk_.1.2.2.2.1, hk_.1.2.2.2.2.1, hk_.1.2.2.2.2.2.1, hk_.1.2.2.2.2.2.2⟩)); replace HO947 := Aside0.mk (Kd.R_mono (ok' := fun k_ => some k_ ≠ (.slice Ao35 t937.length co35 : Value).ownBlock ∧ some k_ ≠ (.slice Ao36 t941.length co36 : Value).ownBlock ∧ some k_ ≠ (.slice Ao42 t951.length co42 : Value).ownBlock ∧ some k_ ≠ (.slice Ao45 t955.length co45 : Value).ownBlock ∧ some k_ ≠ (.slice Ao48 t960.length co48 : Value).ownBlock ∧ some k_ ≠ (.slice Ao55 t968.length co55 : Value).ownBlock ∧ some k_ ≠ (.slice Ao56 t972.length co56 : Value).ownBlock) (Kd.R_keptB (HO947.out) hkp (fun k_ hk_ hs_ => Or.elim hs_ (fun e_ => (hk_.2.2.1) e_) (fun e_ => (hk_.2.2.2.1) e_))) (fun k_ hk_ => ⟨hk_.1.1, hk_.1.2.1, hk_.1.2.2.1, hk_.1.2.2.2.1, hk_.1.2.2.2.2.1, hk_.1.2.2.2.2.2.1, hk_.1.2.2.2.2.2.2⟩)); replace HO950 := Aside0.mk (Kd.R_mono (ok' := fun k_ => some k_ ≠ (.slice Ao34 t934.length co34 : Value).ownBlock ∧ some k_ ≠ (.slice Ao51 t964.length co51 : Value).ownBlock) (Kd.R_keptB ((Kd.R_apart' (Kd.R_apart' HO950.out (Kd.R_typed HO953.out) (by decide)) (Kd.R_typed HO957.out) (by decide))) hkp (fun k_ hk_ hs_ => Or.elim hs_ (fun e_ => (hk_.1.2) e_) (fun e_ => (hk_.2) e_))) (fun k_ hk_ => ⟨hk_.1.1.1.1.2, hk_.1.1.1.2⟩)); replace BK959 := Aside0.mk (blk_kept (bK BK959) hkp (fun hs_ => Or.elim hs_ (fun e_ => (fun e_ => (Kd.R_ne HO953.out BK959.out (by decide)) e_) e_) (fun e_ => (fun e_ => (Kd.R_ne HO957.out BK959.out (by decide)) e_) e_))); replace HO962 := Aside0.mk (Kd.R_mono (ok' := fun k_ => some k_ ≠ (.slice Ao35 t937.length co35 : Value).ownBlock ∧ some k_ ≠ (.slice Ao36 t941.length co36 : Value).ownBlock ∧ some k_ ≠ (.slice Ao49 t945.length co49 : Value).ownBlock ∧ some k_ ≠ (.slice Ao42 t951.length co42 : Value).ownBlock ∧ some k_ ≠ (.slice Ao45 t955.length co45 : Value).ownBlock ∧ some k_ ≠ (.slice Ao55 t968.length co55 : Value).ownBlock ∧ some k_ ≠ (.slice Ao56 t972.length co56 : Value).ownBlock) (Kd.R_keptB (HO962.out) hkp (fun k_ hk_ hs_ => Or.elim hs_ (fun e_ => (hk_.2.2.2.1) e_) (fun e_ => (hk_.2.2.2.2.1) e_))) (fun k_ hk_ => ⟨hk_.1.1, hk_.1.2.1, hk_.1.2.2.1, hk_.1.2.2.2.1, hk_.1.2.2.2.2.1, hk_.1.2.2.2.2.2.1, hk_.1.2.2.2.2.2.2⟩)); replace HO966 := Aside0.mk (Kd.R_mono (ok' := fun k_ => some k_ ≠ (.slice Ao34 t934.length co34 : Value).ownBlock ∧ some k_ ≠ (.slice Ao46 t948.length co46 : Value).ownBlock) (Kd.R_keptB ((Kd.R_apart' (Kd.R_apart' HO966.out (Kd.R_typed HO953.out) (by decide)) (Kd.R_typed HO957.out) (by decide))) hkp (fun k_ hk_ hs_ => Or.elim hs_ (fun e_ => (hk_.1.2) e_) (fun e_ => (hk_.2) e_))) (fun k_ hk_ => ⟨hk_.1.1.1.1, hk_.1.1.1.2⟩)); replace HO953 := Aside0.mk (Kd.R_reok rfl hy0 (fun k_ e_ => HO953.out.1 k_ e_)); replace HO957 := Aside0.mk (Kd.R_reok rfl hy1 (fun k_ e_ => HO957.out.1 k_ e_)); replace HO970 := Aside0.mk (Kd.R_mono (ok' := fun k_ => some k_ ≠ (.slice Ao35 t937.length co35 : Value).ownBlock ∧ some k_ ≠ (.slice Ao36 t941.length co36 : Value).ownBlock ∧ some k_ ≠ (.slice Ao49 t945.length co49 : Value).ownBlock ∧ some k_ ≠ (.slice Ao42 t951.length co42 : Value).ownBlock ∧ some k_ ≠ (.slice Ao45 t955.length co45 : Value).ownBlock ∧ some k_ ≠ (.slice Ao48 t960.length co48 : Value).ownBlock ∧ some k_ ≠ (.slice Ao56 t972.length co56 : Value).ownBlock) (Kd.R_keptB (HO970.out) hkp (fun k_ hk_ hs_ => Or.elim hs_ (fun e_ => (hk_.2.2.2.1) e_) (fun e_ => (hk_.2.2.2.2.1) e_))) (fun k_ hk_ => ⟨hk_.1.1, hk_.1.2.1, hk_.1.2.2.1, hk_.1.2.2.2.1, hk_.1.2.2.2.2.1, hk_.1.2.2.2.2.2.1, hk_.1.2.2.2.2.2.2⟩)); replace HO974 := Aside0.mk (Kd.R_mono (ok' := fun k_ => some k_ ≠ (.slice Ao35 t937.length co35 : Value).ownBlock ∧ some k_ ≠ (.slice Ao36 t941.length co36 : Value).ownBlock ∧ some k_ ≠ (.slice Ao49 t945.length co49 : Value).ownBlock ∧ some k_ ≠ (.slice Ao42 t951.length co42 : Value).ownBlock ∧ some k_ ≠ (.slice Ao45 t955.length co45 : Value).ownBlock ∧ some k_ ≠ (.slice Ao48 t960.length co48 : Value).ownBlock ∧ some k_ ≠ (.slice Ao55 t968.length co55 : Value).ownBlock) (Kd.R_keptB (HO974.out) hkp (fun k_ hk_ hs_ => Or.elim hs_ (fun e_ => (hk_.2.2.2.1) e_) (fun e_ => (hk_.2.2.2.2.1) e_))) (fun k_ hk_ => ⟨hk_.1.1, hk_.1.2.1, hk_.1.2.2.1, hk_.1.2.2.2.1, hk_.1.2.2.2.2.1, hk_.1.2.2.2.2.2.1, hk_.1.2.2.2.2.2.2⟩)); replace HB := Aside0.mk (hb); (try clear hb); (try clear hkp); (try clear hy0); (try clear hy1)))
      (try simp only [Act.put, List.setIfInBounds_toArray, List.set_cons_zero, List.set_cons_succ])
      go_cut [63] (fun v63 wc => ∃ (kq : Nat) (x63_26 : Bool), v63 = .bool x63_26 ∧ Aside0 (laws_FnExactLightsOf.j0 kq l0 t945 t960 x63_26 l1_0 a1_1 l1_2 a1_3 = some r) ∧ Aside0 (kq ≤ k) ∧ Aside0 (Kd.R (Kd.int .i64) 3 wc w.heap.size (fun k_ => some k_ ≠ ((.slice Ao48 t960.length co48) : Value).ownBlock ∧ some k_ ≠ ((.slice Ao42 t951.length co42) : Value).ownBlock ∧ some k_ ≠ ((.slice Ao45 t955.length co45) : Value).ownBlock) (.slice Ao49 t945.length co49) t945) ∧ Aside0 (Kd.R (Kd.int .i64) 3 wc w.heap.size (fun k_ => some k_ ≠ ((.slice Ao49 t945.length co49) : Value).ownBlock ∧ some k_ ≠ ((.slice Ao42 t951.length co42) : Value).ownBlock ∧ some k_ ≠ ((.slice Ao45 t955.length co45) : Value).ownBlock) (.slice Ao48 t960.length co48) t960) ∧ Aside0 (Kd.R (Kd.int .i64) 3 wc w.heap.size (fun k_ => some k_ ≠ ((.slice Ao49 t945.length co49) : Value).ownBlock ∧ some k_ ≠ ((.slice Ao48 t960.length co48) : Value).ownBlock ∧ some k_ ≠ ((.slice Ao45 t955.length co45) : Value).ownBlock) (.slice Ao42 t951.length co42) t980) ∧ Aside0 (Kd.R (Kd.int .i64) 3 wc w.heap.size (fun k_ => some k_ ≠ ((.slice Ao49 t945.length co49) : Value).ownBlock ∧ some k_ ≠ ((.slice Ao48 t960.length co48) : Value).ownBlock ∧ some k_ ≠ ((.slice Ao42 t951.length co42) : Value).ownBlock) (.slice Ao45 t955.length co45) t981) ∧ Aside0 (wc.heap[gb931]? = some (.cells #[(.slice A1_0 l1_0.length c1_0), .int .i64 a1_1, (.slice A1_2 l1_2.length c1_2), .int .i64 a1_3] 67 (0, 0))) ∧ Aside0 (wc.heap[gb959]? = some (.cells #[(.slice Ao42 t951.length co42), .int .i64 t954, (.slice Ao45 t955.length co45), .int .i64 t958] 70 (0, 0))) ∧ Aside0 (Below w.heap.size w wc))
      case first =>
        have H := HC27.out
        clear HC27
        by_cases c61 : t979 < 0
        · rw [if_pos c61] at H
          have c61b0 : decide (t979 < 0) = true := decide_eq_true c61
          clear c61
          (first | rw [c61b0] | (simp only [i64_w, i32_w]; rw [c61b0]) | skip)
          have H' := Aside0.mk H
          clear H
          go_wp2
          go_meet
          case rel => exact ⟨_, (true), rS, H', ⟨by first | omega | exact Nat.le_refl _⟩, ⟨by (with_reducible repeat (first | apply Kd.R_alloc | apply Kd.R_drewN | apply Kd.R_drew)); exact Kd.R_mono HO947.out (fun _ hk => ⟨hk.2.2.2.2.1, ⟨hk.2.2.1, hk.2.2.2.1⟩⟩)⟩, ⟨by (with_reducible repeat (first | apply Kd.R_alloc | apply Kd.R_drewN | apply Kd.R_drew)); exact Kd.R_mono HO962.out (fun _ hk => ⟨hk.2.2.1, ⟨hk.2.2.2.1, hk.2.2.2.2.1⟩⟩)⟩, ⟨by (with_reducible repeat (first | apply Kd.R_alloc | apply Kd.R_drewN | apply Kd.R_drew)); exact Kd.R_mono HO953.out (fun _ hk => ⟨hk.2.2.1, ⟨hk.2.2.2.2.1, hk.2.2.2.1⟩⟩)⟩, ⟨by (with_reducible repeat (first | apply Kd.R_alloc | apply Kd.R_drewN | apply Kd.R_drew)); exact Kd.R_mono HO957.out (fun _ hk => ⟨hk.2.2.1, ⟨hk.2.2.2.2.1, hk.2.2.2.1⟩⟩)⟩, ⟨bK BK931⟩, ⟨bK BK959⟩, ⟨bG⟩⟩
        · rw [if_neg c61] at H
          have c61b0 : decide (t979 < 0) = false := decide_eq_false c61
          clear c61
          (first | rw [c61b0] | (simp only [i64_w, i32_w]; rw [c61b0]) | skip)
          obtain ⟨t982, A62, H⟩ := bindE H
          try dsimp only at H
          have H' := Aside0.mk H
          clear H
          go_wp2_with (first | (go_at_call 19; (with_reducible refine (laws_eqIntS.calls k _ _ t960 _ _ t945 t982 _ ?side1 ?side2 ?side3 ?side4 A62.out).mono ?_); (case side1 => exact cO ⟨(Kd.R_reads' HO962.out).2.2⟩); (case side2 => exact (Kd.R_reads' HO962.out).2.1); (case side3 => exact cO ⟨(Kd.R_reads' HO947.out).2.2⟩); (case side4 => exact (Kd.R_reads' HO947.out).2.1); rintro e w' ⟨rfl, ⟨nd, rfl⟩⟩))
          go_meet
          case rel => exact ⟨_, (!t982), rS, H', ⟨by first | omega | exact Nat.le_refl _⟩, ⟨by (with_reducible repeat (first | apply Kd.R_alloc | apply Kd.R_drewN | apply Kd.R_drew)); exact Kd.R_mono HO947.out (fun _ hk => ⟨hk.2.2.2.2.1, ⟨hk.2.2.1, hk.2.2.2.1⟩⟩)⟩, ⟨by (with_reducible repeat (first | apply Kd.R_alloc | apply Kd.R_drewN | apply Kd.R_drew)); exact Kd.R_mono HO962.out (fun _ hk => ⟨hk.2.2.1, ⟨hk.2.2.2.1, hk.2.2.2.2.1⟩⟩)⟩, ⟨by (with_reducible repeat (first | apply Kd.R_alloc | apply Kd.R_drewN | apply Kd.R_drew)); exact Kd.R_mono HO953.out (fun _ hk => ⟨hk.2.2.1, ⟨hk.2.2.2.2.1, hk.2.2.2.1⟩⟩)⟩, ⟨by (with_reducible repeat (first | apply Kd.R_alloc | apply Kd.R_drewN | apply Kd.R_drew)); exact Kd.R_mono HO957.out (fun _ hk => ⟨hk.2.2.1, ⟨hk.2.2.2.2.1, hk.2.2.2.1⟩⟩)⟩, ⟨bK BK931⟩, ⟨bK BK959⟩, ⟨bG⟩⟩
      case rest =>
        clear HC27
        try clear c1
        try clear c2
        try clear p2
        try clear c3
        try clear c4
        try clear c4b0
        try clear c5
        try clear c6
        try clear c7
        try clear c7b0
        try clear c13
        try clear c18
        try clear c19
        try clear c21
        try clear c24
        try clear c31
        try clear c34
        try clear c37
        try clear c43
        try clear c46
        try clear c54
        try clear c56
        try clear c58
        try clear c61
        try clear c61b0
        try clear c62
        try clear hcz29_0
        try clear hcz29_1
        try clear hcz29_2
        try clear hcz29_3
        try clear hcz39_0
        try clear hcz39_1
        try clear hcz39_2
        try clear hcz39_3
        try clear hcz44_0
        try clear hcz44_1
        try clear hcz44_2
        try clear hcz44_3
        try clear hcz59_0
        try clear hcz59_1
        try clear hcz59_2
        try clear hcz59_3
        try clear hcz9_0
        try clear hcz9_1
        try clear hcz9_2
        try clear hcz9_3
        try clear hfz29_0
        try clear hfz29_1
        try clear hfz29_2
        try clear hfz29_3
        try clear hfz39_0
        try clear hfz39_1
        try clear hfz39_2
        try clear hfz39_3
        try clear hfz44_0
        try clear hfz44_1
        try clear hfz44_2
        try clear hfz44_3
        try clear hfz59_0
        try clear hfz59_1
        try clear hfz59_2
        try clear hfz59_3
        try clear hfz9_0
        try clear hfz9_1
        try clear hfz9_2
        try clear hfz9_3
        obtain ⟨kq, x63_26, rfl, HA, HJ26, HO_6, HO_9, HO_960000, HO_960002, BK931, BK959, HB⟩ := hcut
        have hl960000_26 := (Kd.R_reads' HO_960000.out).1
        rw [hl960000_26] at HO_960000
        (try simp only [hl960000_26])
        (try simp only [hl960000_26] at BK931)
        (try simp only [hl960000_26] at BK959)
        (try simp only [hl960000_26] at HO_6)
        (try simp only [hl960000_26] at HO_9)
        (try simp only [hl960000_26] at HO_960002)
        have hl960002_26 := (Kd.R_reads' HO_960002.out).1
        rw [hl960002_26] at HO_960002
        (try simp only [hl960002_26])
        (try simp only [hl960002_26] at BK931)
        (try simp only [hl960002_26] at BK959)
        (try simp only [hl960002_26] at HO_6)
        (try simp only [hl960002_26] at HO_9)
        (try simp only [hl960002_26] at HO_960000)
        cases kq with
        | zero => exact absurd HA.out (by simp [laws_FnExactLightsOf.j0])
        | succ kj26 =>
          have H := HA.out
          clear HA
          simp only [laws_FnExactLightsOf.j0] at H
          have c63 := ifN' H
          replace H := ifT' H
          replace c63 := Bool.eq_false_iff.mpr c63
          subst c63
          obtain ⟨⟨t983, t984⟩, A64, H⟩ := bindE H
          try dsimp only at H
          obtain ⟨t985, A65, H⟩ := bindE H
          try dsimp only at H
          have c66 : ¬ (t985 < 0) := ifN' H
          replace H := ifT' H
          have c66b0 : decide (t985 < 0) = false := decide_eq_false c66
          clear c66
          have c67 : t985 = t983 := ifN H
          replace H := ifT H
          have c67b0 : (t985 == t983) = true := beq_iff_eq.mpr c67
          have c67b1 : (t985 != t983) = false := bne_eq_false_iff_eq.mpr c67
          clear c67
          obtain ⟨t986, A68, H⟩ := bindE H
          try dsimp only at H
          obtain ⟨⟨t989, t992, t993, t996⟩, A69, H⟩ := bindE H
          try dsimp only at H
          obtain ⟨t997, A70, H⟩ := bindE H
          try dsimp only at H
          obtain ⟨t1000, A71, H⟩ := bindE H
          try dsimp only at H
          have c72 := ifN H
          replace H := ifT H
          subst c72
          obtain ⟨t1001, A73, H⟩ := bindE H
          try dsimp only at H
          have c74 : ¬ (t1001 < 0) := ifN' H
          replace H := ifT' H
          have c74b0 : decide (t1001 < 0) = false := decide_eq_false c74
          clear c74
          have c75 : t1001 = t983 := ifN H
          replace H := ifT H
          have c75b0 : (t1001 == t983) = true := beq_iff_eq.mpr c75
          have c75b1 : (t1001 != t983) = false := bne_eq_false_iff_eq.mpr c75
          clear c75
          obtain rfl := Option.some.inj H
          try go_wp2_with (first | ((with_reducible refine gate_callee (f := 21) rfl ?_); refine gL (some 66) Try.func21 #[.slice Ao48 t960.length co48, .int .i64 1] ?_; (with_reducible refine (laws_markIntS.calls kj26 (fun k_ => some k_ = (.slice Ao48 t960.length co48 : Value).ownBlock) (.slice Ao48 t960.length co48) t960 1 t983 t984 w _ ?side1 ?side2 A64.out).mono ?_); (case side1 => repeat (first | (with_reducible first | exact HB.out | apply below_alloc | apply pw_below_drewN | apply below_drew1 | refine below_set ?_ GE931.out | refine below_set ?_ GE959.out) | exact HB.out)); (case side2 => exact Kd.R_tight rfl HO_9.out); rintro e w76 ⟨rfl, hy0, hb, hkp⟩; refine ⟨_, rfl, ?_⟩; replace HO_6 := Aside0.mk (Kd.R_mono (ok' := fun k_ => some k_ ≠ (.slice Ao48 t960.length co48 : Value).ownBlock ∧ some k_ ≠ (.slice Ao42 t980.length co42 : Value).ownBlock ∧ some k_ ≠ (.slice Ao45 t981.length co45 : Value).ownBlock) (Kd.R_keptB (HO_6.out) hkp (fun k_ hk_ hs_ => (hk_.1) hs_)) (fun k_ hk_ => ⟨hk_.1.1, hk_.1.2.1, hk_.1.2.2⟩)); replace HO_960000 := Aside0.mk (Kd.R_mono (ok' := fun k_ => some k_ ≠ (.slice Ao49 t945.length co49 : Value).ownBlock ∧ some k_ ≠ (.slice Ao48 t960.length co48 : Value).ownBlock ∧ some k_ ≠ (.slice Ao45 t981.length co45 : Value).ownBlock) (Kd.R_keptB (HO_960000.out) hkp (fun k_ hk_ hs_ => (hk_.2.1) hs_)) (fun k_ hk_ => ⟨hk_.1.1, hk_.1.2.1, hk_.1.2.2⟩)); replace HO_960002 := Aside0.mk (Kd.R_mono (ok' := fun k_ => some k_ ≠ (.slice Ao49 t945.length co49 : Value).ownBlock ∧ some k_ ≠ (.slice Ao48 t960.length co48 : Value).ownBlock ∧ some k_ ≠ (.slice Ao42 t980.length co42 : Value).ownBlock) (Kd.R_keptB (HO_960002.out) hkp (fun k_ hk_ hs_ => (hk_.2.1) hs_)) (fun k_ hk_ => ⟨hk_.1.1, hk_.1.2.1, hk_.1.2.2⟩)); replace BK931 := Aside0.mk (blk_kept (bK BK931) hkp (fun hs_ => (fun e_ => (Kd.R_ne HO_9.out BK931.out (by decide)) e_) hs_)); replace BK959 := Aside0.mk (blk_kept (bK BK959) hkp (fun hs_ => (fun e_ => (Kd.R_ne HO_9.out BK959.out (by decide)) e_) hs_)); replace HO_9 := Aside0.mk (Kd.R_reok rfl hy0 (fun k_ e_ => HO_9.out.1 k_ e_)); replace HB := Aside0.mk (hb); (try clear hb); (try clear hkp); (try clear hy0)) | ((with_reducible refine gate_callee (f := 23) rfl ?_); refine goesL_ (some 69) rfl rfl Try.func23 (by kernel_rfl) rfl #[.slice Ao48 t984.length co48, .int .i64 1] rfl (by (try simp only [List.map_toArray, List.map_cons, List.map_nil]); first | done | (rw [show t984.length = t960.length from (Kd.R_reads' HO_9.out).1.symm] <;> rfl) | rfl | (simp only [List.length_drop, List.length_take]; rfl)) ?_; (with_reducible refine (laws_heldIntS.calls kj26 _ _ t984 1 t985 _ ?side1 ?side2 A65.out).mono ?_); (case side1 => exact cO ⟨(Kd.R_reads' HO_9.out).2.2⟩); (case side2 => rw [show t984.length = t960.length from (Kd.R_reads' HO_9.out).1.symm]; exact (Kd.R_reads' HO_9.out).2.1); rintro e w' ⟨rfl, ⟨nd, rfl⟩⟩; refine ⟨_, rfl, ?_⟩))
          (try (rw [drewN_self w76]; generalize hq_ : World.drewN w76 _ = w76; have n0_ : Aside0 (Kd.R (Kd.int .i64) 3 w76 w.heap.size (fun k_ => some k_ ≠ (.slice Ao48 t960.length co48 : Value).ownBlock ∧ some k_ ≠ (.slice Ao42 t980.length co42 : Value).ownBlock ∧ some k_ ≠ (.slice Ao45 t981.length co45 : Value).ownBlock) (.slice Ao49 t945.length co49) t945) := ⟨by rw [← hq_]; exact (rK HO_6)⟩; have n1_ : Aside0 (Kd.R (Kd.int .i64) 3 w76 w.heap.size (fun k_ => some k_ ≠ (.slice Ao49 t945.length co49 : Value).ownBlock ∧ some k_ ≠ (.slice Ao42 t980.length co42 : Value).ownBlock ∧ some k_ ≠ (.slice Ao45 t981.length co45 : Value).ownBlock) (.slice Ao48 t960.length co48) t984) := ⟨by rw [← hq_]; exact (rK HO_9)⟩; have n2_ : Aside0 (Kd.R (Kd.int .i64) 3 w76 w.heap.size (fun k_ => some k_ ≠ (.slice Ao49 t945.length co49 : Value).ownBlock ∧ some k_ ≠ (.slice Ao48 t960.length co48 : Value).ownBlock ∧ some k_ ≠ (.slice Ao45 t981.length co45 : Value).ownBlock) (.slice Ao42 t980.length co42) t980) := ⟨by rw [← hq_]; exact (rK HO_960000)⟩; have n3_ : Aside0 (Kd.R (Kd.int .i64) 3 w76 w.heap.size (fun k_ => some k_ ≠ (.slice Ao49 t945.length co49 : Value).ownBlock ∧ some k_ ≠ (.slice Ao48 t960.length co48 : Value).ownBlock ∧ some k_ ≠ (.slice Ao42 t980.length co42 : Value).ownBlock) (.slice Ao45 t981.length co45) t981) := ⟨by rw [← hq_]; exact (rK HO_960002)⟩; have n4_ : Aside0 (w76.heap[gb931]? = some (.cells #[.slice A1_0 l1_0.length c1_0, .int .i64 a1_1, .slice A1_2 l1_2.length c1_2, .int .i64 a1_3] 67 (0, 0))) := ⟨by rw [← hq_]; exact (bK BK931)⟩; have n5_ : Aside0 (w76.heap[gb959]? = some (.cells #[.slice Ao42 t980.length co42, .int .i64 t954, .slice Ao45 t981.length co45, .int .i64 t958] 70 (0, 0))) := ⟨by rw [← hq_]; exact (bK BK959)⟩; have n6_ : Aside0 (Below w.heap.size w w76) := ⟨by rw [← hq_]; exact bG⟩; clear HO_6 HO_9 HO_960000 HO_960002 BK931 BK959 HB hq_; have HO_6 := n0_; have HO_9 := n1_; have HO_960000 := n2_; have HO_960002 := n3_; have BK931 := n4_; have BK959 := n5_; have HB := n6_; clear n0_ n1_ n2_ n3_ n4_ n5_ n6_))
          replace HO_6 := Aside0.mk (Kd.R_drew HO_6.out)
          replace HO_9 := Aside0.mk (Kd.R_drew HO_9.out)
          replace HO_960000 := Aside0.mk (Kd.R_drew HO_960000.out)
          replace HO_960002 := Aside0.mk (Kd.R_drew HO_960002.out)
          replace BK931 := Aside0.mk (blk_drew BK931.out)
          replace BK959 := Aside0.mk (blk_drew BK959.out)
          have HBo := HB
          replace HB := Aside0.mk (below_drew1 HB.out)
          refine start_ (n := 6) (S := fun w' => w'.cell? ⟨gb931, 0, none⟩ = some (.slice A1_0 l1_0.length c1_0) ∧ w'.cell? ⟨gb931, 1, none⟩ = some (.int .i64 a1_1) ∧ w'.cell? ⟨gb931, 2, none⟩ = some (.slice A1_2 l1_2.length c1_2) ∧ w'.cell? ⟨gb931, 3, none⟩ = some (.int .i64 a1_3)) (ds := []) (mb 6 0) (by kernel_rfl) rfl rfl ⟨(blk_cell BK931.out 0).trans rfl, (blk_cell BK931.out 1).trans rfl, (blk_cell BK931.out 2).trans rfl, (blk_cell BK931.out 3).trans rfl⟩ (fun hHeld => ?_)
          generalize w76.drew = w77 at HO_6 HO_9 HO_960000 HO_960002 BK931 BK959 HB hHeld ⊢
          refine pure_ (i := 0) (N := some 75) (v := ?_) (a' := ?_) (mb 6 1) rfl rfl (by kernel_rfl) (fun _ _ _ h => h) (Or.inl ⟨by rfl, ?_⟩) ?_ ?_
          rotate_left
          · intro w'
            go_simp
            with_reducible rfl
          rotate_left
          · simp only [Act.put, List.setIfInBounds_toArray, List.set_cons_zero, List.set_cons_succ, i64_w, i32_w]
            rfl
          refine take_ (i := 2) (N := some 77) (v := ?_) (a' := ?_) (mb 6 5) rfl rfl (by kernel_rfl) (fun _ _ _ h => h) (Or.inl ⟨by rfl, ?_⟩) hHeld ?_ ?_
          rotate_left
          · rintro w' ⟨s0, s1, s2, s3⟩
            go_simp
            with_reducible rfl
          rotate_left
          · simp only [Act.put, List.setIfInBounds_toArray, List.set_cons_zero, List.set_cons_succ, i64_w, i32_w]
            rfl
          refine one_ (i := 1) (N := some 76) (mb 6 7) rfl rfl (by kernel_rfl) (by decide) (fun K hK => ?_)
          refine gA Try.func34 #[.slice A0 l0.length c0] ?_
          with_reducible refine (laws_toPathS.calls kj26 _ _ l0 t986 _ ?side1 ?side2 A68.out).mono ?_
          (case side1 => exact cB HR0)
          (case side2 => exact HC0.out)
          rintro e w78 ⟨v987, rfl, ho0, hb⟩
          refine ⟨_, rfl, ?_⟩
          replace HO_6 := Aside0.mk (Kd.R_below (rK HO_6) hb)
          replace HO_9 := Aside0.mk (Kd.R_below (rK HO_9) hb)
          replace HO_960000 := Aside0.mk (Kd.R_below (rK HO_960000) hb)
          replace HO_960002 := Aside0.mk (Kd.R_below (rK HO_960002) hb)
          have HO988 := Aside0.mk (Kd.R_lower ho0 (below_size bG))
          replace BK931 := Aside0.mk (blk_below (g := gb931) (bK BK931) hb)
          replace BK959 := Aside0.mk (blk_below (g := gb959) (bK BK959) hb)
          replace HB := Aside0.mk (below_step bG hb)
          (try clear hb)
          (try clear hb2)
          (try clear hk)
          (try clear hi)
          (try clear ho0)
          refine hK.out _ _ ⟨(blk_cell BK931.out 0).trans rfl, (blk_cell BK931.out 1).trans rfl, (blk_cell BK931.out 2).trans rfl, (blk_cell BK931.out 3).trans rfl⟩ (fun hHeld => ?_)
          clear hK K
          refine nA ?_
          refine one_ (i := 3) (N := some 78) (mb 6 15) rfl rfl (by kernel_rfl) (by decide) (fun K hK => ?_)
          refine gA Try.func56 #[.agg #[.slice A1_0 l1_0.length c1_0, .int .i64 a1_1, .slice A1_2 l1_2.length c1_2, .int .i64 a1_3]] ?_
          with_reducible refine (laws_toControl.calls kj26 _ _ l1_0 a1_1 _ _ l1_2 a1_3 t989 t992 t993 t996 _ ?side1 ?side2 ?side3 ?side4 A69.out).mono ?_
          (case side1 => exact cB HR1_0)
          (case side2 => exact HC1_0.out)
          (case side3 => exact cB HR1_2)
          (case side4 => exact HC1_2.out)
          rintro e w79 ⟨v990, v994, rfl, ho0, ho1, hb⟩
          refine ⟨_, rfl, ?_⟩
          replace HO988 := Aside0.mk (Kd.R_below (rK HO988) hb)
          have HO991 := Aside0.mk (Kd.R_lower (Kd.R_new' (Kd.R_new' (Kd.R_new' (Kd.R_new' ho0 (Kd.R_lt (rK HO_6))) (Kd.R_lt (rK HO_9))) (Kd.R_lt (rK HO_960000))) (Kd.R_lt (rK HO_960002))) (below_size bG))
          have HO995 := Aside0.mk (Kd.R_lower (Kd.R_new' (Kd.R_new' (Kd.R_new' (Kd.R_new' ho1 (Kd.R_lt (rK HO_6))) (Kd.R_lt (rK HO_9))) (Kd.R_lt (rK HO_960000))) (Kd.R_lt (rK HO_960002))) (below_size bG))
          replace HO_6 := Aside0.mk (Kd.R_mono (Kd.R_told (Kd.R_told (Kd.R_old (rK HO_6) hb) (Kd.R_base ho0)) (Kd.R_base ho1)) (fun _ h_ => h_.1))
          replace HO_9 := Aside0.mk (Kd.R_mono (Kd.R_told (Kd.R_told (Kd.R_old (rK HO_9) hb) (Kd.R_base ho0)) (Kd.R_base ho1)) (fun _ h_ => h_.1))
          replace HO_960000 := Aside0.mk (Kd.R_mono (Kd.R_told (Kd.R_told (Kd.R_old (rK HO_960000) hb) (Kd.R_base ho0)) (Kd.R_base ho1)) (fun _ h_ => h_.1))
          replace HO_960002 := Aside0.mk (Kd.R_mono (Kd.R_told (Kd.R_told (Kd.R_old (rK HO_960002) hb) (Kd.R_base ho0)) (Kd.R_base ho1)) (fun _ h_ => h_.1))
          replace BK931 := Aside0.mk (blk_below (g := gb931) (bK BK931) hb)
          replace BK959 := Aside0.mk (blk_below (g := gb959) (bK BK959) hb)
          replace HB := Aside0.mk (below_step bG hb)
          (try clear hb)
          (try clear hb2)
          (try clear hk)
          (try clear hi)
          (try clear ho0)
          (try clear ho1)
          obtain ⟨Ao80, co80, eo80⟩ := Kd.R_slice HO988.out
          (first | subst eo80 | (injection eo80 with f1_ f2_ f3_; have f4_ := f1_.symm; have f5_ := f3_.symm; clear f1_ f2_ f3_; subst f4_; subst f5_))
          obtain ⟨Ao81, co81, eo81⟩ := Kd.R_slice HO991.out
          (first | subst eo81 | (injection eo81 with f1_ f2_ f3_; have f4_ := f1_.symm; have f5_ := f3_.symm; clear f1_ f2_ f3_; subst f4_; subst f5_))
          obtain ⟨Ao82, co82, eo82⟩ := Kd.R_slice HO995.out
          (first | subst eo82 | (injection eo82 with f1_ f2_ f3_; have f4_ := f1_.symm; have f5_ := f3_.symm; clear f1_ f2_ f3_; subst f4_; subst f5_))
          refine hK.out _ _ ⟨(blk_cell BK931.out 0).trans rfl, (blk_cell BK931.out 1).trans rfl, (blk_cell BK931.out 2).trans rfl, (blk_cell BK931.out 3).trans rfl⟩ (fun hHeld => ?_)
          clear hK K
          refine nA ?_
          refine one_ (i := 4) (N := some 79) (mb 6 31) rfl rfl (by kernel_rfl) (by decide) (fun K hK => ?_)
          refine gA Try.func62 #[.slice Ao80 t986.length co80, .agg #[.slice Ao81 t989.length co81, .int .i64 t992, .slice Ao82 t993.length co82, .int .i64 t996]] ?_
          with_reducible refine (impl_LightsOf.calls kj26 _ _ t986 _ _ t989 t992 _ _ t993 t996 t997 _ ?side1 ?side2 ?side3 ?side4 ?side5 ?side6 A70.out).mono ?_
          (case side1 => exact cO ⟨(Kd.R_reads' HO988.out).2.2⟩)
          (case side2 => exact (Kd.R_reads' HO988.out).2.1)
          (case side3 => exact cO ⟨(Kd.R_reads' HO991.out).2.2⟩)
          (case side4 => exact (Kd.R_reads' HO991.out).2.1)
          (case side5 => exact cO ⟨(Kd.R_reads' HO995.out).2.2⟩)
          (case side6 => exact (Kd.R_reads' HO995.out).2.1)
          rintro e w83 ⟨v998, rfl, ho0, hb⟩
          refine ⟨_, rfl, ?_⟩
          replace HO988 := Aside0.mk (Kd.R_below (rK HO988) hb)
          have HO999 := Aside0.mk (Kd.R_lower (Kd.R_new' (Kd.R_new' (Kd.R_new' (Kd.R_new' (Kd.R_new' (Kd.R_new' ho0 (Kd.R_lt (rK HO_6))) (Kd.R_lt (rK HO_9))) (Kd.R_lt (rK HO_960000))) (Kd.R_lt (rK HO_960002))) (Kd.R_lt (rK HO991))) (Kd.R_lt (rK HO995))) (below_size bG))
          replace HO_6 := Aside0.mk (Kd.R_elder' (rK HO_6) (Kd.R_base ho0) hb)
          replace HO_9 := Aside0.mk (Kd.R_elder' (rK HO_9) (Kd.R_base ho0) hb)
          replace HO_960000 := Aside0.mk (Kd.R_elder' (rK HO_960000) (Kd.R_base ho0) hb)
          replace HO_960002 := Aside0.mk (Kd.R_elder' (rK HO_960002) (Kd.R_base ho0) hb)
          replace HO991 := Aside0.mk (Kd.R_elder' (rK HO991) (Kd.R_base ho0) hb)
          replace HO995 := Aside0.mk (Kd.R_elder' (rK HO995) (Kd.R_base ho0) hb)
          replace BK931 := Aside0.mk (blk_below (g := gb931) (bK BK931) hb)
          replace BK959 := Aside0.mk (blk_below (g := gb959) (bK BK959) hb)
          replace HB := Aside0.mk (below_step bG hb)
          (try clear hb)
          (try clear hb2)
          (try clear hk)
          (try clear hi)
          (try clear ho0)
          refine hK.out _ _ ⟨(blk_cell BK931.out 0).trans rfl, (blk_cell BK931.out 1).trans rfl, (blk_cell BK931.out 2).trans rfl, (blk_cell BK931.out 3).trans rfl⟩ (fun hHeld => ?_)
          clear hK K
          refine nA ?_
          refine pure_ (i := 5) (N := some 13) (v := ?_) (a' := ?_) (mb 6 63) rfl rfl (by kernel_rfl) (fun _ _ _ h => h) (Or.inl ⟨by rfl, ?_⟩) ?_ ?_
          rotate_left
          · intro w'
            go_simp
            with_reducible rfl
          rotate_left
          · simp only [Act.put, List.setIfInBounds_toArray, List.set_cons_zero, List.set_cons_succ, i64_w, i32_w]
            rfl
          refine done_ (by kernel_rfl) ?_
          obtain ⟨Ao84, co84, eo84⟩ := Kd.R_slice HO999.out
          subst eo84
          try go_wp2_with (first | ((with_reducible refine gate_callee (f := 19) rfl ?_); refine gL (some 82) Try.func19 #[.slice Ao84 t997.length co84, .slice Ao49 t945.length co49] ?_; (with_reducible refine (laws_eqIntS.calls kj26 _ _ t997 _ _ t945 true _ ?side1 ?side2 ?side3 ?side4 A71.out).mono ?_); (case side1 => exact cO ⟨(Kd.R_reads' HO999.out).2.2⟩); (case side2 => exact (Kd.R_reads' HO999.out).2.1); (case side3 => exact cO ⟨(Kd.R_reads' HO_6.out).2.2⟩); (case side4 => exact (Kd.R_reads' HO_6.out).2.1); rintro e w' ⟨rfl, ⟨nd, rfl⟩⟩; refine ⟨_, rfl, ?_⟩) | ((with_reducible refine gate_callee (f := 23) rfl ?_); refine goesL_ (some 86) rfl rfl Try.func23 (by kernel_rfl) rfl #[.slice Ao48 t984.length co48, .int .i64 1] rfl (by (try simp only [List.map_toArray, List.map_cons, List.map_nil]); first | done | (rw [show t984.length = t960.length from (Kd.R_reads' HO_9.out).1.symm] <;> rfl) | rfl | (simp only [List.length_drop, List.length_take]; rfl)) ?_; (with_reducible refine (laws_heldIntS.calls kj26 _ _ t984 1 t1001 _ ?side1 ?side2 A73.out).mono ?_); (case side1 => exact cO ⟨(Kd.R_reads' HO_9.out).2.2⟩); (case side2 => rw [show t984.length = t960.length from (Kd.R_reads' HO_9.out).1.symm]; exact (Kd.R_reads' HO_9.out).2.1); rintro e w' ⟨rfl, ⟨nd, rfl⟩⟩; refine ⟨_, rfl, ?_⟩))
          go_ret
          exact ⟨rA, bG⟩

end Go.Proofs.Ytimmadeghcghoaa.P
