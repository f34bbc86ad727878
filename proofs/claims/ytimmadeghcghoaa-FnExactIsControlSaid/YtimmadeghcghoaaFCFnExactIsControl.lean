/- Printed by myprint.py (wip/tools) over the kit's print: what Go's functions compute, and that they do. Lean checks it. -/
import Derived.Test.YtimmadeghcghoaaF0
import Derived.Test.YtimmadeghcghoaaFI14
import Derived.Test.YtimmadeghcghoaaFLControl
import Derived.Test.YtimmadeghcghoaaFLPath
import Derived.Test.YtimmadeghcghoaaFS14
namespace Go.Proofs.Ytimmadeghcghoaa.P
open Go.RowKit Go.Proofs.YtimmadeghcghoaaW.PrintWords Go.Proofs.YtimmadeghcghoaaW.PrintLast Go.Proofs.YtimmadeghcghoaaW.PrintMore Go.Proofs.Ytimmadeghcghoaa.Sq
attribute [local go_sem] max2_int min2_int max_two min_two max_three min_three max_four min_four
set_option linter.unusedVariables false
set_option linter.unusedSimpArgs false

/-! ### laws_FnExactIsControl: function 11 -/
def laws_FnExactIsControl.f (k : Nat) (l0 : List (S92)) (l1_0 : List Int) (a1_1 : Int) (l1_2 : List Int) (a1_3 : Int) : Option (Bool) := (laws_szPathS.f l0 1048576).bind fun t791 => (if t791 < 0 then (some true) else ((laws_szControl.f l1_0 a1_1 l1_2 a1_3 t791).bind fun t792 => (if t792 < 0 then (some true) else ((laws_toPathS.f k l0).bind fun t793 => ((laws_toControl.f k l1_0 a1_1 l1_2 a1_3).bind fun bt796 => ((spec_IsControl.f k t793 bt796.1 bt796.2.1 bt796.2.2.1 bt796.2.2.2).bind fun t804 => ((laws_toPathS.f k l0).bind fun t805 => ((laws_toControl.f k l1_0 a1_1 l1_2 a1_3).bind fun bt808 => ((impl_IsControl.f k t805 bt808.1 bt808.2.1 bt808.2.2.1 bt808.2.2.2).bind fun t817 => (if (t817 != t804) = true then (none) else ((laws_toPathS.f k l0).bind fun t818 => ((laws_eqPathS.f k t805 t818).bind fun t821 => (if t821 = true then ((laws_toControl.f k l1_0 a1_1 l1_2 a1_3).bind fun bt822 => ((laws_eqControl.f k bt808.1 bt808.2.1 bt808.2.2.1 bt808.2.2.2 bt822.1 bt822.2.1 bt822.2.2.1 bt822.2.2.2).bind fun t830 => (if t830 = true then (some true) else (none)))) else (none))))))))))))))
theorem laws_FnExactIsControl.mono : ∀ a0 a1 a2 a3 a4 k, LeO (laws_FnExactIsControl.f k a0 a1 a2 a3 a4) (laws_FnExactIsControl.f (k + 1) a0 a1 a2 a3 a4) := by
  intro a0 a1 a2 a3 a4 k
  unfold laws_FnExactIsControl.f
  repeat' first | (with_reducible first | exact LeO.refl _ | exact LeO.none _ | refine LeO.ite ?_ ?_ | refine LeO.bind ?_ (fun _ => ?_) | exact impl_IsControl.mono _ _ _ _ _ _ | exact laws_eqControl.mono _ _ _ _ _ _ _ _ _ | exact laws_eqPathS.mono _ _ _ | exact laws_toControl.mono _ _ _ _ _ | exact laws_toPathS.mono _ _ | exact spec_IsControl.mono _ _ _ _ _ _) | exact LeO.none _ | refine LeO.ite ?_ ?_ | refine LeO.bind ?_ (fun _ => ?_) | exact impl_IsControl.mono _ _ _ _ _ _ | exact laws_eqControl.mono _ _ _ _ _ _ _ _ _ | exact laws_eqPathS.mono _ _ _ | exact laws_toControl.mono _ _ _ _ _ | exact laws_toPathS.mono _ _ | exact spec_IsControl.mono _ _ _ _ _ _
set_option maxHeartbeats 8000000 in
set_option maxRecDepth 100000 in
theorem laws_FnExactIsControl.calls (k : Nat) (A0 : Option Addr) (c0 : Nat) (l0 : List (S92)) (A1_0 : Option Addr) (c1_0 : Nat) (l1_0 : List Int) (a1_1 : Int) (A1_2 : Option Addr) (c1_2 : Nat) (l1_2 : List Int) (a1_3 : Int) (r : Bool) (w : World) (hr0 : Kd.C k92 w A0 l0.length l0) (hc0 : l0.length ≤ c0) (hr1_0 : Kd.C (Kd.int .i64) w A1_0 l1_0.length l1_0) (hc1_0 : l1_0.length ≤ c1_0) (hr1_2 : Kd.C (Kd.int .i64) w A1_2 l1_2.length l1_2) (hc1_2 : l1_2.length ≤ c1_2) (h : laws_FnExactIsControl.f k l0 l1_0 a1_1 l1_2 a1_3 = some r) :
    Calls Try.prog 11 #[.slice A0 l0.length c0, .agg #[.slice A1_0 l1_0.length c1_0, .int .i64 a1_1, .slice A1_2 l1_2.length c1_2, .int .i64 a1_3]] w fun e w' => e = .returned (.bool r) ∧ Below w.heap.size w w' := by
  have hu67 := Try.underlying67
  have hu70 := Try.underlying70
  have HR0 := Aside0.mk hr0
  have HC0 := Aside0.mk hc0
  clear hr0 hc0
  have HR1_0 := Aside0.mk hr1_0
  have HC1_0 := Aside0.mk hc1_0
  clear hr1_0 hc1_0
  have HR1_2 := Aside0.mk hr1_2
  have HC1_2 := Aside0.mk hc1_2
  clear hr1_2 hc1_2
  have HB := Aside0.mk (Below.refl w.heap.size w)
  have H : ((laws_szPathS.f l0 1048576).bind fun t791 => (if t791 < 0 then (some true) else ((laws_szControl.f l1_0 a1_1 l1_2 a1_3 t791).bind fun t792 => (if t792 < 0 then (some true) else ((laws_toPathS.f k l0).bind fun t793 => ((laws_toControl.f k l1_0 a1_1 l1_2 a1_3).bind fun bt796 => ((spec_IsControl.f k t793 bt796.1 bt796.2.1 bt796.2.2.1 bt796.2.2.2).bind fun t804 => ((laws_toPathS.f k l0).bind fun t805 => ((laws_toControl.f k l1_0 a1_1 l1_2 a1_3).bind fun bt808 => ((impl_IsControl.f k t805 bt808.1 bt808.2.1 bt808.2.2.1 bt808.2.2.2).bind fun t817 => (if (t817 != t804) = true then (none) else ((laws_toPathS.f k l0).bind fun t818 => ((laws_eqPathS.f k t805 t818).bind fun t821 => (if t821 = true then ((laws_toControl.f k l1_0 a1_1 l1_2 a1_3).bind fun bt822 => ((laws_eqControl.f k bt808.1 bt808.2.1 bt808.2.2.1 bt808.2.2.2 bt822.1 bt822.2.1 bt822.2.2.1 bt822.2.2.2).bind fun t830 => (if t830 = true then (some true) else (none)))) else (none))))))))))))))) = some r := h
  clear h
  obtain ⟨t791, A3, H⟩ := bindE H
  try dsimp only at H
  by_cases c4 : t791 < 0
  · rw [if_pos c4] at H
    have c4b0 : decide (t791 < 0) = true := decide_eq_true c4
    clear c4
    obtain rfl := Option.some.inj H
    go_enter Try.func11, Try.ntmps11
    go_wp2_with (first | ((with_reducible refine gate_dst (N := 3) rfl ?_); refine bE (N := 3) (cs := #[.slice A1_0 l1_0.length c1_0, .int .i64 a1_1, .slice A1_2 l1_2.length c1_2, .int .i64 a1_3]) (t := 67) ?_; intro gb790 hg w5 hbox hb; have n0_ := Aside0.mk (below_step bA hb); have n1_ := Aside0.mk (hbox); have n2_ := Aside0.mk ((by rw [hg]; exact (below_size bA) : w.heap.size ≤ gb790)); have n3_ := Aside0.mk ((by rw [hg]; exact (below_size bA) : w.heap.size ≤ gb790)); clear HB; have HB := n0_; have BK790 := n1_; have GW790 := n2_; have GE790 := n3_; clear n0_ n1_ n2_ n3_; clear hb hbox hg) | ((with_reducible refine gate_callee (f := 31) rfl ?_); refine gL (some 12) Try.func31 #[.slice A0 l0.length c0, .int .i64 1048576] ?_; (with_reducible refine (laws_szPathS.calls _ _ l0 1048576 t791 _ ?side1 ?side2 A3.out).mono ?_); (case side1 => exact cB HR0); (case side2 => exact HC0.out); rintro e w' ⟨rfl, ⟨nd, rfl⟩⟩; refine ⟨_, rfl, ?_⟩))
    go_ret
    exact ⟨rA, bG⟩
  · rw [if_neg c4] at H
    have c4b0 : decide (t791 < 0) = false := decide_eq_false c4
    clear c4
    obtain ⟨t792, A6, H⟩ := bindE H
    try dsimp only at H
    by_cases c7 : t792 < 0
    · rw [if_pos c7] at H
      have c7b0 : decide (t792 < 0) = true := decide_eq_true c7
      clear c7
      obtain rfl := Option.some.inj H
      go_enter Try.func11, Try.ntmps11
      go_wp2_with (first | ((with_reducible refine gate_dst (N := 3) rfl ?_); refine bE (N := 3) (cs := #[.slice A1_0 l1_0.length c1_0, .int .i64 a1_1, .slice A1_2 l1_2.length c1_2, .int .i64 a1_3]) (t := 67) ?_; intro gb790 hg w8 hbox hb; have n0_ := Aside0.mk (below_step bA hb); have n1_ := Aside0.mk (hbox); have n2_ := Aside0.mk ((by rw [hg]; exact (below_size bA) : w.heap.size ≤ gb790)); have n3_ := Aside0.mk ((by rw [hg]; exact (below_size bA) : w.heap.size ≤ gb790)); clear HB; have HB := n0_; have BK790 := n1_; have GW790 := n2_; have GE790 := n3_; clear n0_ n1_ n2_ n3_; clear hb hbox hg) | ((with_reducible refine gate_callee (f := 31) rfl ?_); refine gL (some 12) Try.func31 #[.slice A0 l0.length c0, .int .i64 1048576] ?_; (with_reducible refine (laws_szPathS.calls _ _ l0 1048576 t791 _ ?side1 ?side2 A3.out).mono ?_); (case side1 => exact cB HR0); (case side2 => exact HC0.out); rintro e w' ⟨rfl, ⟨nd, rfl⟩⟩; refine ⟨_, rfl, ?_⟩; have hcz9_0 : w8.cell? ⟨gb790, 0, none⟩ = some (.slice A1_0 l1_0.length c1_0) := (blk_cell BK790.out 0).trans rfl; have hcz9_1 : w8.cell? ⟨gb790, 1, none⟩ = some (.int .i64 a1_1) := (blk_cell BK790.out 1).trans rfl; have hcz9_2 : w8.cell? ⟨gb790, 2, none⟩ = some (.slice A1_2 l1_2.length c1_2) := (blk_cell BK790.out 2).trans rfl; have hcz9_3 : w8.cell? ⟨gb790, 3, none⟩ = some (.int .i64 a1_3) := (blk_cell BK790.out 3).trans rfl; have hfz9_0 := blk_frozen BK790.out 0; have hfz9_1 := blk_frozen BK790.out 1; have hfz9_2 := blk_frozen BK790.out 2; have hfz9_3 := blk_frozen BK790.out 3) | ((with_reducible refine gate_callee (f := 54) rfl ?_); refine gL (some 17) Try.func54 #[.agg #[.slice A1_0 l1_0.length c1_0, .int .i64 a1_1, .slice A1_2 l1_2.length c1_2, .int .i64 a1_3], .int .i64 t791] ?_; (with_reducible refine (laws_szControl.calls _ _ l1_0 a1_1 _ _ l1_2 a1_3 t791 t792 _ ?side1 ?side2 ?side3 ?side4 A6.out).mono ?_); (case side1 => exact cG HR1_0); (case side2 => exact HC1_0.out); (case side3 => exact cG HR1_2); (case side4 => exact HC1_2.out); rintro e w10 ⟨rfl, hb⟩; refine ⟨_, rfl, ?_⟩; replace BK790 := Aside0.mk (blk_below (g := gb790) (bK BK790) hb); replace HB := Aside0.mk (below_step bG hb); (try clear hb); (try clear hb2); (try clear hk); (try clear hi)))
      go_ret
      exact ⟨rA, bG⟩
    · rw [if_neg c7] at H
      have c7b0 : decide (t792 < 0) = false := decide_eq_false c7
      clear c7
      obtain ⟨t793, A11, H⟩ := bindE H
      try dsimp only at H
      obtain ⟨⟨t796, t799, t800, t803⟩, A12, H⟩ := bindE H
      try dsimp only at H
      obtain ⟨t804, A13, H⟩ := bindE H
      try dsimp only at H
      obtain ⟨t805, A14, H⟩ := bindE H
      try dsimp only at H
      obtain ⟨⟨t808, t811, t812, t815⟩, A15, H⟩ := bindE H
      try dsimp only at H
      obtain ⟨t817, A16, H⟩ := bindE H
      try dsimp only at H
      have c17 : ¬ ((t817 != t804) = true) := ifN' H
      replace H := ifT' H
      have c17b0 : (t817 != t804) = false := by simpa using c17
      (try (have c17b1 : decide (t817 = t804) = true := by simpa using c17))
      (try (have c17b2 : (t817 == t804) = true := by simpa using c17))
      clear c17
      obtain ⟨t818, A18, H⟩ := bindE H
      try dsimp only at H
      obtain ⟨t821, A19, H⟩ := bindE H
      try dsimp only at H
      have c20 := ifN H
      replace H := ifT H
      subst c20
      obtain ⟨⟨t822, t825, t826, t829⟩, A21, H⟩ := bindE H
      try dsimp only at H
      obtain ⟨t830, A22, H⟩ := bindE H
      try dsimp only at H
      have c23 := ifN H
      replace H := ifT H
      subst c23
      obtain rfl := Option.some.inj H
      go_enter Try.func11, Try.ntmps11
      try go_wp2_with (first | ((with_reducible refine gate_dst (N := 3) rfl ?_); refine bE (N := 3) (cs := #[.slice A1_0 l1_0.length c1_0, .int .i64 a1_1, .slice A1_2 l1_2.length c1_2, .int .i64 a1_3]) (t := 67) ?_; intro gb790 hg w24 hbox hb; have n0_ := Aside0.mk (below_step bA hb); have n1_ := Aside0.mk (hbox); have n2_ := Aside0.mk ((by rw [hg]; exact (below_size bA) : w.heap.size ≤ gb790)); have n3_ := Aside0.mk ((by rw [hg]; exact (below_size bA) : w.heap.size ≤ gb790)); clear HB; have HB := n0_; have BK790 := n1_; have GW790 := n2_; have GE790 := n3_; clear n0_ n1_ n2_ n3_; clear hb hbox hg) | ((with_reducible refine gate_callee (f := 31) rfl ?_); refine gL (some 12) Try.func31 #[.slice A0 l0.length c0, .int .i64 1048576] ?_; (with_reducible refine (laws_szPathS.calls _ _ l0 1048576 t791 _ ?side1 ?side2 A3.out).mono ?_); (case side1 => exact cB HR0); (case side2 => exact HC0.out); rintro e w' ⟨rfl, ⟨nd, rfl⟩⟩; refine ⟨_, rfl, ?_⟩; (try (rw [drewN_self w24]; generalize hq_ : World.drewN w24 _ = w24; have n0_ : Aside0 (w24.heap[gb790]? = some (.cells #[.slice A1_0 l1_0.length c1_0, .int .i64 a1_1, .slice A1_2 l1_2.length c1_2, .int .i64 a1_3] 67 (0, 0))) := ⟨by rw [← hq_]; exact (bK BK790)⟩; have n1_ : Aside0 (Below w.heap.size w w24) := ⟨by rw [← hq_]; exact bG⟩; clear BK790 HB hq_; have BK790 := n0_; have HB := n1_; clear n0_ n1_)); have hcz25_0 : w24.cell? ⟨gb790, 0, none⟩ = some (.slice A1_0 l1_0.length c1_0) := (blk_cell BK790.out 0).trans rfl; have hcz25_1 : w24.cell? ⟨gb790, 1, none⟩ = some (.int .i64 a1_1) := (blk_cell BK790.out 1).trans rfl; have hcz25_2 : w24.cell? ⟨gb790, 2, none⟩ = some (.slice A1_2 l1_2.length c1_2) := (blk_cell BK790.out 2).trans rfl; have hcz25_3 : w24.cell? ⟨gb790, 3, none⟩ = some (.int .i64 a1_3) := (blk_cell BK790.out 3).trans rfl; have hfz25_0 := blk_frozen BK790.out 0; have hfz25_1 := blk_frozen BK790.out 1; have hfz25_2 := blk_frozen BK790.out 2; have hfz25_3 := blk_frozen BK790.out 3) | ((with_reducible refine gate_callee (f := 54) rfl ?_); refine gL (some 17) Try.func54 #[.agg #[.slice A1_0 l1_0.length c1_0, .int .i64 a1_1, .slice A1_2 l1_2.length c1_2, .int .i64 a1_3], .int .i64 t791] ?_; (with_reducible refine (laws_szControl.calls _ _ l1_0 a1_1 _ _ l1_2 a1_3 t791 t792 _ ?side1 ?side2 ?side3 ?side4 A6.out).mono ?_); (case side1 => exact cB HR1_0); (case side2 => exact HC1_0.out); (case side3 => exact cB HR1_2); (case side4 => exact HC1_2.out); rintro e w26 ⟨rfl, hb⟩; refine ⟨_, rfl, ?_⟩; replace BK790 := Aside0.mk (blk_below (g := gb790) (bK BK790) hb); replace HB := Aside0.mk (below_step bG hb); (try clear hb); (try clear hb2); (try clear hk); (try clear hi)))
      replace BK790 := Aside0.mk (blk_drew BK790.out)
      have HBo := HB
      replace HB := Aside0.mk (below_drew1 HB.out)
      refine start_ (n := 6) (S := fun w' => w'.cell? ⟨gb790, 0, none⟩ = some (.slice A1_0 l1_0.length c1_0) ∧ w'.cell? ⟨gb790, 1, none⟩ = some (.int .i64 a1_1) ∧ w'.cell? ⟨gb790, 2, none⟩ = some (.slice A1_2 l1_2.length c1_2) ∧ w'.cell? ⟨gb790, 3, none⟩ = some (.int .i64 a1_3)) (ds := []) (mb 6 0) (by kernel_rfl) rfl rfl ⟨(blk_cell BK790.out 0).trans rfl, (blk_cell BK790.out 1).trans rfl, (blk_cell BK790.out 2).trans rfl, (blk_cell BK790.out 3).trans rfl⟩ (fun hHeld => ?_)
      generalize w26.drew = w27 at BK790 HB hHeld ⊢
      refine pure_ (i := 0) (N := some 20) (v := ?_) (a' := ?_) (mb 6 1) rfl rfl (by kernel_rfl) (fun _ _ _ h => h) (Or.inl ⟨by rfl, ?_⟩) ?_ ?_
      rotate_left
      · intro w'
        go_simp
        with_reducible rfl
      rotate_left
      · simp only [Act.put, List.setIfInBounds_toArray, List.set_cons_zero, List.set_cons_succ, i64_w, i32_w]
        rfl
      refine take_ (i := 2) (N := some 22) (v := ?_) (a' := ?_) (mb 6 5) rfl rfl (by kernel_rfl) (fun _ _ _ h => h) (Or.inl ⟨by rfl, ?_⟩) hHeld ?_ ?_
      rotate_left
      · rintro w' ⟨s0, s1, s2, s3⟩
        go_simp
        with_reducible rfl
      rotate_left
      · simp only [Act.put, List.setIfInBounds_toArray, List.set_cons_zero, List.set_cons_succ, i64_w, i32_w]
        rfl
      refine one_ (i := 1) (N := some 21) (mb 6 7) rfl rfl (by kernel_rfl) (by decide) (fun K hK => ?_)
      refine gA Try.func34 #[.slice A0 l0.length c0] ?_
      with_reducible refine (laws_toPathS.calls k _ _ l0 t793 _ ?side1 ?side2 A11.out).mono ?_
      (case side1 => exact cB HR0)
      (case side2 => exact HC0.out)
      rintro e w28 ⟨v794, rfl, ho0, hb⟩
      refine ⟨_, rfl, ?_⟩
      have HO795 := Aside0.mk (Kd.R_lower ho0 (below_size bG))
      replace BK790 := Aside0.mk (blk_below (g := gb790) (bK BK790) hb)
      replace HB := Aside0.mk (below_step bG hb)
      (try clear hb)
      (try clear hb2)
      (try clear hk)
      (try clear hi)
      (try clear ho0)
      refine hK.out _ _ ⟨(blk_cell BK790.out 0).trans rfl, (blk_cell BK790.out 1).trans rfl, (blk_cell BK790.out 2).trans rfl, (blk_cell BK790.out 3).trans rfl⟩ (fun hHeld => ?_)
      clear hK K
      refine nA ?_
      refine one_ (i := 3) (N := some 23) (mb 6 15) rfl rfl (by kernel_rfl) (by decide) (fun K hK => ?_)
      refine gA Try.func56 #[.agg #[.slice A1_0 l1_0.length c1_0, .int .i64 a1_1, .slice A1_2 l1_2.length c1_2, .int .i64 a1_3]] ?_
      with_reducible refine (laws_toControl.calls k _ _ l1_0 a1_1 _ _ l1_2 a1_3 t796 t799 t800 t803 _ ?side1 ?side2 ?side3 ?side4 A12.out).mono ?_
      (case side1 => exact cB HR1_0)
      (case side2 => exact HC1_0.out)
      (case side3 => exact cB HR1_2)
      (case side4 => exact HC1_2.out)
      rintro e w29 ⟨v797, v801, rfl, ho0, ho1, hb⟩
      refine ⟨_, rfl, ?_⟩
      replace HO795 := Aside0.mk (Kd.R_below (rK HO795) hb)
      have HO798 := Aside0.mk (Kd.R_lower ho0 (below_size bG))
      have HO802 := Aside0.mk (Kd.R_lower ho1 (below_size bG))
      replace BK790 := Aside0.mk (blk_below (g := gb790) (bK BK790) hb)
      replace HB := Aside0.mk (below_step bG hb)
      (try clear hb)
      (try clear hb2)
      (try clear hk)
      (try clear hi)
      (try clear ho0)
      (try clear ho1)
      obtain ⟨Ao30, co30, eo30⟩ := Kd.R_slice HO795.out
      (first | subst eo30 | (injection eo30 with f1_ f2_ f3_; have f4_ := f1_.symm; have f5_ := f3_.symm; clear f1_ f2_ f3_; subst f4_; subst f5_))
      obtain ⟨Ao31, co31, eo31⟩ := Kd.R_slice HO798.out
      (first | subst eo31 | (injection eo31 with f1_ f2_ f3_; have f4_ := f1_.symm; have f5_ := f3_.symm; clear f1_ f2_ f3_; subst f4_; subst f5_))
      obtain ⟨Ao32, co32, eo32⟩ := Kd.R_slice HO802.out
      (first | subst eo32 | (injection eo32 with f1_ f2_ f3_; have f4_ := f1_.symm; have f5_ := f3_.symm; clear f1_ f2_ f3_; subst f4_; subst f5_))
      refine hK.out _ _ ⟨(blk_cell BK790.out 0).trans rfl, (blk_cell BK790.out 1).trans rfl, (blk_cell BK790.out 2).trans rfl, (blk_cell BK790.out 3).trans rfl⟩ (fun hHeld => ?_)
      clear hK K
      refine nA ?_
      refine one_ (i := 4) (N := some 24) (mb 6 31) rfl rfl (by kernel_rfl) (by decide) (fun K hK => ?_)
      refine gA Try.func55 #[.slice Ao30 t793.length co30, .agg #[.slice Ao31 t796.length co31, .int .i64 t799, .slice Ao32 t800.length co32, .int .i64 t803]] ?_
      with_reducible refine (spec_IsControl.calls k _ _ t793 _ _ t796 t799 _ _ t800 t803 t804 _ ?side1 ?side2 ?side3 ?side4 ?side5 ?side6 A13.out).mono ?_
      (case side1 => exact cO ⟨(Kd.R_reads' HO795.out).2.2⟩)
      (case side2 => exact (Kd.R_reads' HO795.out).2.1)
      (case side3 => exact cO ⟨(Kd.R_reads' HO798.out).2.2⟩)
      (case side4 => exact (Kd.R_reads' HO798.out).2.1)
      (case side5 => exact cO ⟨(Kd.R_reads' HO802.out).2.2⟩)
      (case side6 => exact (Kd.R_reads' HO802.out).2.1)
      rintro e w33 ⟨rfl, hb⟩
      refine ⟨_, rfl, ?_⟩
      replace HO795 := Aside0.mk (Kd.R_below (rK HO795) hb)
      replace HO798 := Aside0.mk (Kd.R_below (rK HO798) hb)
      replace HO802 := Aside0.mk (Kd.R_below (rK HO802) hb)
      replace BK790 := Aside0.mk (blk_below (g := gb790) (bK BK790) hb)
      replace HB := Aside0.mk (below_step bG hb)
      (try clear hb)
      (try clear hb2)
      (try clear hk)
      (try clear hi)
      refine hK.out _ _ ⟨(blk_cell BK790.out 0).trans rfl, (blk_cell BK790.out 1).trans rfl, (blk_cell BK790.out 2).trans rfl, (blk_cell BK790.out 3).trans rfl⟩ (fun hHeld => ?_)
      clear hK K
      refine nA ?_
      refine pure_ (i := 5) (N := some 6) (v := ?_) (a' := ?_) (mb 6 63) rfl rfl (by kernel_rfl) (fun _ _ _ h => h) (Or.inl ⟨by rfl, ?_⟩) ?_ ?_
      rotate_left
      · intro w'
        go_simp
        with_reducible rfl
      rotate_left
      · simp only [Act.put, List.setIfInBounds_toArray, List.set_cons_zero, List.set_cons_succ, i64_w, i32_w]
        rfl
      refine done_ (by kernel_rfl) ?_
      try go_wp2_with (first | ((with_reducible refine gate_callee (f := 34) rfl ?_); refine gL (some 26) Try.func34 #[.slice A0 l0.length c0] ?_; (with_reducible refine (laws_toPathS.calls k _ _ l0 t805 _ ?side1 ?side2 A14.out).mono ?_); (case side1 => exact cB HR0); (case side2 => exact HC0.out); rintro e w34 ⟨v806, rfl, ho0, hb⟩; refine ⟨_, rfl, ?_⟩; replace HO798 := Aside0.mk (Kd.R_below (rK HO798) hb); replace HO802 := Aside0.mk (Kd.R_below (rK HO802) hb); have HO807 := Aside0.mk (Kd.R_lower (Kd.R_new' ho0 (Kd.R_lt (rK HO795))) (below_size bG)); replace HO795 := Aside0.mk (Kd.R_elder' (rK HO795) (Kd.R_base ho0) hb); replace BK790 := Aside0.mk (blk_below (g := gb790) (bK BK790) hb); replace HB := Aside0.mk (below_step bG hb); (try clear hb); (try clear hb2); (try clear hk); (try clear hi); (try clear ho0); have hcz35_0 : w34.cell? ⟨gb790, 0, none⟩ = some (.slice A1_0 l1_0.length c1_0) := (blk_cell BK790.out 0).trans rfl; have hcz35_1 : w34.cell? ⟨gb790, 1, none⟩ = some (.int .i64 a1_1) := (blk_cell BK790.out 1).trans rfl; have hcz35_2 : w34.cell? ⟨gb790, 2, none⟩ = some (.slice A1_2 l1_2.length c1_2) := (blk_cell BK790.out 2).trans rfl; have hcz35_3 : w34.cell? ⟨gb790, 3, none⟩ = some (.int .i64 a1_3) := (blk_cell BK790.out 3).trans rfl; have hfz35_0 := blk_frozen BK790.out 0; have hfz35_1 := blk_frozen BK790.out 1; have hfz35_2 := blk_frozen BK790.out 2; have hfz35_3 := blk_frozen BK790.out 3) | ((with_reducible refine gate_callee (f := 56) rfl ?_); refine gL (some 28) Try.func56 #[.agg #[.slice A1_0 l1_0.length c1_0, .int .i64 a1_1, .slice A1_2 l1_2.length c1_2, .int .i64 a1_3]] ?_; (with_reducible refine (laws_toControl.calls k _ _ l1_0 a1_1 _ _ l1_2 a1_3 t808 t811 t812 t815 _ ?side1 ?side2 ?side3 ?side4 A15.out).mono ?_); (case side1 => exact cB HR1_0); (case side2 => exact HC1_0.out); (case side3 => exact cB HR1_2); (case side4 => exact HC1_2.out); rintro e w36 ⟨v809, v813, rfl, ho0, ho1, hb⟩; refine ⟨_, rfl, ?_⟩; replace HO795 := Aside0.mk (Kd.R_below (rK HO795) hb); replace HO807 := Aside0.mk (Kd.R_below (rK HO807) hb); have HO810 := Aside0.mk (Kd.R_lower (Kd.R_new' (Kd.R_new' ho0 (Kd.R_lt (rK HO798))) (Kd.R_lt (rK HO802))) (below_size bG)); have HO814 := Aside0.mk (Kd.R_lower (Kd.R_new' (Kd.R_new' ho1 (Kd.R_lt (rK HO798))) (Kd.R_lt (rK HO802))) (below_size bG)); replace HO798 := Aside0.mk (Kd.R_mono (Kd.R_told (Kd.R_told (Kd.R_old (rK HO798) hb) (Kd.R_base ho0)) (Kd.R_base ho1)) (fun _ h_ => h_.1)); replace HO802 := Aside0.mk (Kd.R_mono (Kd.R_told (Kd.R_told (Kd.R_old (rK HO802) hb) (Kd.R_base ho0)) (Kd.R_base ho1)) (fun _ h_ => h_.1)); replace BK790 := Aside0.mk (blk_below (g := gb790) (bK BK790) hb); replace HB := Aside0.mk (below_step bG hb); (try clear hb); (try clear hb2); (try clear hk); (try clear hi); (try clear ho0); (try clear ho1)) | ((with_reducible refine gate_dst (N := 8) rfl ?_); refine bE (N := 8) (cs := #[.slice none 0 0, .int .i64 0, .slice none 0 0, .int .i64 0]) (t := 70) ?_; intro gb816 hg w37 hbox hb; have n0_ := Aside0.mk (Kd.R_below (rK HO795) hb); have n1_ := Aside0.mk (Kd.R_below (rK HO798) hb); have n2_ := Aside0.mk (Kd.R_below (rK HO802) hb); have n3_ := Aside0.mk (Kd.R_below (rK HO807) hb); have n4_ := Aside0.mk (Kd.R_below (rK HO810) hb); have n5_ := Aside0.mk (Kd.R_below (rK HO814) hb); have n6_ := Aside0.mk (blk_below (g := gb790) (bK BK790) hb); have n7_ := Aside0.mk (below_step bG hb); have n8_ := Aside0.mk (hbox); have n9_ := Aside0.mk ((by rw [hg]; exact (below_size bG) : w.heap.size ≤ gb816)); have n10_ := Aside0.mk ((by rw [hg]; exact (below_size bG) : w.heap.size ≤ gb816)); have n11_ := Aside0.mk ((by rw [hg]; exact Nat.ne_of_lt (blk_lt (g := gb790) (o := .cells #[.slice A1_0 l1_0.length c1_0, .int .i64 a1_1, .slice A1_2 l1_2.length c1_2, .int .i64 a1_3] 67 (0, 0)) (bK BK790)) : gb790 ≠ gb816)); have n12_ := Aside0.mk ((by rw [hg]; exact Nat.ne_of_gt (blk_lt (g := gb790) (o := .cells #[.slice A1_0 l1_0.length c1_0, .int .i64 a1_1, .slice A1_2 l1_2.length c1_2, .int .i64 a1_3] 67 (0, 0)) (bK BK790)) : gb816 ≠ gb790)); clear HO795; clear HO798; clear HO802; clear HO807; clear HO810; clear HO814; clear BK790; clear HB; have HO795 := n0_; have HO798 := n1_; have HO802 := n2_; have HO807 := n3_; have HO810 := n4_; have HO814 := n5_; have BK790 := n6_; have HB := n7_; have BK816 := n8_; have GW816 := n9_; have GE816 := n10_; have NB790_816 := n11_; have NB816_790 := n12_; clear n0_ n1_ n2_ n3_ n4_ n5_ n6_ n7_ n8_ n9_ n10_ n11_ n12_; clear hb hbox hg; obtain ⟨Ao38, co38, eo38⟩ := Kd.R_slice HO810.out; subst eo38; have hnb39 := NB816_790.out; have hnc39 := NB790_816.out; obtain ⟨hcz40_0, hcz40_1, hcz40_2, hcz40_3, hfz40_0, hfz40_1, hfz40_2, hfz40_3⟩ := blkc4 BK816; obtain ⟨Ao41, co41, eo41⟩ := Kd.R_slice HO814.out; subst eo41; obtain ⟨Ao42, co42, eo42⟩ := Kd.R_slice HO807.out; subst eo42) | ((with_reducible refine gate_callee (f := 57) rfl ?_); refine gL (some 31) Try.func57 #[.slice Ao42 t805.length co42, .agg #[.slice Ao38 t808.length co38, .int .i64 t811, .slice Ao41 t812.length co41, .int .i64 t815]] ?_; (with_reducible refine (impl_IsControl.calls k _ _ t805 _ _ t808 t811 _ _ t812 t815 t817 _ ?side1 ?side2 ?side3 ?side4 ?side5 ?side6 A16.out).mono ?_); (case side1 => refine (Kd.R_reads' (e := 90) (base := w.heap.size) (ok := fun k_ => (True ∧ some k_ ≠ (.slice Ao30 t793.length co30 : Value).ownBlock)) (n := t805.length) (c := co42) ?_).2.2; exact (by (with_reducible repeat (first | apply Kd.R_alloc | apply Kd.R_drewN | apply Kd.R_drew)); exact (Kd.R_mono (Kd.R_far (p := ⟨gb816, 3, none⟩) (Kd.R_far (p := ⟨gb816, 2, none⟩) (Kd.R_far (p := ⟨gb816, 1, none⟩) (Kd.R_far (p := ⟨gb816, 0, none⟩) (Kd.R_types HO807.out BK816.out (by decide)) (fun _ hk => hk.2) (.slice Ao38 t808.length co38)) (fun _ hk => hk.2) (.int .i64 t811)) (fun _ hk => hk.2) (.slice Ao41 t812.length co41)) (fun _ hk => hk.2) (.int .i64 t815)) (fun _ h_ => h_.1)))); (case side2 => exact (Kd.R_reads' HO807.out).2.1); (case side3 => refine (Kd.R_reads' (e := 3) (base := w.heap.size) (ok := fun k_ => ((some k_ ≠ (.slice Ao41 t812.length co41 : Value).ownBlock ∧ some k_ ≠ (.slice Ao31 t796.length co31 : Value).ownBlock) ∧ some k_ ≠ (.slice Ao32 t800.length co32 : Value).ownBlock)) (n := t808.length) (c := co38) ?_).2.2; exact (by (with_reducible repeat (first | apply Kd.R_alloc | apply Kd.R_drewN | apply Kd.R_drew)); exact (Kd.R_mono (Kd.R_far (p := ⟨gb816, 3, none⟩) (Kd.R_far (p := ⟨gb816, 2, none⟩) (Kd.R_far (p := ⟨gb816, 1, none⟩) (Kd.R_far (p := ⟨gb816, 0, none⟩) (Kd.R_types HO810.out BK816.out (by decide)) (fun _ hk => hk.2) (.slice Ao38 t808.length co38)) (fun _ hk => hk.2) (.int .i64 t811)) (fun _ hk => hk.2) (.slice Ao41 t812.length co41)) (fun _ hk => hk.2) (.int .i64 t815)) (fun _ h_ => h_.1)))); (case side4 => exact (Kd.R_reads' HO810.out).2.1); (case side5 => refine (Kd.R_reads' (e := 3) (base := w.heap.size) (ok := fun k_ => ((some k_ ≠ (.slice Ao38 t808.length co38 : Value).ownBlock ∧ some k_ ≠ (.slice Ao31 t796.length co31 : Value).ownBlock) ∧ some k_ ≠ (.slice Ao32 t800.length co32 : Value).ownBlock)) (n := t812.length) (c := co41) ?_).2.2; exact (by (with_reducible repeat (first | apply Kd.R_alloc | apply Kd.R_drewN | apply Kd.R_drew)); exact (Kd.R_mono (Kd.R_far (p := ⟨gb816, 3, none⟩) (Kd.R_far (p := ⟨gb816, 2, none⟩) (Kd.R_far (p := ⟨gb816, 1, none⟩) (Kd.R_far (p := ⟨gb816, 0, none⟩) (Kd.R_types HO814.out BK816.out (by decide)) (fun _ hk => hk.2) (.slice Ao38 t808.length co38)) (fun _ hk => hk.2) (.int .i64 t811)) (fun _ hk => hk.2) (.slice Ao41 t812.length co41)) (fun _ hk => hk.2) (.int .i64 t815)) (fun _ h_ => h_.1)))); (case side6 => exact (Kd.R_reads' HO814.out).2.1); rintro e w43 ⟨rfl, hb⟩; refine ⟨_, rfl, ?_⟩; have n0_ := Aside0.mk (Kd.R_below (by (with_reducible repeat (first | apply Kd.R_alloc | apply Kd.R_drewN | apply Kd.R_drew)); exact (Kd.R_mono (Kd.R_far (p := ⟨gb816, 3, none⟩) (Kd.R_far (p := ⟨gb816, 2, none⟩) (Kd.R_far (p := ⟨gb816, 1, none⟩) (Kd.R_far (p := ⟨gb816, 0, none⟩) (Kd.R_types HO795.out BK816.out (by decide)) (fun _ hk => hk.2) (.slice Ao38 t808.length co38)) (fun _ hk => hk.2) (.int .i64 t811)) (fun _ hk => hk.2) (.slice Ao41 t812.length co41)) (fun _ hk => hk.2) (.int .i64 t815)) (fun _ h_ => h_.1))) hb); have n1_ := Aside0.mk (Kd.R_below (by (with_reducible repeat (first | apply Kd.R_alloc | apply Kd.R_drewN | apply Kd.R_drew)); exact (Kd.R_mono (Kd.R_far (p := ⟨gb816, 3, none⟩) (Kd.R_far (p := ⟨gb816, 2, none⟩) (Kd.R_far (p := ⟨gb816, 1, none⟩) (Kd.R_far (p := ⟨gb816, 0, none⟩) (Kd.R_types HO798.out BK816.out (by decide)) (fun _ hk => hk.2) (.slice Ao38 t808.length co38)) (fun _ hk => hk.2) (.int .i64 t811)) (fun _ hk => hk.2) (.slice Ao41 t812.length co41)) (fun _ hk => hk.2) (.int .i64 t815)) (fun _ h_ => h_.1))) hb); have n2_ := Aside0.mk (Kd.R_below (by (with_reducible repeat (first | apply Kd.R_alloc | apply Kd.R_drewN | apply Kd.R_drew)); exact (Kd.R_mono (Kd.R_far (p := ⟨gb816, 3, none⟩) (Kd.R_far (p := ⟨gb816, 2, none⟩) (Kd.R_far (p := ⟨gb816, 1, none⟩) (Kd.R_far (p := ⟨gb816, 0, none⟩) (Kd.R_types HO802.out BK816.out (by decide)) (fun _ hk => hk.2) (.slice Ao38 t808.length co38)) (fun _ hk => hk.2) (.int .i64 t811)) (fun _ hk => hk.2) (.slice Ao41 t812.length co41)) (fun _ hk => hk.2) (.int .i64 t815)) (fun _ h_ => h_.1))) hb); have n3_ := Aside0.mk (Kd.R_below (by (with_reducible repeat (first | apply Kd.R_alloc | apply Kd.R_drewN | apply Kd.R_drew)); exact (Kd.R_mono (Kd.R_far (p := ⟨gb816, 3, none⟩) (Kd.R_far (p := ⟨gb816, 2, none⟩) (Kd.R_far (p := ⟨gb816, 1, none⟩) (Kd.R_far (p := ⟨gb816, 0, none⟩) (Kd.R_types HO807.out BK816.out (by decide)) (fun _ hk => hk.2) (.slice Ao38 t808.length co38)) (fun _ hk => hk.2) (.int .i64 t811)) (fun _ hk => hk.2) (.slice Ao41 t812.length co41)) (fun _ hk => hk.2) (.int .i64 t815)) (fun _ h_ => h_.1))) hb); have n4_ := Aside0.mk (Kd.R_below (by (with_reducible repeat (first | apply Kd.R_alloc | apply Kd.R_drewN | apply Kd.R_drew)); exact (Kd.R_mono (Kd.R_far (p := ⟨gb816, 3, none⟩) (Kd.R_far (p := ⟨gb816, 2, none⟩) (Kd.R_far (p := ⟨gb816, 1, none⟩) (Kd.R_far (p := ⟨gb816, 0, none⟩) (Kd.R_types HO810.out BK816.out (by decide)) (fun _ hk => hk.2) (.slice Ao38 t808.length co38)) (fun _ hk => hk.2) (.int .i64 t811)) (fun _ hk => hk.2) (.slice Ao41 t812.length co41)) (fun _ hk => hk.2) (.int .i64 t815)) (fun _ h_ => h_.1))) hb); have n5_ := Aside0.mk (Kd.R_below (by (with_reducible repeat (first | apply Kd.R_alloc | apply Kd.R_drewN | apply Kd.R_drew)); exact (Kd.R_mono (Kd.R_far (p := ⟨gb816, 3, none⟩) (Kd.R_far (p := ⟨gb816, 2, none⟩) (Kd.R_far (p := ⟨gb816, 1, none⟩) (Kd.R_far (p := ⟨gb816, 0, none⟩) (Kd.R_types HO814.out BK816.out (by decide)) (fun _ hk => hk.2) (.slice Ao38 t808.length co38)) (fun _ hk => hk.2) (.int .i64 t811)) (fun _ hk => hk.2) (.slice Ao41 t812.length co41)) (fun _ hk => hk.2) (.int .i64 t815)) (fun _ h_ => h_.1))) hb); have n6_ := Aside0.mk (blk_below (g := gb790) (o := .cells #[.slice A1_0 l1_0.length c1_0, .int .i64 a1_1, .slice A1_2 l1_2.length c1_2, .int .i64 a1_3] 67 (0, 0)) (by (with_reducible repeat (first | refine blk_drewN ?_ _ | refine blk_drew ?_ | refine blk_alloc ?_ _)); refine blk_far ?_ NB790_816.out _; (with_reducible repeat (first | refine blk_drewN ?_ _ | refine blk_drew ?_ | refine blk_alloc ?_ _)); refine blk_far ?_ NB790_816.out _; (with_reducible repeat (first | refine blk_drewN ?_ _ | refine blk_drew ?_ | refine blk_alloc ?_ _)); refine blk_far ?_ NB790_816.out _; (with_reducible repeat (first | refine blk_drewN ?_ _ | refine blk_drew ?_ | refine blk_alloc ?_ _)); refine blk_far ?_ NB790_816.out _; (with_reducible repeat (first | refine blk_drewN ?_ _ | refine blk_drew ?_ | refine blk_alloc ?_ _)); exact BK790.out) hb); have n7_ := Aside0.mk (blk_below (g := gb816) (o := .cells #[.slice Ao38 t808.length co38, .int .i64 t811, .slice Ao41 t812.length co41, .int .i64 t815] 70 (0, 0)) (by (with_reducible repeat (first | refine blk_drewN ?_ _ | refine blk_drew ?_ | refine blk_alloc ?_ _)); refine blk_put (cs := #[.slice Ao38 t808.length co38, .int .i64 t811, .slice Ao41 t812.length co41, .int .i64 0]) ?_ 3 _ rfl; (with_reducible repeat (first | refine blk_drewN ?_ _ | refine blk_drew ?_ | refine blk_alloc ?_ _)); refine blk_put (cs := #[.slice Ao38 t808.length co38, .int .i64 t811, .slice none 0 0, .int .i64 0]) ?_ 2 _ rfl; (with_reducible repeat (first | refine blk_drewN ?_ _ | refine blk_drew ?_ | refine blk_alloc ?_ _)); refine blk_put (cs := #[.slice Ao38 t808.length co38, .int .i64 0, .slice none 0 0, .int .i64 0]) ?_ 1 _ rfl; (with_reducible repeat (first | refine blk_drewN ?_ _ | refine blk_drew ?_ | refine blk_alloc ?_ _)); refine blk_put (cs := #[.slice none 0 0, .int .i64 0, .slice none 0 0, .int .i64 0]) ?_ 0 _ rfl; (with_reducible repeat (first | refine blk_drewN ?_ _ | refine blk_drew ?_ | refine blk_alloc ?_ _)); exact BK816.out) hb); have n8_ := Aside0.mk (below_step bG hb); clear HO795; clear HO798; clear HO802; clear HO807; clear HO810; clear HO814; clear BK790; clear BK816; clear HB; have HO795 := n0_; have HO798 := n1_; have HO802 := n2_; have HO807 := n3_; have HO810 := n4_; have HO814 := n5_; have BK790 := n6_; have BK816 := n7_; have HB := n8_; clear n0_ n1_ n2_ n3_ n4_ n5_ n6_ n7_ n8_; (try clear hb); (try clear hb2); (try clear hk); (try clear hi)) | ((with_reducible refine gate_callee (f := 34) rfl ?_); refine gL (some 37) Try.func34 #[.slice A0 l0.length c0] ?_; (with_reducible refine (laws_toPathS.calls k _ _ l0 t818 _ ?side1 ?side2 A18.out).mono ?_); (case side1 => exact cB HR0); (case side2 => exact HC0.out); rintro e w44 ⟨v819, rfl, ho0, hb⟩; refine ⟨_, rfl, ?_⟩; replace HO798 := Aside0.mk (Kd.R_below (rK HO798) hb); replace HO802 := Aside0.mk (Kd.R_below (rK HO802) hb); replace HO810 := Aside0.mk (Kd.R_below (rK HO810) hb); replace HO814 := Aside0.mk (Kd.R_below (rK HO814) hb); have HO820 := Aside0.mk (Kd.R_lower (Kd.R_new' (Kd.R_new' ho0 (Kd.R_lt (rK HO795))) (Kd.R_lt (rK HO807))) (below_size bG)); replace HO795 := Aside0.mk (Kd.R_elder' (rK HO795) (Kd.R_base ho0) hb); replace HO807 := Aside0.mk (Kd.R_elder' (rK HO807) (Kd.R_base ho0) hb); replace BK790 := Aside0.mk (blk_below (g := gb790) (bK BK790) hb); replace BK816 := Aside0.mk (blk_below (g := gb816) (bK BK816) hb); replace HB := Aside0.mk (below_step bG hb); (try clear hb); (try clear hb2); (try clear hk); (try clear hi); (try clear ho0); obtain ⟨Ao45, co45, eo45⟩ := Kd.R_slice HO820.out; subst eo45) | ((with_reducible refine gate_callee (f := 37) rfl ?_); refine gL (some 38) Try.func37 #[.slice Ao42 t805.length co42, .slice Ao45 t818.length co45] ?_; (with_reducible refine (laws_eqPathS.calls k _ _ t805 _ _ t818 true _ ?side1 ?side2 ?side3 ?side4 A19.out).mono ?_); (case side1 => exact cO ⟨(Kd.R_reads' HO807.out).2.2⟩); (case side2 => exact (Kd.R_reads' HO807.out).2.1); (case side3 => exact cO ⟨(Kd.R_reads' HO820.out).2.2⟩); (case side4 => exact (Kd.R_reads' HO820.out).2.1); rintro e w46 ⟨rfl, hb⟩; refine ⟨_, rfl, ?_⟩; replace HO795 := Aside0.mk (Kd.R_below (rK HO795) hb); replace HO798 := Aside0.mk (Kd.R_below (rK HO798) hb); replace HO802 := Aside0.mk (Kd.R_below (rK HO802) hb); replace HO807 := Aside0.mk (Kd.R_below (rK HO807) hb); replace HO810 := Aside0.mk (Kd.R_below (rK HO810) hb); replace HO814 := Aside0.mk (Kd.R_below (rK HO814) hb); replace HO820 := Aside0.mk (Kd.R_below (rK HO820) hb); replace BK790 := Aside0.mk (blk_below (g := gb790) (bK BK790) hb); replace BK816 := Aside0.mk (blk_below (g := gb816) (bK BK816) hb); replace HB := Aside0.mk (below_step bG hb); (try clear hb); (try clear hb2); (try clear hk); (try clear hi)))
      replace HO795 := Aside0.mk (Kd.R_drew HO795.out)
      replace HO798 := Aside0.mk (Kd.R_drew HO798.out)
      replace HO802 := Aside0.mk (Kd.R_drew HO802.out)
      replace HO807 := Aside0.mk (Kd.R_drew HO807.out)
      replace HO810 := Aside0.mk (Kd.R_drew HO810.out)
      replace HO814 := Aside0.mk (Kd.R_drew HO814.out)
      replace HO820 := Aside0.mk (Kd.R_drew HO820.out)
      replace BK790 := Aside0.mk (blk_drew BK790.out)
      replace BK816 := Aside0.mk (blk_drew BK816.out)
      have HBo := HB
      replace HB := Aside0.mk (below_drew1 HB.out)
      refine start_ (n := 5) (S := fun w' => w'.cell? ⟨gb816, 0, none⟩ = some (.slice Ao38 t808.length co38) ∧ w'.cell? ⟨gb816, 1, none⟩ = some (.int .i64 t811) ∧ w'.cell? ⟨gb816, 2, none⟩ = some (.slice Ao41 t812.length co41) ∧ w'.cell? ⟨gb816, 3, none⟩ = some (.int .i64 t815) ∧ w'.cell? ⟨gb790, 0, none⟩ = some (.slice A1_0 l1_0.length c1_0) ∧ w'.cell? ⟨gb790, 1, none⟩ = some (.int .i64 a1_1) ∧ w'.cell? ⟨gb790, 2, none⟩ = some (.slice A1_2 l1_2.length c1_2) ∧ w'.cell? ⟨gb790, 3, none⟩ = some (.int .i64 a1_3)) (ds := []) (mb 5 0) (by kernel_rfl) rfl rfl ⟨(blk_cell BK816.out 0).trans rfl, (blk_cell BK816.out 1).trans rfl, (blk_cell BK816.out 2).trans rfl, (blk_cell BK816.out 3).trans rfl, (blk_cell BK790.out 0).trans rfl, (blk_cell BK790.out 1).trans rfl, (blk_cell BK790.out 2).trans rfl, (blk_cell BK790.out 3).trans rfl⟩ (fun hHeld => ?_)
      generalize w46.drew = w47 at HO795 HO798 HO802 HO807 HO810 HO814 HO820 BK790 BK816 HB hHeld ⊢
      refine take_ (i := 0) (N := some 40) (v := ?_) (a' := ?_) (mb 5 1) rfl rfl (by kernel_rfl) (fun _ _ _ h => h) (Or.inl ⟨by rfl, ?_⟩) hHeld ?_ ?_
      rotate_left
      · rintro w' ⟨s0, s1, s2, s3, s4, s5, s6, s7⟩
        go_simp
        with_reducible rfl
      rotate_left
      · simp only [Act.put, List.setIfInBounds_toArray, List.set_cons_zero, List.set_cons_succ, i64_w, i32_w]
        rfl
      refine take_ (i := 1) (N := some 41) (v := ?_) (a' := ?_) (mb 5 3) rfl rfl (by kernel_rfl) (fun _ _ _ h => h) (Or.inl ⟨by rfl, ?_⟩) hHeld ?_ ?_
      rotate_left
      · rintro w' ⟨s0, s1, s2, s3, s4, s5, s6, s7⟩
        go_simp
        with_reducible rfl
      rotate_left
      · simp only [Act.put, List.setIfInBounds_toArray, List.set_cons_zero, List.set_cons_succ, i64_w, i32_w]
        rfl
      refine one_ (i := 2) (N := some 42) (mb 5 7) rfl rfl (by kernel_rfl) (by decide) (fun K hK => ?_)
      refine gA Try.func56 #[.agg #[.slice A1_0 l1_0.length c1_0, .int .i64 a1_1, .slice A1_2 l1_2.length c1_2, .int .i64 a1_3]] ?_
      with_reducible refine (laws_toControl.calls k _ _ l1_0 a1_1 _ _ l1_2 a1_3 t822 t825 t826 t829 _ ?side1 ?side2 ?side3 ?side4 A21.out).mono ?_
      (case side1 => exact cB HR1_0)
      (case side2 => exact HC1_0.out)
      (case side3 => exact cB HR1_2)
      (case side4 => exact HC1_2.out)
      rintro e w48 ⟨v823, v827, rfl, ho0, ho1, hb⟩
      refine ⟨_, rfl, ?_⟩
      replace HO795 := Aside0.mk (Kd.R_below (rK HO795) hb)
      replace HO807 := Aside0.mk (Kd.R_below (rK HO807) hb)
      replace HO820 := Aside0.mk (Kd.R_below (rK HO820) hb)
      have HO824 := Aside0.mk (Kd.R_lower (Kd.R_new' (Kd.R_new' (Kd.R_new' (Kd.R_new' ho0 (Kd.R_lt (rK HO798))) (Kd.R_lt (rK HO802))) (Kd.R_lt (rK HO810))) (Kd.R_lt (rK HO814))) (below_size bG))
      have HO828 := Aside0.mk (Kd.R_lower (Kd.R_new' (Kd.R_new' (Kd.R_new' (Kd.R_new' ho1 (Kd.R_lt (rK HO798))) (Kd.R_lt (rK HO802))) (Kd.R_lt (rK HO810))) (Kd.R_lt (rK HO814))) (below_size bG))
      replace HO798 := Aside0.mk (Kd.R_mono (Kd.R_told (Kd.R_told (Kd.R_old (rK HO798) hb) (Kd.R_base ho0)) (Kd.R_base ho1)) (fun _ h_ => h_.1))
      replace HO802 := Aside0.mk (Kd.R_mono (Kd.R_told (Kd.R_told (Kd.R_old (rK HO802) hb) (Kd.R_base ho0)) (Kd.R_base ho1)) (fun _ h_ => h_.1))
      replace HO810 := Aside0.mk (Kd.R_mono (Kd.R_told (Kd.R_told (Kd.R_old (rK HO810) hb) (Kd.R_base ho0)) (Kd.R_base ho1)) (fun _ h_ => h_.1))
      replace HO814 := Aside0.mk (Kd.R_mono (Kd.R_told (Kd.R_told (Kd.R_old (rK HO814) hb) (Kd.R_base ho0)) (Kd.R_base ho1)) (fun _ h_ => h_.1))
      replace BK790 := Aside0.mk (blk_below (g := gb790) (bK BK790) hb)
      replace BK816 := Aside0.mk (blk_below (g := gb816) (bK BK816) hb)
      replace HB := Aside0.mk (below_step bG hb)
      (try clear hb)
      (try clear hb2)
      (try clear hk)
      (try clear hi)
      (try clear ho0)
      (try clear ho1)
      obtain ⟨Ao49, co49, eo49⟩ := Kd.R_slice HO824.out
      (first | subst eo49 | (injection eo49 with f1_ f2_ f3_; have f4_ := f1_.symm; have f5_ := f3_.symm; clear f1_ f2_ f3_; subst f4_; subst f5_))
      obtain ⟨Ao50, co50, eo50⟩ := Kd.R_slice HO828.out
      (first | subst eo50 | (injection eo50 with f1_ f2_ f3_; have f4_ := f1_.symm; have f5_ := f3_.symm; clear f1_ f2_ f3_; subst f4_; subst f5_))
      refine hK.out _ _ ⟨(blk_cell BK816.out 0).trans rfl, (blk_cell BK816.out 1).trans rfl, (blk_cell BK816.out 2).trans rfl, (blk_cell BK816.out 3).trans rfl, (blk_cell BK790.out 0).trans rfl, (blk_cell BK790.out 1).trans rfl, (blk_cell BK790.out 2).trans rfl, (blk_cell BK790.out 3).trans rfl⟩ (fun hHeld => ?_)
      clear hK K
      refine nA ?_
      refine one_ (i := 3) (N := some 43) (mb 5 15) rfl rfl (by kernel_rfl) (by decide) (fun K hK => ?_)
      refine gA Try.func58 #[.agg #[.slice Ao38 t808.length co38, .int .i64 t811, .slice Ao41 t812.length co41, .int .i64 t815], .agg #[.slice Ao49 t822.length co49, .int .i64 t825, .slice Ao50 t826.length co50, .int .i64 t829]] ?_
      with_reducible refine (laws_eqControl.calls k _ _ t808 t811 _ _ t812 t815 _ _ t822 t825 _ _ t826 t829 true _ ?side1 ?side2 ?side3 ?side4 ?side5 ?side6 ?side7 ?side8 A22.out).mono ?_
      (case side1 => exact cO ⟨(Kd.R_reads' HO810.out).2.2⟩)
      (case side2 => exact (Kd.R_reads' HO810.out).2.1)
      (case side3 => exact cO ⟨(Kd.R_reads' HO814.out).2.2⟩)
      (case side4 => exact (Kd.R_reads' HO814.out).2.1)
      (case side5 => exact cO ⟨(Kd.R_reads' HO824.out).2.2⟩)
      (case side6 => exact (Kd.R_reads' HO824.out).2.1)
      (case side7 => exact cO ⟨(Kd.R_reads' HO828.out).2.2⟩)
      (case side8 => exact (Kd.R_reads' HO828.out).2.1)
      rintro e w51 ⟨rfl, hb⟩
      refine ⟨_, rfl, ?_⟩
      replace HO795 := Aside0.mk (Kd.R_below (rK HO795) hb)
      replace HO798 := Aside0.mk (Kd.R_below (rK HO798) hb)
      replace HO802 := Aside0.mk (Kd.R_below (rK HO802) hb)
      replace HO807 := Aside0.mk (Kd.R_below (rK HO807) hb)
      replace HO810 := Aside0.mk (Kd.R_below (rK HO810) hb)
      replace HO814 := Aside0.mk (Kd.R_below (rK HO814) hb)
      replace HO820 := Aside0.mk (Kd.R_below (rK HO820) hb)
      replace HO824 := Aside0.mk (Kd.R_below (rK HO824) hb)
      replace HO828 := Aside0.mk (Kd.R_below (rK HO828) hb)
      replace BK790 := Aside0.mk (blk_below (g := gb790) (bK BK790) hb)
      replace BK816 := Aside0.mk (blk_below (g := gb816) (bK BK816) hb)
      replace HB := Aside0.mk (below_step bG hb)
      (try clear hb)
      (try clear hb2)
      (try clear hk)
      (try clear hi)
      refine hK.out _ _ ⟨(blk_cell BK816.out 0).trans rfl, (blk_cell BK816.out 1).trans rfl, (blk_cell BK816.out 2).trans rfl, (blk_cell BK816.out 3).trans rfl, (blk_cell BK790.out 0).trans rfl, (blk_cell BK790.out 1).trans rfl, (blk_cell BK790.out 2).trans rfl, (blk_cell BK790.out 3).trans rfl⟩ (fun hHeld => ?_)
      clear hK K
      refine nA ?_
      refine pure_ (i := 4) (N := some 44) (v := ?_) (a' := ?_) (mb 5 31) rfl rfl (by kernel_rfl) (fun _ _ _ h => h) (Or.inl ⟨by rfl, ?_⟩) ?_ ?_
      rotate_left
      · intro w'
        go_simp
        with_reducible rfl
      rotate_left
      · simp only [Act.put, List.setIfInBounds_toArray, List.set_cons_zero, List.set_cons_succ, i64_w, i32_w]
        rfl
      refine done_ (by kernel_rfl) ?_
      try go_wp2
      go_ret
      exact ⟨rA, bG⟩

end Go.Proofs.Ytimmadeghcghoaa.P
