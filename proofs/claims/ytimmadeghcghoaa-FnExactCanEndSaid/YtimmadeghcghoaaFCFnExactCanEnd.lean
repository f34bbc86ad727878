/- Printed by myprint.py (wip/tools) over the kit's print: what Go's functions compute, and that they do. Lean checks it. -/
import Derived.Test.YtimmadeghcghoaaF0
import Derived.Test.YtimmadeghcghoaaFI14
import Derived.Test.YtimmadeghcghoaaFLControl
import Derived.Test.YtimmadeghcghoaaFLPath
import Derived.Test.YtimmadeghcghoaaFS14
namespace Go.Proofs.Ytimmadeghcghoaa.P
open Go.RowKit Go.Proofs.YtimmadeghcghoaaW.PrintWords Go.Proofs.YtimmadeghcghoaaW.PrintLast Go.Proofs.YtimmadeghcghoaaW.PrintMore Go.Proofs.Ytimmadeghcghoaa.Sq
attribute [local go_sem] max2_int min2_int max_two min_two max_three min_three max_four min_four
set_option linter.unusedVariables false
set_option linter.unusedSimpArgs false

/-! ### laws_FnExactCanEnd: function 12 -/
def laws_FnExactCanEnd.f (k : Nat) (l0 : List (S92)) (l1_0 : List Int) (a1_1 : Int) (l1_2 : List Int) (a1_3 : Int) : Option (Bool) := (laws_szPathS.f l0 1048576).bind fun t844 => (if t844 < 0 then (some true) else ((laws_szControl.f l1_0 a1_1 l1_2 a1_3 t844).bind fun t845 => (if t845 < 0 then (some true) else ((laws_toPathS.f k l0).bind fun t846 => ((laws_toControl.f k l1_0 a1_1 l1_2 a1_3).bind fun bt849 => ((spec_CanEnd.f k t846 bt849.1 bt849.2.1 bt849.2.2.1 bt849.2.2.2).bind fun t857 => ((laws_toPathS.f k l0).bind fun t858 => ((laws_toControl.f k l1_0 a1_1 l1_2 a1_3).bind fun bt861 => ((impl_CanEnd.f k t858 bt861.1 bt861.2.1 bt861.2.2.1 bt861.2.2.2).bind fun t870 => (if (t870 != t857) = true then (none) else ((laws_toPathS.f k l0).bind fun t871 => ((laws_eqPathS.f k t858 t871).bind fun t874 => (if t874 = true then ((laws_toControl.f k l1_0 a1_1 l1_2 a1_3).bind fun bt875 => ((laws_eqControl.f k bt861.1 bt861.2.1 bt861.2.2.1 bt861.2.2.2 bt875.1 bt875.2.1 bt875.2.2.1 bt875.2.2.2).bind fun t883 => (if t883 = true then (some true) else (none)))) else (none))))))))))))))
theorem laws_FnExactCanEnd.mono : ∀ a0 a1 a2 a3 a4 k, LeO (laws_FnExactCanEnd.f k a0 a1 a2 a3 a4) (laws_FnExactCanEnd.f (k + 1) a0 a1 a2 a3 a4) := by
  intro a0 a1 a2 a3 a4 k
  unfold laws_FnExactCanEnd.f
  repeat' first | (with_reducible first | exact LeO.refl _ | exact LeO.none _ | refine LeO.ite ?_ ?_ | refine LeO.bind ?_ (fun _ => ?_) | exact impl_CanEnd.mono _ _ _ _ _ _ | exact laws_eqControl.mono _ _ _ _ _ _ _ _ _ | exact laws_eqPathS.mono _ _ _ | exact laws_toControl.mono _ _ _ _ _ | exact laws_toPathS.mono _ _ | exact spec_CanEnd.mono _ _ _ _ _ _) | exact LeO.none _ | refine LeO.ite ?_ ?_ | refine LeO.bind ?_ (fun _ => ?_) | exact impl_CanEnd.mono _ _ _ _ _ _ | exact laws_eqControl.mono _ _ _ _ _ _ _ _ _ | exact laws_eqPathS.mono _ _ _ | exact laws_toControl.mono _ _ _ _ _ | exact laws_toPathS.mono _ _ | exact spec_CanEnd.mono _ _ _ _ _ _
set_option maxHeartbeats 8000000 in
set_option maxRecDepth 100000 in
theorem laws_FnExactCanEnd.calls (k : Nat) (A0 : Option Addr) (c0 : Nat) (l0 : List (S92)) (A1_0 : Option Addr) (c1_0 : Nat) (l1_0 : List Int) (a1_1 : Int) (A1_2 : Option Addr) (c1_2 : Nat) (l1_2 : List Int) (a1_3 : Int) (r : Bool) (w : World) (hr0 : Kd.C k92 w A0 l0.length l0) (hc0 : l0.length ≤ c0) (hr1_0 : Kd.C (Kd.int .i64) w A1_0 l1_0.length l1_0) (hc1_0 : l1_0.length ≤ c1_0) (hr1_2 : Kd.C (Kd.int .i64) w A1_2 l1_2.length l1_2) (hc1_2 : l1_2.length ≤ c1_2) (h : laws_FnExactCanEnd.f k l0 l1_0 a1_1 l1_2 a1_3 = some r) :
    Calls Try.prog 12 #[.slice A0 l0.length c0, .agg #[.slice A1_0 l1_0.length c1_0, .int .i64 a1_1, .slice A1_2 l1_2.length c1_2, .int .i64 a1_3]] w fun e w' => e = .returned (.bool r) ∧ Below w.heap.size w w' := by
  have hu67 := Try.underlying67
  have hu70 := Try.underlying70
  have HR0 := Aside0.mk hr0
  have HC0 := Aside0.mk hc0
  clear hr0 hc0
  have HR1_0 := Aside0.mk hr1_0
  have HC1_0 := Aside0.mk hc1_0
  clear hr1_0 hc1_0
  have HR1_2 := Aside0.mk hr1_2
  have HC1_2 := Aside0.mk hc1_2
  clear hr1_2 hc1_2
  have HB := Aside0.mk (Below.refl w.heap.size w)
  have H : ((laws_szPathS.f l0 1048576).bind fun t844 => (if t844 < 0 then (some true) else ((laws_szControl.f l1_0 a1_1 l1_2 a1_3 t844).bind fun t845 => (if t845 < 0 then (some true) else ((laws_toPathS.f k l0).bind fun t846 => ((laws_toControl.f k l1_0 a1_1 l1_2 a1_3).bind fun bt849 => ((spec_CanEnd.f k t846 bt849.1 bt849.2.1 bt849.2.2.1 bt849.2.2.2).bind fun t857 => ((laws_toPathS.f k l0).bind fun t858 => ((laws_toControl.f k l1_0 a1_1 l1_2 a1_3).bind fun bt861 => ((impl_CanEnd.f k t858 bt861.1 bt861.2.1 bt861.2.2.1 bt861.2.2.2).bind fun t870 => (if (t870 != t857) = true then (none) else ((laws_toPathS.f k l0).bind fun t871 => ((laws_eqPathS.f k t858 t871).bind fun t874 => (if t874 = true then ((laws_toControl.f k l1_0 a1_1 l1_2 a1_3).bind fun bt875 => ((laws_eqControl.f k bt861.1 bt861.2.1 bt861.2.2.1 bt861.2.2.2 bt875.1 bt875.2.1 bt875.2.2.1 bt875.2.2.2).bind fun t883 => (if t883 = true then (some true) else (none)))) else (none))))))))))))))) = some r := h
  clear h
  obtain ⟨t844, A3, H⟩ := bindE H
  try dsimp only at H
  by_cases c4 : t844 < 0
  · rw [if_pos c4] at H
    have c4b0 : decide (t844 < 0) = true := decide_eq_true c4
    clear c4
    obtain rfl := Option.some.inj H
    go_enter Try.func12, Try.ntmps12
    go_wp2_with (first | ((with_reducible refine gate_dst (N := 3) rfl ?_); refine bE (N := 3) (cs := #[.slice A1_0 l1_0.length c1_0, .int .i64 a1_1, .slice A1_2 l1_2.length c1_2, .int .i64 a1_3]) (t := 67) ?_; intro gb843 hg w5 hbox hb; have n0_ := Aside0.mk (below_step bA hb); have n1_ := Aside0.mk (hbox); have n2_ := Aside0.mk ((by rw [hg]; exact (below_size bA) : w.heap.size ≤ gb843)); have n3_ := Aside0.mk ((by rw [hg]; exact (below_size bA) : w.heap.size ≤ gb843)); clear HB; have HB := n0_; have BK843 := n1_; have GW843 := n2_; have GE843 := n3_; clear n0_ n1_ n2_ n3_; clear hb hbox hg) | ((with_reducible refine gate_callee (f := 31) rfl ?_); refine gL (some 12) Try.func31 #[.slice A0 l0.length c0, .int .i64 1048576] ?_; (with_reducible refine (laws_szPathS.calls _ _ l0 1048576 t844 _ ?side1 ?side2 A3.out).mono ?_); (case side1 => exact cB HR0); (case side2 => exact HC0.out); rintro e w' ⟨rfl, ⟨nd, rfl⟩⟩; refine ⟨_, rfl, ?_⟩))
    go_ret
    exact ⟨rA, bG⟩
  · rw [if_neg c4] at H
    have c4b0 : decide (t844 < 0) = false := decide_eq_false c4
    clear c4
    obtain ⟨t845, A6, H⟩ := bindE H
    try dsimp only at H
    by_cases c7 : t845 < 0
    · rw [if_pos c7] at H
      have c7b0 : decide (t845 < 0) = true := decide_eq_true c7
      clear c7
      obtain rfl := Option.some.inj H
      go_enter Try.func12, Try.ntmps12
      go_wp2_with (first | ((with_reducible refine gate_dst (N := 3) rfl ?_); refine bE (N := 3) (cs := #[.slice A1_0 l1_0.length c1_0, .int .i64 a1_1, .slice A1_2 l1_2.length c1_2, .int .i64 a1_3]) (t := 67) ?_; intro gb843 hg w8 hbox hb; have n0_ := Aside0.mk (below_step bA hb); have n1_ := Aside0.mk (hbox); have n2_ := Aside0.mk ((by rw [hg]; exact (below_size bA) : w.heap.size ≤ gb843)); have n3_ := Aside0.mk ((by rw [hg]; exact (below_size bA) : w.heap.size ≤ gb843)); clear HB; have HB := n0_; have BK843 := n1_; have GW843 := n2_; have GE843 := n3_; clear n0_ n1_ n2_ n3_; clear hb hbox hg) | ((with_reducible refine gate_callee (f := 31) rfl ?_); refine gL (some 12) Try.func31 #[.slice A0 l0.length c0, .int .i64 1048576] ?_; (with_reducible refine (laws_szPathS.calls _ _ l0 1048576 t844 _ ?side1 ?side2 A3.out).mono ?_); (case side1 => exact cB HR0); (case side2 => exact HC0.out); rintro e w' ⟨rfl, ⟨nd, rfl⟩⟩; refine ⟨_, rfl, ?_⟩; have hcz9_0 : w8.cell? ⟨gb843, 0, none⟩ = some (.slice A1_0 l1_0.length c1_0) := (blk_cell BK843.out 0).trans rfl; have hcz9_1 : w8.cell? ⟨gb843, 1, none⟩ = some (.int .i64 a1_1) := (blk_cell BK843.out 1).trans rfl; have hcz9_2 : w8.cell? ⟨gb843, 2, none⟩ = some (.slice A1_2 l1_2.length c1_2) := (blk_cell BK843.out 2).trans rfl; have hcz9_3 : w8.cell? ⟨gb843, 3, none⟩ = some (.int .i64 a1_3) := (blk_cell BK843.out 3).trans rfl; have hfz9_0 := blk_frozen BK843.out 0; have hfz9_1 := blk_frozen BK843.out 1; have hfz9_2 := blk_frozen BK843.out 2; have hfz9_3 := blk_frozen BK843.out 3) | ((with_reducible refine gate_callee (f := 54) rfl ?_); refine gL (some 17) Try.func54 #[.agg #[.slice A1_0 l1_0.length c1_0, .int .i64 a1_1, .slice A1_2 l1_2.length c1_2, .int .i64 a1_3], .int .i64 t844] ?_; (with_reducible refine (laws_szControl.calls _ _ l1_0 a1_1 _ _ l1_2 a1_3 t844 t845 _ ?side1 ?side2 ?side3 ?side4 A6.out).mono ?_); (case side1 => exact cG HR1_0); (case side2 => exact HC1_0.out); (case side3 => exact cG HR1_2); (case side4 => exact HC1_2.out); rintro e w10 ⟨rfl, hb⟩; refine ⟨_, rfl, ?_⟩; replace BK843 := Aside0.mk (blk_below (g := gb843) (bK BK843) hb); replace HB := Aside0.mk (below_step bG hb); (try clear hb); (try clear hb2); (try clear hk); (try clear hi)))
      go_ret
      exact ⟨rA, bG⟩
    · rw [if_neg c7] at H
      have c7b0 : decide (t845 < 0) = false := decide_eq_false c7
      clear c7
      obtain ⟨t846, A11, H⟩ := bindE H
      try dsimp only at H
      obtain ⟨⟨t849, t852, t853, t856⟩, A12, H⟩ := bindE H
      try dsimp only at H
      obtain ⟨t857, A13, H⟩ := bindE H
      try dsimp only at H
      obtain ⟨t858, A14, H⟩ := bindE H
      try dsimp only at H
      obtain ⟨⟨t861, t864, t865, t868⟩, A15, H⟩ := bindE H
      try dsimp only at H
      obtain ⟨t870, A16, H⟩ := bindE H
      try dsimp only at H
      have c17 : ¬ ((t870 != t857) = true) := ifN' H
      replace H := ifT' H
      have c17b0 : (t870 != t857) = false := by simpa using c17
      (try (have c17b1 : decide (t870 = t857) = true := by simpa using c17))
      (try (have c17b2 : (t870 == t857) = true := by simpa using c17))
      clear c17
      obtain ⟨t871, A18, H⟩ := bindE H
      try dsimp only at H
      obtain ⟨t874, A19, H⟩ := bindE H
      try dsimp only at H
      have c20 := ifN H
      replace H := ifT H
      subst c20
      obtain ⟨⟨t875, t878, t879, t882⟩, A21, H⟩ := bindE H
      try dsimp only at H
      obtain ⟨t883, A22, H⟩ := bindE H
      try dsimp only at H
      have c23 := ifN H
      replace H := ifT H
      subst c23
      obtain rfl := Option.some.inj H
      go_enter Try.func12, Try.ntmps12
      try go_wp2_with (first | ((with_reducible refine gate_dst (N := 3) rfl ?_); refine bE (N := 3) (cs := #[.slice A1_0 l1_0.length c1_0, .int .i64 a1_1, .slice A1_2 l1_2.length c1_2, .int .i64 a1_3]) (t := 67) ?_; intro gb843 hg w24 hbox hb; have n0_ := Aside0.mk (below_step bA hb); have n1_ := Aside0.mk (hbox); have n2_ := Aside0.mk ((by rw [hg]; exact (below_size bA) : w.heap.size ≤ gb843)); have n3_ := Aside0.mk ((by rw [hg]; exact (below_size bA) : w.heap.size ≤ gb843)); clear HB; have HB := n0_; have BK843 := n1_; have GW843 := n2_; have GE843 := n3_; clear n0_ n1_ n2_ n3_; clear hb hbox hg) | ((with_reducible refine gate_callee (f := 31) rfl ?_); refine gL (some 12) Try.func31 #[.slice A0 l0.length c0, .int .i64 1048576] ?_; (with_reducible refine (laws_szPathS.calls _ _ l0 1048576 t844 _ ?side1 ?side2 A3.out).mono ?_); (case side1 => exact cB HR0); (case side2 => exact HC0.out); rintro e w' ⟨rfl, ⟨nd, rfl⟩⟩; refine ⟨_, rfl, ?_⟩; (try (rw [drewN_self w24]; generalize hq_ : World.drewN w24 _ = w24; have n0_ : Aside0 (w24.heap[gb843]? = some (.cells #[.slice A1_0 l1_0.length c1_0, .int .i64 a1_1, .slice A1_2 l1_2.length c1_2, .int .i64 a1_3] 67 (0, 0))) := ⟨by rw [← hq_]; exact (bK BK843)⟩; have n1_ : Aside0 (Below w.heap.size w w24) := ⟨by rw [← hq_]; exact bG⟩; clear BK843 HB hq_; have BK843 := n0_; have HB := n1_; clear n0_ n1_)); have hcz25_0 : w24.cell? ⟨gb843, 0, none⟩ = some (.slice A1_0 l1_0.length c1_0) := (blk_cell BK843.out 0).trans rfl; have hcz25_1 : w24.cell? ⟨gb843, 1, none⟩ = some (.int .i64 a1_1) := (blk_cell BK843.out 1).trans rfl; have hcz25_2 : w24.cell? ⟨gb843, 2, none⟩ = some (.slice A1_2 l1_2.length c1_2) := (blk_cell BK843.out 2).trans rfl; have hcz25_3 : w24.cell? ⟨gb843, 3, none⟩ = some (.int .i64 a1_3) := (blk_cell BK843.out 3).trans rfl; have hfz25_0 := blk_frozen BK843.out 0; have hfz25_1 := blk_frozen BK843.out 1; have hfz25_2 := blk_frozen BK843.out 2; have hfz25_3 := blk_frozen BK843.out 3) | ((with_reducible refine gate_callee (f := 54) rfl ?_); refine gL (some 17) Try.func54 #[.agg #[.slice A1_0 l1_0.length c1_0, .int .i64 a1_1, .slice A1_2 l1_2.length c1_2, .int .i64 a1_3], .int .i64 t844] ?_; (with_reducible refine (laws_szControl.calls _ _ l1_0 a1_1 _ _ l1_2 a1_3 t844 t845 _ ?side1 ?side2 ?side3 ?side4 A6.out).mono ?_); (case side1 => exact cB HR1_0); (case side2 => exact HC1_0.out); (case side3 => exact cB HR1_2); (case side4 => exact HC1_2.out); rintro e w26 ⟨rfl, hb⟩; refine ⟨_, rfl, ?_⟩; replace BK843 := Aside0.mk (blk_below (g := gb843) (bK BK843) hb); replace HB := Aside0.mk (below_step bG hb); (try clear hb); (try clear hb2); (try clear hk); (try clear hi)))
      replace BK843 := Aside0.mk (blk_drew BK843.out)
      have HBo := HB
      replace HB := Aside0.mk (below_drew1 HB.out)
      refine start_ (n := 6) (S := fun w' => w'.cell? ⟨gb843, 0, none⟩ = some (.slice A1_0 l1_0.length c1_0) ∧ w'.cell? ⟨gb843, 1, none⟩ = some (.int .i64 a1_1) ∧ w'.cell? ⟨gb843, 2, none⟩ = some (.slice A1_2 l1_2.length c1_2) ∧ w'.cell? ⟨gb843, 3, none⟩ = some (.int .i64 a1_3)) (ds := []) (mb 6 0) (by kernel_rfl) rfl rfl ⟨(blk_cell BK843.out 0).trans rfl, (blk_cell BK843.out 1).trans rfl, (blk_cell BK843.out 2).trans rfl, (blk_cell BK843.out 3).trans rfl⟩ (fun hHeld => ?_)
      generalize w26.drew = w27 at BK843 HB hHeld ⊢
      refine pure_ (i := 0) (N := some 20) (v := ?_) (a' := ?_) (mb 6 1) rfl rfl (by kernel_rfl) (fun _ _ _ h => h) (Or.inl ⟨by rfl, ?_⟩) ?_ ?_
      rotate_left
      · intro w'
        go_simp
        with_reducible rfl
      rotate_left
      · simp only [Act.put, List.setIfInBounds_toArray, List.set_cons_zero, List.set_cons_succ, i64_w, i32_w]
        rfl
      refine take_ (i := 2) (N := some 22) (v := ?_) (a' := ?_) (mb 6 5) rfl rfl (by kernel_rfl) (fun _ _ _ h => h) (Or.inl ⟨by rfl, ?_⟩) hHeld ?_ ?_
      rotate_left
      · rintro w' ⟨s0, s1, s2, s3⟩
        go_simp
        with_reducible rfl
      rotate_left
      · simp only [Act.put, List.setIfInBounds_toArray, List.set_cons_zero, List.set_cons_succ, i64_w, i32_w]
        rfl
      refine one_ (i := 1) (N := some 21) (mb 6 7) rfl rfl (by kernel_rfl) (by decide) (fun K hK => ?_)
      refine gA Try.func34 #[.slice A0 l0.length c0] ?_
      with_reducible refine (laws_toPathS.calls k _ _ l0 t846 _ ?side1 ?side2 A11.out).mono ?_
      (case side1 => exact cB HR0)
      (case side2 => exact HC0.out)
      rintro e w28 ⟨v847, rfl, ho0, hb⟩
      refine ⟨_, rfl, ?_⟩
      have HO848 := Aside0.mk (Kd.R_lower ho0 (below_size bG))
      replace BK843 := Aside0.mk (blk_below (g := gb843) (bK BK843) hb)
      replace HB := Aside0.mk (below_step bG hb)
      (try clear hb)
      (try clear hb2)
      (try clear hk)
      (try clear hi)
      (try clear ho0)
      refine hK.out _ _ ⟨(blk_cell BK843.out 0).trans rfl, (blk_cell BK843.out 1).trans rfl, (blk_cell BK843.out 2).trans rfl, (blk_cell BK843.out 3).trans rfl⟩ (fun hHeld => ?_)
      clear hK K
      refine nA ?_
      refine one_ (i := 3) (N := some 23) (mb 6 15) rfl rfl (by kernel_rfl) (by decide) (fun K hK => ?_)
      refine gA Try.func56 #[.agg #[.slice A1_0 l1_0.length c1_0, .int .i64 a1_1, .slice A1_2 l1_2.length c1_2, .int .i64 a1_3]] ?_
      with_reducible refine (laws_toControl.calls k _ _ l1_0 a1_1 _ _ l1_2 a1_3 t849 t852 t853 t856 _ ?side1 ?side2 ?side3 ?side4 A12.out).mono ?_
      (case side1 => exact cB HR1_0)
      (case side2 => exact HC1_0.out)
      (case side3 => exact cB HR1_2)
      (case side4 => exact HC1_2.out)
      rintro e w29 ⟨v850, v854, rfl, ho0, ho1, hb⟩
      refine ⟨_, rfl, ?_⟩
      replace HO848 := Aside0.mk (Kd.R_below (rK HO848) hb)
      have HO851 := Aside0.mk (Kd.R_lower ho0 (below_size bG))
      have HO855 := Aside0.mk (Kd.R_lower ho1 (below_size bG))
      replace BK843 := Aside0.mk (blk_below (g := gb843) (bK BK843) hb)
      replace HB := Aside0.mk (below_step bG hb)
      (try clear hb)
      (try clear hb2)
      (try clear hk)
      (try clear hi)
      (try clear ho0)
      (try clear ho1)
      obtain ⟨Ao30, co30, eo30⟩ := Kd.R_slice HO848.out
      (first | subst eo30 | (injection eo30 with f1_ f2_ f3_; have f4_ := f1_.symm; have f5_ := f3_.symm; clear f1_ f2_ f3_; subst f4_; subst f5_))
      obtain ⟨Ao31, co31, eo31⟩ := Kd.R_slice HO851.out
      (first | subst eo31 | (injection eo31 with f1_ f2_ f3_; have f4_ := f1_.symm; have f5_ := f3_.symm; clear f1_ f2_ f3_; subst f4_; subst f5_))
      obtain ⟨Ao32, co32, eo32⟩ := Kd.R_slice HO855.out
      (first | subst eo32 | (injection eo32 with f1_ f2_ f3_; have f4_ := f1_.symm; have f5_ := f3_.symm; clear f1_ f2_ f3_; subst f4_; subst f5_))
      refine hK.out _ _ ⟨(blk_cell BK843.out 0).trans rfl, (blk_cell BK843.out 1).trans rfl, (blk_cell BK843.out 2).trans rfl, (blk_cell BK843.out 3).trans rfl⟩ (fun hHeld => ?_)
      clear hK K
      refine nA ?_
      refine one_ (i := 4) (N := some 24) (mb 6 31) rfl rfl (by kernel_rfl) (by decide) (fun K hK => ?_)
      refine gA Try.func59 #[.slice Ao30 t846.length co30, .agg #[.slice Ao31 t849.length co31, .int .i64 t852, .slice Ao32 t853.length co32, .int .i64 t856]] ?_
      with_reducible refine (spec_CanEnd.calls k _ _ t846 _ _ t849 t852 _ _ t853 t856 t857 _ ?side1 ?side2 ?side3 ?side4 ?side5 ?side6 A13.out).mono ?_
      (case side1 => exact cO ⟨(Kd.R_reads' HO848.out).2.2⟩)
      (case side2 => exact (Kd.R_reads' HO848.out).2.1)
      (case side3 => exact cO ⟨(Kd.R_reads' HO851.out).2.2⟩)
      (case side4 => exact (Kd.R_reads' HO851.out).2.1)
      (case side5 => exact cO ⟨(Kd.R_reads' HO855.out).2.2⟩)
      (case side6 => exact (Kd.R_reads' HO855.out).2.1)
      rintro e w33 ⟨rfl, hb⟩
      refine ⟨_, rfl, ?_⟩
      replace HO848 := Aside0.mk (Kd.R_below (rK HO848) hb)
      replace HO851 := Aside0.mk (Kd.R_below (rK HO851) hb)
      replace HO855 := Aside0.mk (Kd.R_below (rK HO855) hb)
      replace BK843 := Aside0.mk (blk_below (g := gb843) (bK BK843) hb)
      replace HB := Aside0.mk (below_step bG hb)
      (try clear hb)
      (try clear hb2)
      (try clear hk)
      (try clear hi)
      refine hK.out _ _ ⟨(blk_cell BK843.out 0).trans rfl, (blk_cell BK843.out 1).trans rfl, (blk_cell BK843.out 2).trans rfl, (blk_cell BK843.out 3).trans rfl⟩ (fun hHeld => ?_)
      clear hK K
      refine nA ?_
      refine pure_ (i := 5) (N := some 6) (v := ?_) (a' := ?_) (mb 6 63) rfl rfl (by kernel_rfl) (fun _ _ _ h => h) (Or.inl ⟨by rfl, ?_⟩) ?_ ?_
      rotate_left
      · intro w'
        go_simp
        with_reducible rfl
      rotate_left
      · simp only [Act.put, List.setIfInBounds_toArray, List.set_cons_zero, List.set_cons_succ, i64_w, i32_w]
        rfl
      refine done_ (by kernel_rfl) ?_
      try go_wp2_with (first | ((with_reducible refine gate_callee (f := 34) rfl ?_); refine gL (some 26) Try.func34 #[.slice A0 l0.length c0] ?_; (with_reducible refine (laws_toPathS.calls k _ _ l0 t858 _ ?side1 ?side2 A14.out).mono ?_); (case side1 => exact cB HR0); (case side2 => exact HC0.out); rintro e w34 ⟨v859, rfl, ho0, hb⟩; refine ⟨_, rfl, ?_⟩; replace HO851 := Aside0.mk (Kd.R_below (rK HO851) hb); replace HO855 := Aside0.mk (Kd.R_below (rK HO855) hb); have HO860 := Aside0.mk (Kd.R_lower (Kd.R_new' ho0 (Kd.R_lt (rK HO848))) (below_size bG)); replace HO848 := Aside0.mk (Kd.R_elder' (rK HO848) (Kd.R_base ho0) hb); replace BK843 := Aside0.mk (blk_below (g := gb843) (bK BK843) hb); replace HB := Aside0.mk (below_step bG hb); (try clear hb); (try clear hb2); (try clear hk); (try clear hi); (try clear ho0); have hcz35_0 : w34.cell? ⟨gb843, 0, none⟩ = some (.slice A1_0 l1_0.length c1_0) := (blk_cell BK843.out 0).trans rfl; have hcz35_1 : w34.cell? ⟨gb843, 1, none⟩ = some (.int .i64 a1_1) := (blk_cell BK843.out 1).trans rfl; have hcz35_2 : w34.cell? ⟨gb843, 2, none⟩ = some (.slice A1_2 l1_2.length c1_2) := (blk_cell BK843.out 2).trans rfl; have hcz35_3 : w34.cell? ⟨gb843, 3, none⟩ = some (.int .i64 a1_3) := (blk_cell BK843.out 3).trans rfl; have hfz35_0 := blk_frozen BK843.out 0; have hfz35_1 := blk_frozen BK843.out 1; have hfz35_2 := blk_frozen BK843.out 2; have hfz35_3 := blk_frozen BK843.out 3) | ((with_reducible refine gate_callee (f := 56) rfl ?_); refine gL (some 28) Try.func56 #[.agg #[.slice A1_0 l1_0.length c1_0, .int .i64 a1_1, .slice A1_2 l1_2.length c1_2, .int .i64 a1_3]] ?_; (with_reducible refine (laws_toControl.calls k _ _ l1_0 a1_1 _ _ l1_2 a1_3 t861 t864 t865 t868 _ ?side1 ?side2 ?side3 ?side4 A15.out).mono ?_); (case side1 => exact cB HR1_0); (case side2 => exact HC1_0.out); (case side3 => exact cB HR1_2); (case side4 => exact HC1_2.out); rintro e w36 ⟨v862, v866, rfl, ho0, ho1, hb⟩; refine ⟨_, rfl, ?_⟩; replace HO848 := Aside0.mk (Kd.R_below (rK HO848) hb); replace HO860 := Aside0.mk (Kd.R_below (rK HO860) hb); have HO863 := Aside0.mk (Kd.R_lower (Kd.R_new' (Kd.R_new' ho0 (Kd.R_lt (rK HO851))) (Kd.R_lt (rK HO855))) (below_size bG)); have HO867 := Aside0.mk (Kd.R_lower (Kd.R_new' (Kd.R_new' ho1 (Kd.R_lt (rK HO851))) (Kd.R_lt (rK HO855))) (below_size bG)); replace HO851 := Aside0.mk (Kd.R_mono (Kd.R_told (Kd.R_told (Kd.R_old (rK HO851) hb) (Kd.R_base ho0)) (Kd.R_base ho1)) (fun _ h_ => h_.1)); replace HO855 := Aside0.mk (Kd.R_mono (Kd.R_told (Kd.R_told (Kd.R_old (rK HO855) hb) (Kd.R_base ho0)) (Kd.R_base ho1)) (fun _ h_ => h_.1)); replace BK843 := Aside0.mk (blk_below (g := gb843) (bK BK843) hb); replace HB := Aside0.mk (below_step bG hb); (try clear hb); (try clear hb2); (try clear hk); (try clear hi); (try clear ho0); (try clear ho1)) | ((with_reducible refine gate_dst (N := 8) rfl ?_); refine bE (N := 8) (cs := #[.slice none 0 0, .int .i64 0, .slice none 0 0, .int .i64 0]) (t := 70) ?_; intro gb869 hg w37 hbox hb; have n0_ := Aside0.mk (Kd.R_below (rK HO848) hb); have n1_ := Aside0.mk (Kd.R_below (rK HO851) hb); have n2_ := Aside0.mk (Kd.R_below (rK HO855) hb); have n3_ := Aside0.mk (Kd.R_below (rK HO860) hb); have n4_ := Aside0.mk (Kd.R_below (rK HO863) hb); have n5_ := Aside0.mk (Kd.R_below (rK HO867) hb); have n6_ := Aside0.mk (blk_below (g := gb843) (bK BK843) hb); have n7_ := Aside0.mk (below_step bG hb); have n8_ := Aside0.mk (hbox); have n9_ := Aside0.mk ((by rw [hg]; exact (below_size bG) : w.heap.size ≤ gb869)); have n10_ := Aside0.mk ((by rw [hg]; exact (below_size bG) : w.heap.size ≤ gb869)); have n11_ := Aside0.mk ((by rw [hg]; exact Nat.ne_of_lt (blk_lt (g := gb843) (o := .cells #[.slice A1_0 l1_0.length c1_0, .int .i64 a1_1, .slice A1_2 l1_2.length c1_2, .int .i64 a1_3] 67 (0, 0)) (bK BK843)) : gb843 ≠ gb869)); have n12_ := Aside0.mk ((by rw [hg]; exact Nat.ne_of_gt (blk_lt (g := gb843) (o := .cells #[.slice A1_0 l1_0.length c1_0, .int .i64 a1_1, .slice A1_2 l1_2.length c1_2, .int .i64 a1_3] 67 (0, 0)) (bK BK843)) : gb869 ≠ gb843)); clear HO848; clear HO851; clear HO855; clear HO860; clear HO863; clear HO867; clear BK843; clear HB; have HO848 := n0_; have HO851 := n1_; have HO855 := n2_; have HO860 := n3_; have HO863 := n4_; have HO867 := n5_; have BK843 := n6_; have HB := n7_; have BK869 := n8_; have GW869 := n9_; have GE869 := n10_; have NB843_869 := n11_; have NB869_843 := n12_; clear n0_ n1_ n2_ n3_ n4_ n5_ n6_ n7_ n8_ n9_ n10_ n11_ n12_; clear hb hbox hg; obtain ⟨Ao38, co38, eo38⟩ := Kd.R_slice HO863.out; subst eo38; have hnb39 := NB869_843.out; have hnc39 := NB843_869.out; obtain ⟨hcz40_0, hcz40_1, hcz40_2, hcz40_3, hfz40_0, hfz40_1, hfz40_2, hfz40_3⟩ := blkc4 BK869; obtain ⟨Ao41, co41, eo41⟩ := Kd.R_slice HO867.out; subst eo41; obtain ⟨Ao42, co42, eo42⟩ := Kd.R_slice HO860.out; subst eo42) | ((with_reducible refine gate_callee (f := 60) rfl ?_); refine gL (some 31) Try.func60 #[.slice Ao42 t858.length co42, .agg #[.slice Ao38 t861.length co38, .int .i64 t864, .slice Ao41 t865.length co41, .int .i64 t868]] ?_; (with_reducible refine (impl_CanEnd.calls k _ _ t858 _ _ t861 t864 _ _ t865 t868 t870 _ ?side1 ?side2 ?side3 ?side4 ?side5 ?side6 A16.out).mono ?_); (case side1 => refine (Kd.R_reads' (e := 90) (base := w.heap.size) (ok := fun k_ => (True ∧ some k_ ≠ (.slice Ao30 t846.length co30 : Value).ownBlock)) (n := t858.length) (c := co42) ?_).2.2; exact (by (with_reducible repeat (first | apply Kd.R_alloc | apply Kd.R_drewN | apply Kd.R_drew)); exact (Kd.R_mono (Kd.R_far (p := ⟨gb869, 3, none⟩) (Kd.R_far (p := ⟨gb869, 2, none⟩) (Kd.R_far (p := ⟨gb869, 1, none⟩) (Kd.R_far (p := ⟨gb869, 0, none⟩) (Kd.R_types HO860.out BK869.out (by decide)) (fun _ hk => hk.2) (.slice Ao38 t861.length co38)) (fun _ hk => hk.2) (.int .i64 t864)) (fun _ hk => hk.2) (.slice Ao41 t865.length co41)) (fun _ hk => hk.2) (.int .i64 t868)) (fun _ h_ => h_.1)))); (case side2 => exact (Kd.R_reads' HO860.out).2.1); (case side3 => refine (Kd.R_reads' (e := 3) (base := w.heap.size) (ok := fun k_ => ((some k_ ≠ (.slice Ao41 t865.length co41 : Value).ownBlock ∧ some k_ ≠ (.slice Ao31 t849.length co31 : Value).ownBlock) ∧ some k_ ≠ (.slice Ao32 t853.length co32 : Value).ownBlock)) (n := t861.length) (c := co38) ?_).2.2; exact (by (with_reducible repeat (first | apply Kd.R_alloc | apply Kd.R_drewN | apply Kd.R_drew)); exact (Kd.R_mono (Kd.R_far (p := ⟨gb869, 3, none⟩) (Kd.R_far (p := ⟨gb869, 2, none⟩) (Kd.R_far (p := ⟨gb869, 1, none⟩) (Kd.R_far (p := ⟨gb869, 0, none⟩) (Kd.R_types HO863.out BK869.out (by decide)) (fun _ hk => hk.2) (.slice Ao38 t861.length co38)) (fun _ hk => hk.2) (.int .i64 t864)) (fun _ hk => hk.2) (.slice Ao41 t865.length co41)) (fun _ hk => hk.2) (.int .i64 t868)) (fun _ h_ => h_.1)))); (case side4 => exact (Kd.R_reads' HO863.out).2.1); (case side5 => refine (Kd.R_reads' (e := 3) (base := w.heap.size) (ok := fun k_ => ((some k_ ≠ (.slice Ao38 t861.length co38 : Value).ownBlock ∧ some k_ ≠ (.slice Ao31 t849.length co31 : Value).ownBlock) ∧ some k_ ≠ (.slice Ao32 t853.length co32 : Value).ownBlock)) (n := t865.length) (c := co41) ?_).2.2; exact (by (with_reducible repeat (first | apply Kd.R_alloc | apply Kd.R_drewN | apply Kd.R_drew)); exact (Kd.R_mono (Kd.R_far (p := ⟨gb869, 3, none⟩) (Kd.R_far (p := ⟨gb869, 2, none⟩) (Kd.R_far (p := ⟨gb869, 1, none⟩) (Kd.R_far (p := ⟨gb869, 0, none⟩) (Kd.R_types HO867.out BK869.out (by decide)) (fun _ hk => hk.2) (.slice Ao38 t861.length co38)) (fun _ hk => hk.2) (.int .i64 t864)) (fun _ hk => hk.2) (.slice Ao41 t865.length co41)) (fun _ hk => hk.2) (.int .i64 t868)) (fun _ h_ => h_.1)))); (case side6 => exact (Kd.R_reads' HO867.out).2.1); rintro e w43 ⟨rfl, hb⟩; refine ⟨_, rfl, ?_⟩; have n0_ := Aside0.mk (Kd.R_below (by (with_reducible repeat (first | apply Kd.R_alloc | apply Kd.R_drewN | apply Kd.R_drew)); exact (Kd.R_mono (Kd.R_far (p := ⟨gb869, 3, none⟩) (Kd.R_far (p := ⟨gb869, 2, none⟩) (Kd.R_far (p := ⟨gb869, 1, none⟩) (Kd.R_far (p := ⟨gb869, 0, none⟩) (Kd.R_types HO848.out BK869.out (by decide)) (fun _ hk => hk.2) (.slice Ao38 t861.length co38)) (fun _ hk => hk.2) (.int .i64 t864)) (fun _ hk => hk.2) (.slice Ao41 t865.length co41)) (fun _ hk => hk.2) (.int .i64 t868)) (fun _ h_ => h_.1))) hb); have n1_ := Aside0.mk (Kd.R_below (by (with_reducible repeat (first | apply Kd.R_alloc | apply Kd.R_drewN | apply Kd.R_drew)); exact (Kd.R_mono (Kd.R_far (p := ⟨gb869, 3, none⟩) (Kd.R_far (p := ⟨gb869, 2, none⟩) (Kd.R_far (p := ⟨gb869, 1, none⟩) (Kd.R_far (p := ⟨gb869, 0, none⟩) (Kd.R_types HO851.out BK869.out (by decide)) (fun _ hk => hk.2) (.slice Ao38 t861.length co38)) (fun _ hk => hk.2) (.int .i64 t864)) (fun _ hk => hk.2) (.slice Ao41 t865.length co41)) (fun _ hk => hk.2) (.int .i64 t868)) (fun _ h_ => h_.1))) hb); have n2_ := Aside0.mk (Kd.R_below (by (with_reducible repeat (first | apply Kd.R_alloc | apply Kd.R_drewN | apply Kd.R_drew)); exact (Kd.R_mono (Kd.R_far (p := ⟨gb869, 3, none⟩) (Kd.R_far (p := ⟨gb869, 2, none⟩) (Kd.R_far (p := ⟨gb869, 1, none⟩) (Kd.R_far (p := ⟨gb869, 0, none⟩) (Kd.R_types HO855.out BK869.out (by decide)) (fun _ hk => hk.2) (.slice Ao38 t861.length co38)) (fun _ hk => hk.2) (.int .i64 t864)) (fun _ hk => hk.2) (.slice Ao41 t865.length co41)) (fun _ hk => hk.2) (.int .i64 t868)) (fun _ h_ => h_.1))) hb); have n3_ := Aside0.mk (Kd.R_below (by (with_reducible repeat (first | apply Kd.R_alloc | apply Kd.R_drewN | apply Kd.R_drew)); exact (Kd.R_mono (Kd.R_far (p := ⟨gb869, 3, none⟩) (Kd.R_far (p := ⟨gb869, 2, none⟩) (Kd.R_far (p := ⟨gb869, 1, none⟩) (Kd.R_far (p := ⟨gb869, 0, none⟩) (Kd.R_types HO860.out BK869.out (by decide)) (fun _ hk => hk.2) (.slice Ao38 t861.length co38)) (fun _ hk => hk.2) (.int .i64 t864)) (fun _ hk => hk.2) (.slice Ao41 t865.length co41)) (fun _ hk => hk.2) (.int .i64 t868)) (fun _ h_ => h_.1))) hb); have n4_ := Aside0.mk (Kd.R_below (by (with_reducible repeat (first | apply Kd.R_alloc | apply Kd.R_drewN | apply Kd.R_drew)); exact (Kd.R_mono (Kd.R_far (p := ⟨gb869, 3, none⟩) (Kd.R_far (p := ⟨gb869, 2, none⟩) (Kd.R_far (p := ⟨gb869, 1, none⟩) (Kd.R_far (p := ⟨gb869, 0, none⟩) (Kd.R_types HO863.out BK869.out (by decide)) (fun _ hk => hk.2) (.slice Ao38 t861.length co38)) (fun _ hk => hk.2) (.int .i64 t864)) (fun _ hk => hk.2) (.slice Ao41 t865.length co41)) (fun _ hk => hk.2) (.int .i64 t868)) (fun _ h_ => h_.1))) hb); have n5_ := Aside0.mk (Kd.R_below (by (with_reducible repeat (first | apply Kd.R_alloc | apply Kd.R_drewN | apply Kd.R_drew)); exact (Kd.R_mono (Kd.R_far (p := ⟨gb869, 3, none⟩) (Kd.R_far (p := ⟨gb869, 2, none⟩) (Kd.R_far (p := ⟨gb869, 1, none⟩) (Kd.R_far (p := ⟨gb869, 0, none⟩) (Kd.R_types HO867.out BK869.out (by decide)) (fun _ hk => hk.2) (.slice Ao38 t861.length co38)) (fun _ hk => hk.2) (.int .i64 t864)) (fun _ hk => hk.2) (.slice Ao41 t865.length co41)) (fun _ hk => hk.2) (.int .i64 t868)) (fun _ h_ => h_.1))) hb); have n6_ := Aside0.mk (blk_below (g := gb843) (o := .cells #[.slice A1_0 l1_0.length c1_0, .int .i64 a1_1, .slice A1_2 l1_2.length c1_2, .int .i64 a1_3] 67 (0, 0)) (by (with_reducible repeat (first | refine blk_drewN ?_ _ | refine blk_drew ?_ | refine blk_alloc ?_ _)); refine blk_far ?_ NB843_869.out _; (with_reducible repeat (first | refine blk_drewN ?_ _ | refine blk_drew ?_ | refine blk_alloc ?_ _)); refine blk_far ?_ NB843_869.out _; (with_reducible repeat (first | refine blk_drewN ?_ _ | refine blk_drew ?_ | refine blk_alloc ?_ _)); refine blk_far ?_ NB843_869.out _; (with_reducible repeat (first | refine blk_drewN ?_ _ | refine blk_drew ?_ | refine blk_alloc ?_ _)); refine blk_far ?_ NB843_869.out _; (with_reducible repeat (first | refine blk_drewN ?_ _ | refine blk_drew ?_ | refine blk_alloc ?_ _)); exact BK843.out) hb); have n7_ := Aside0.mk (blk_below (g := gb869) (o := .cells #[.slice Ao38 t861.length co38, .int .i64 t864, .slice Ao41 t865.length co41, .int .i64 t868] 70 (0, 0)) (by (with_reducible repeat (first | refine blk_drewN ?_ _ | refine blk_drew ?_ | refine blk_alloc ?_ _)); refine blk_put (cs := #[.slice Ao38 t861.length co38, .int .i64 t864, .slice Ao41 t865.length co41, .int .i64 0]) ?_ 3 _ rfl; (with_reducible repeat (first | refine blk_drewN ?_ _ | refine blk_drew ?_ | refine blk_alloc ?_ _)); refine blk_put (cs := #[.slice Ao38 t861.length co38, .int .i64 t864, .slice none 0 0, .int .i64 0]) ?_ 2 _ rfl; (with_reducible repeat (first | refine blk_drewN ?_ _ | refine blk_drew ?_ | refine blk_alloc ?_ _)); refine blk_put (cs := #[.slice Ao38 t861.length co38, .int .i64 0, .slice none 0 0, .int .i64 0]) ?_ 1 _ rfl; (with_reducible repeat (first | refine blk_drewN ?_ _ | refine blk_drew ?_ | refine blk_alloc ?_ _)); refine blk_put (cs := #[.slice none 0 0, .int .i64 0, .slice none 0 0, .int .i64 0]) ?_ 0 _ rfl; (with_reducible repeat (first | refine blk_drewN ?_ _ | refine blk_drew ?_ | refine blk_alloc ?_ _)); exact BK869.out) hb); have n8_ := Aside0.mk (below_step bG hb); clear HO848; clear HO851; clear HO855; clear HO860; clear HO863; clear HO867; clear BK843; clear BK869; clear HB; have HO848 := n0_; have HO851 := n1_; have HO855 := n2_; have HO860 := n3_; have HO863 := n4_; have HO867 := n5_; have BK843 := n6_; have BK869 := n7_; have HB := n8_; clear n0_ n1_ n2_ n3_ n4_ n5_ n6_ n7_ n8_; (try clear hb); (try clear hb2); (try clear hk); (try clear hi)) | ((with_reducible refine gate_callee (f := 34) rfl ?_); refine gL (some 37) Try.func34 #[.slice A0 l0.length c0] ?_; (with_reducible refine (laws_toPathS.calls k _ _ l0 t871 _ ?side1 ?side2 A18.out).mono ?_); (case side1 => exact cB HR0); (case side2 => exact HC0.out); rintro e w44 ⟨v872, rfl, ho0, hb⟩; refine ⟨_, rfl, ?_⟩; replace HO851 := Aside0.mk (Kd.R_below (rK HO851) hb); replace HO855 := Aside0.mk (Kd.R_below (rK HO855) hb); replace HO863 := Aside0.mk (Kd.R_below (rK HO863) hb); replace HO867 := Aside0.mk (Kd.R_below (rK HO867) hb); have HO873 := Aside0.mk (Kd.R_lower (Kd.R_new' (Kd.R_new' ho0 (Kd.R_lt (rK HO848))) (Kd.R_lt (rK HO860))) (below_size bG)); replace HO848 := Aside0.mk (Kd.R_elder' (rK HO848) (Kd.R_base ho0) hb); replace HO860 := Aside0.mk (Kd.R_elder' (rK HO860) (Kd.R_base ho0) hb); replace BK843 := Aside0.mk (blk_below (g := gb843) (bK BK843) hb); replace BK869 := Aside0.mk (blk_below (g := gb869) (bK BK869) hb); replace HB := Aside0.mk (below_step bG hb); (try clear hb); (try clear hb2); (try clear hk); (try clear hi); (try clear ho0); obtain ⟨Ao45, co45, eo45⟩ := Kd.R_slice HO873.out; subst eo45) | ((with_reducible refine gate_callee (f := 37) rfl ?_); refine gL (some 38) Try.func37 #[.slice Ao42 t858.length co42, .slice Ao45 t871.length co45] ?_; (with_reducible refine (laws_eqPathS.calls k _ _ t858 _ _ t871 true _ ?side1 ?side2 ?side3 ?side4 A19.out).mono ?_); (case side1 => exact cO ⟨(Kd.R_reads' HO860.out).2.2⟩); (case side2 => exact (Kd.R_reads' HO860.out).2.1); (case side3 => exact cO ⟨(Kd.R_reads' HO873.out).2.2⟩); (case side4 => exact (Kd.R_reads' HO873.out).2.1); rintro e w46 ⟨rfl, hb⟩; refine ⟨_, rfl, ?_⟩; replace HO848 := Aside0.mk (Kd.R_below (rK HO848) hb); replace HO851 := Aside0.mk (Kd.R_below (rK HO851) hb); replace HO855 := Aside0.mk (Kd.R_below (rK HO855) hb); replace HO860 := Aside0.mk (Kd.R_below (rK HO860) hb); replace HO863 := Aside0.mk (Kd.R_below (rK HO863) hb); replace HO867 := Aside0.mk (Kd.R_below (rK HO867) hb); replace HO873 := Aside0.mk (Kd.R_below (rK HO873) hb); replace BK843 := Aside0.mk (blk_below (g := gb843) (bK BK843) hb); replace BK869 := Aside0.mk (blk_below (g := gb869) (bK BK869) hb); replace HB := Aside0.mk (below_step bG hb); (try clear hb); (try clear hb2); (try clear hk); (try clear hi)))
      replace HO848 := Aside0.mk (Kd.R_drew HO848.out)
      replace HO851 := Aside0.mk (Kd.R_drew HO851.out)
      replace HO855 := Aside0.mk (Kd.R_drew HO855.out)
      replace HO860 := Aside0.mk (Kd.R_drew HO860.out)
      replace HO863 := Aside0.mk (Kd.R_drew HO863.out)
      replace HO867 := Aside0.mk (Kd.R_drew HO867.out)
      replace HO873 := Aside0.mk (Kd.R_drew HO873.out)
      replace BK843 := Aside0.mk (blk_drew BK843.out)
      replace BK869 := Aside0.mk (blk_drew BK869.out)
      have HBo := HB
      replace HB := Aside0.mk (below_drew1 HB.out)
      refine start_ (n := 5) (S := fun w' => w'.cell? ⟨gb869, 0, none⟩ = some (.slice Ao38 t861.length co38) ∧ w'.cell? ⟨gb869, 1, none⟩ = some (.int .i64 t864) ∧ w'.cell? ⟨gb869, 2, none⟩ = some (.slice Ao41 t865.length co41) ∧ w'.cell? ⟨gb869, 3, none⟩ = some (.int .i64 t868) ∧ w'.cell? ⟨gb843, 0, none⟩ = some (.slice A1_0 l1_0.length c1_0) ∧ w'.cell? ⟨gb843, 1, none⟩ = some (.int .i64 a1_1) ∧ w'.cell? ⟨gb843, 2, none⟩ = some (.slice A1_2 l1_2.length c1_2) ∧ w'.cell? ⟨gb843, 3, none⟩ = some (.int .i64 a1_3)) (ds := []) (mb 5 0) (by kernel_rfl) rfl rfl ⟨(blk_cell BK869.out 0).trans rfl, (blk_cell BK869.out 1).trans rfl, (blk_cell BK869.out 2).trans rfl, (blk_cell BK869.out 3).trans rfl, (blk_cell BK843.out 0).trans rfl, (blk_cell BK843.out 1).trans rfl, (blk_cell BK843.out 2).trans rfl, (blk_cell BK843.out 3).trans rfl⟩ (fun hHeld => ?_)
      generalize w46.drew = w47 at HO848 HO851 HO855 HO860 HO863 HO867 HO873 BK843 BK869 HB hHeld ⊢
      refine take_ (i := 0) (N := some 40) (v := ?_) (a' := ?_) (mb 5 1) rfl rfl (by kernel_rfl) (fun _ _ _ h => h) (Or.inl ⟨by rfl, ?_⟩) hHeld ?_ ?_
      rotate_left
      · rintro w' ⟨s0, s1, s2, s3, s4, s5, s6, s7⟩
        go_simp
        with_reducible rfl
      rotate_left
      · simp only [Act.put, List.setIfInBounds_toArray, List.set_cons_zero, List.set_cons_succ, i64_w, i32_w]
        rfl
      refine take_ (i := 1) (N := some 41) (v := ?_) (a' := ?_) (mb 5 3) rfl rfl (by kernel_rfl) (fun _ _ _ h => h) (Or.inl ⟨by rfl, ?_⟩) hHeld ?_ ?_
      rotate_left
      · rintro w' ⟨s0, s1, s2, s3, s4, s5, s6, s7⟩
        go_simp
        with_reducible rfl
      rotate_left
      · simp only [Act.put, List.setIfInBounds_toArray, List.set_cons_zero, List.set_cons_succ, i64_w, i32_w]
        rfl
      refine one_ (i := 2) (N := some 42) (mb 5 7) rfl rfl (by kernel_rfl) (by decide) (fun K hK => ?_)
      refine gA Try.func56 #[.agg #[.slice A1_0 l1_0.length c1_0, .int .i64 a1_1, .slice A1_2 l1_2.length c1_2, .int .i64 a1_3]] ?_
      with_reducible refine (laws_toControl.calls k _ _ l1_0 a1_1 _ _ l1_2 a1_3 t875 t878 t879 t882 _ ?side1 ?side2 ?side3 ?side4 A21.out).mono ?_
      (case side1 => exact cB HR1_0)
      (case side2 => exact HC1_0.out)
      (case side3 => exact cB HR1_2)
      (case side4 => exact HC1_2.out)
      rintro e w48 ⟨v876, v880, rfl, ho0, ho1, hb⟩
      refine ⟨_, rfl, ?_⟩
      replace HO848 := Aside0.mk (Kd.R_below (rK HO848) hb)
      replace HO860 := Aside0.mk (Kd.R_below (rK HO860) hb)
      replace HO873 := Aside0.mk (Kd.R_below (rK HO873) hb)
      have HO877 := Aside0.mk (Kd.R_lower (Kd.R_new' (Kd.R_new' (Kd.R_new' (Kd.R_new' ho0 (Kd.R_lt (rK HO851))) (Kd.R_lt (rK HO855))) (Kd.R_lt (rK HO863))) (Kd.R_lt (rK HO867))) (below_size bG))
      have HO881 := Aside0.mk (Kd.R_lower (Kd.R_new' (Kd.R_new' (Kd.R_new' (Kd.R_new' ho1 (Kd.R_lt (rK HO851))) (Kd.R_lt (rK HO855))) (Kd.R_lt (rK HO863))) (Kd.R_lt (rK HO867))) (below_size bG))
      replace HO851 := Aside0.mk (Kd.R_mono (Kd.R_told (Kd.R_told (Kd.R_old (rK HO851) hb) (Kd.R_base ho0)) (Kd.R_base ho1)) (fun _ h_ => h_.1))
      replace HO855 := Aside0.mk (Kd.R_mono (Kd.R_told (Kd.R_told (Kd.R_old (rK HO855) hb) (Kd.R_base ho0)) (Kd.R_base ho1)) (fun _ h_ => h_.1))
      replace HO863 := Aside0.mk (Kd.R_mono (Kd.R_told (Kd.R_told (Kd.R_old (rK HO863) hb) (Kd.R_base ho0)) (Kd.R_base ho1)) (fun _ h_ => h_.1))
      replace HO867 := Aside0.mk (Kd.R_mono (Kd.R_told (Kd.R_told (Kd.R_old (rK HO867) hb) (Kd.R_base ho0)) (Kd.R_base ho1)) (fun _ h_ => h_.1))
      replace BK843 := Aside0.mk (blk_below (g := gb843) (bK BK843) hb)
      replace BK869 := Aside0.mk (blk_below (g := gb869) (bK BK869) hb)
      replace HB := Aside0.mk (below_step bG hb)
      (try clear hb)
      (try clear hb2)
      (try clear hk)
      (try clear hi)
      (try clear ho0)
      (try clear ho1)
      obtain ⟨Ao49, co49, eo49⟩ := Kd.R_slice HO877.out
      (first | subst eo49 | (injection eo49 with f1_ f2_ f3_; have f4_ := f1_.symm; have f5_ := f3_.symm; clear f1_ f2_ f3_; subst f4_; subst f5_))
      obtain ⟨Ao50, co50, eo50⟩ := Kd.R_slice HO881.out
      (first | subst eo50 | (injection eo50 with f1_ f2_ f3_; have f4_ := f1_.symm; have f5_ := f3_.symm; clear f1_ f2_ f3_; subst f4_; subst f5_))
      refine hK.out _ _ ⟨(blk_cell BK869.out 0).trans rfl, (blk_cell BK869.out 1).trans rfl, (blk_cell BK869.out 2).trans rfl, (blk_cell BK869.out 3).trans rfl, (blk_cell BK843.out 0).trans rfl, (blk_cell BK843.out 1).trans rfl, (blk_cell BK843.out 2).trans rfl, (blk_cell BK843.out 3).trans rfl⟩ (fun hHeld => ?_)
      clear hK K
      refine nA ?_
      refine one_ (i := 3) (N := some 43) (mb 5 15) rfl rfl (by kernel_rfl) (by decide) (fun K hK => ?_)
      refine gA Try.func58 #[.agg #[.slice Ao38 t861.length co38, .int .i64 t864, .slice Ao41 t865.length co41, .int .i64 t868], .agg #[.slice Ao49 t875.length co49, .int .i64 t878, .slice Ao50 t879.length co50, .int .i64 t882]] ?_
      with_reducible refine (laws_eqControl.calls k _ _ t861 t864 _ _ t865 t868 _ _ t875 t878 _ _ t879 t882 true _ ?side1 ?side2 ?side3 ?side4 ?side5 ?side6 ?side7 ?side8 A22.out).mono ?_
      (case side1 => exact cO ⟨(Kd.R_reads' HO863.out).2.2⟩)
      (case side2 => exact (Kd.R_reads' HO863.out).2.1)
      (case side3 => exact cO ⟨(Kd.R_reads' HO867.out).2.2⟩)
      (case side4 => exact (Kd.R_reads' HO867.out).2.1)
      (case side5 => exact cO ⟨(Kd.R_reads' HO877.out).2.2⟩)
      (case side6 => exact (Kd.R_reads' HO877.out).2.1)
      (case side7 => exact cO ⟨(Kd.R_reads' HO881.out).2.2⟩)
      (case side8 => exact (Kd.R_reads' HO881.out).2.1)
      rintro e w51 ⟨rfl, hb⟩
      refine ⟨_, rfl, ?_⟩
      replace HO848 := Aside0.mk (Kd.R_below (rK HO848) hb)
      replace HO851 := Aside0.mk (Kd.R_below (rK HO851) hb)
      replace HO855 := Aside0.mk (Kd.R_below (rK HO855) hb)
      replace HO860 := Aside0.mk (Kd.R_below (rK HO860) hb)
      replace HO863 := Aside0.mk (Kd.R_below (rK HO863) hb)
      replace HO867 := Aside0.mk (Kd.R_below (rK HO867) hb)
      replace HO873 := Aside0.mk (Kd.R_below (rK HO873) hb)
      replace HO877 := Aside0.mk (Kd.R_below (rK HO877) hb)
      replace HO881 := Aside0.mk (Kd.R_below (rK HO881) hb)
      replace BK843 := Aside0.mk (blk_below (g := gb843) (bK BK843) hb)
      replace BK869 := Aside0.mk (blk_below (g := gb869) (bK BK869) hb)
      replace HB := Aside0.mk (below_step bG hb)
      (try clear hb)
      (try clear hb2)
      (try clear hk)
      (try clear hi)
      refine hK.out _ _ ⟨(blk_cell BK869.out 0).trans rfl, (blk_cell BK869.out 1).trans rfl, (blk_cell BK869.out 2).trans rfl, (blk_cell BK869.out 3).trans rfl, (blk_cell BK843.out 0).trans rfl, (blk_cell BK843.out 1).trans rfl, (blk_cell BK843.out 2).trans rfl, (blk_cell BK843.out 3).trans rfl⟩ (fun hHeld => ?_)
      clear hK K
      refine nA ?_
      refine pure_ (i := 4) (N := some 44) (v := ?_) (a' := ?_) (mb 5 31) rfl rfl (by kernel_rfl) (fun _ _ _ h => h) (Or.inl ⟨by rfl, ?_⟩) ?_ ?_
      rotate_left
      · intro w'
        go_simp
        with_reducible rfl
      rotate_left
      · simp only [Act.put, List.setIfInBounds_toArray, List.set_cons_zero, List.set_cons_succ, i64_w, i32_w]
        rfl
      refine done_ (by kernel_rfl) ?_
      try go_wp2
      go_ret
      exact ⟨rA, bG⟩

end Go.Proofs.Ytimmadeghcghoaa.P
