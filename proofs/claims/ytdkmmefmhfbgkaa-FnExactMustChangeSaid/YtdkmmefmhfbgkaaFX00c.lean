/- Printed by myprint.py (wip/tools) over the kit's print: what Go's functions compute, and that they do. Lean checks it. -/
import Derived.Test.YtdkmmefmhfbgkaaF0
import Derived.Test.YtdkmmefmhfbgkaaFX00
import Derived.Test.YtdkmmefmhfbgkaaFX00b
namespace Go.Proofs.Ytdkmmefmhfbgkaa.P
open Go.RowKit Go.Proofs.YtdkmmefmhfbgkaaW.PrintWords Go.Proofs.YtdkmmefmhfbgkaaW.PrintLast Go.Proofs.YtdkmmefmhfbgkaaW.PrintMore Go.Proofs.Ytdkmmefmhfbgkaa.Sq
attribute [local go_sem] max2_int min2_int max_two min_two max_three min_three max_four min_four
set_option linter.unusedVariables false
set_option linter.unusedSimpArgs false

/-! ### spec_NextStage: function 47 -/
def spec_NextStage.f (k : Nat) (l0 : List (S89)) (l1_0 : List Int) (a1_1 : Int) (l1_2 : List Int) (a1_3 : Int) (l2 : List (S115)) : Option (List Int) := (spec_LongestWant.f k l2 l1_0).bind fun t301 => (if t301 = 0 then (some (([] : List Int))) else ((spec_IsControl.f k l0 l1_0 a1_1 l1_2 a1_3).bind fun t305 => (if t305 = true then ((spec_AreWants.f k l0 l2).bind fun t306 => (if t306 = true then ((spec_AddToStage.f k l0 (([t301] : List Int))).bind fun t310 => (some t310)) else (some (([] : List Int))))) else (some (([] : List Int))))))
theorem spec_NextStage.mono : ∀ a0 a1 a2 a3 a4 a5 k, LeO (spec_NextStage.f k a0 a1 a2 a3 a4 a5) (spec_NextStage.f (k + 1) a0 a1 a2 a3 a4 a5) := by
 intro a0 a1 a2 a3 a4 a5 k
 unfold spec_NextStage.f
 repeat' first | (with_reducible first | exact LeO.refl _ | exact LeO.none _ | refine LeO.ite ?_ ?_ | refine LeO.bind ?_ (fun _ => ?_) | exact spec_AddToStage.mono _ _ _ | exact spec_AreWants.mono _ _ _ | exact spec_IsControl.mono _ _ _ _ _ _ | exact spec_LongestWant.mono _ _ _)
set_option maxHeartbeats 8000000 in
set_option maxRecDepth 100000 in
theorem spec_NextStage.calls (k : Nat) (A0 : Option Addr) (c0 : Nat) (l0 : List (S89)) (A1_0 : Option Addr) (c1_0 : Nat) (l1_0 : List Int) (a1_1 : Int) (A1_2 : Option Addr) (c1_2 : Nat) (l1_2 : List Int) (a1_3 : Int) (A2 : Option Addr) (c2 : Nat) (l2 : List (S115)) (r : List Int) (w : World) (hr0 : Kd.C k89 w A0 l0.length l0) (hc0 : l0.length ≤ c0) (hr1_0 : Kd.C (Kd.int .i64) w A1_0 l1_0.length l1_0) (hc1_0 : l1_0.length ≤ c1_0) (hr1_2 : Kd.C (Kd.int .i64) w A1_2 l1_2.length l1_2) (hc1_2 : l1_2.length ≤ c1_2) (hr2 : Kd.C k115 w A2 l2.length l2) (hc2 : l2.length ≤ c2) (h : spec_NextStage.f k l0 l1_0 a1_1 l1_2 a1_3 l2 = some r) :
  Calls Try.prog 47 #[.slice A0 l0.length c0, .agg #[.slice A1_0 l1_0.length c1_0, .int .i64 a1_1, .slice A1_2 l1_2.length c1_2, .int .i64 a1_3], .slice A2 l2.length c2] w fun e w' => ∃ v0_ : Value, e = .returned (v0_) ∧ Kd.R (Kd.int .i64) 3 w' w.heap.size (fun _ => True) v0_ r ∧ Below w.heap.size w w' := by
 have hu57 := Try.underlying57
 have HR0 := Aside0.mk hr0
 have HC0 := Aside0.mk hc0
 clear hr0 hc0
 have HR1_0 := Aside0.mk hr1_0
 have HC1_0 := Aside0.mk hc1_0
 clear hr1_0 hc1_0
 have HR1_2 := Aside0.mk hr1_2
 have HC1_2 := Aside0.mk hc1_2
 clear hr1_2 hc1_2
 have HR2 := Aside0.mk hr2
 have HC2 := Aside0.mk hc2
 clear hr2 hc2
 have HB := Aside0.mk (Below.refl w.heap.size w)
 have H : ((spec_LongestWant.f k l2 l1_0).bind fun t301 => (if t301 = 0 then (some (([] : List Int))) else ((spec_IsControl.f k l0 l1_0 a1_1 l1_2 a1_3).bind fun t305 => (if t305 = true then ((spec_AreWants.f k l0 l2).bind fun t306 => (if t306 = true then ((spec_AddToStage.f k l0 (([t301] : List Int))).bind fun t310 => (some t310)) else (some (([] : List Int))))) else (some (([] : List Int))))))) = some r := h
 clear h
 obtain ⟨t301, A4, H⟩ := bindE H
 try dsimp only at H
 by_cases c5 : t301 = 0
 ·
  rw [if_pos c5] at H
  have c5b0 : (t301 == 0) = true := beq_iff_eq.mpr c5
  have c5b1 : (t301 != 0) = false := bne_eq_false_iff_eq.mpr c5
  clear c5
  obtain ⟨y302, hy302⟩ : ∃ y_ : List Int, y_ = (([] : List Int)) := ⟨_, rfl⟩
  replace H : (some y302) = some r := by first | (rw [hy302]; with_reducible exact H) | (have H2_ := (Option.bind_some _ _).symm.trans H; rw [hy302]; with_reducible exact H2_) | (have H2_ := (Option.bind_some _ _).symm.trans H; with_reducible exact H2_) | with_reducible exact H | (rw [hy302]; exact H) | exact H
  have Ny302 := Aside0.mk hy302
  clear hy302
  obtain rfl := Option.some.inj H
  go_enter Try.func47, Try.ntmps47
  go_wp2_with (first | ((with_reducible refine gate_dst (N := 4) rfl ?_); refine bE (N := 4) (cs := #[.slice A1_0 l1_0.length c1_0, .int .i64 a1_1, .slice A1_2 l1_2.length c1_2, .int .i64 a1_3]) (t := 57) ?_; intro gb300 hg w6 hbox hb; have n0_ := Aside0.mk (below_step bA hb); have n1_ := Aside0.mk (hbox); have n2_ := Aside0.mk ((by rw [hg]; exact (below_size bA) : w.heap.size ≤ gb300)); have n3_ := Aside0.mk ((by rw [hg]; exact (below_size bA) : w.heap.size ≤ gb300)); clear HB; have HB := n0_; have BK300 := n1_; have GW300 := n2_; have GE300 := n3_; clear n0_ n1_ n2_ n3_; clear hb hbox hg; have hcz7_0 : w6.cell? ⟨gb300, 0, none⟩ = some (.slice A1_0 l1_0.length c1_0) := bC BK300 0; have hcz7_1 : w6.cell? ⟨gb300, 1, none⟩ = some (.int .i64 a1_1) := bC BK300 1; have hcz7_2 : w6.cell? ⟨gb300, 2, none⟩ = some (.slice A1_2 l1_2.length c1_2) := bC BK300 2; have hcz7_3 : w6.cell? ⟨gb300, 3, none⟩ = some (.int .i64 a1_3) := bC BK300 3; have hfz7_0 := blk_frozen BK300.out 0; have hfz7_1 := blk_frozen BK300.out 1; have hfz7_2 := blk_frozen BK300.out 2; have hfz7_3 := blk_frozen BK300.out 3) | ((with_reducible refine gate_callee (f := 91) rfl ?_); refine gL (some 11) Try.func91 #[.slice A2 l2.length c2, .slice A1_0 l1_0.length c1_0] ?_; (with_reducible refine (spec_LongestWant.calls k _ _ l2 _ _ l1_0 t301 _ ?side1 ?side2 ?side3 ?side4 A4.out).mono ?_); (case side1 => exact cB HR2); (case side2 => exact HC2.out); (case side3 => exact cB HR1_0); (case side4 => exact HC1_0.out); rintro e w' ⟨rfl, ⟨nd, rfl⟩⟩; refine ⟨_, rfl, ?_⟩) | ((with_reducible refine gate_dst (N := 26) rfl ?_); refine Kd.R_lit (Kd.int .i64) _ 3 ?hg (N := 26) ?hd (xs := ([] : List Int)) (inner := []) (ok := fun _ => True) (okp := fun _ => True) ?hr ?hp (fun _ hk => hk) trivial (Below.refl _ _) (Nat.le_refl _) (by simp) ?_; (case hd => rfl); (case hg => rfl); (case hr => first | (go_simp; done) | (go_simp; rfl)); (case hp => exact (Reps.none _ _)); intro v303 w8 ho9 hb hg_ hnew_; clear hg_ hnew_; (first | rw [← Ny302.out] at ho9 | (simp only [Int.reduceToNat] at ho9; rw [← Ny302.out] at ho9)); have HO304 := Aside0.mk (Kd.R_lower ho9 (below_size bG)); replace BK300 := Aside0.mk (blk_below (g := gb300) (bK BK300) hb); replace HB := Aside0.mk (below_step bG hb); clear hb ho9))
  go_ret
  exact ⟨_, by first | rfl | (simp [errW_none, errW_some] <;> rfl) | (simp [*, errW_none, errW_some] <;> rfl), by (with_reducible repeat (first | apply Kd.R_alloc | apply Kd.R_drewN | apply Kd.R_drew)); exact HO304.out, bG⟩
 ·
  rw [if_neg c5] at H
  have c5b0 : (t301 == 0) = false := beq_eq_false_iff_ne.mpr c5
  have c5b1 : (t301 != 0) = true := bne_iff_ne.mpr c5
  obtain ⟨t305, A10, H⟩ := bindE H
  try dsimp only at H
  by_cases c11 : t305 = true
  ·
   subst c11
   have H1 : ((spec_AreWants.f k l0 l2).bind fun t306 => (if t306 = true then ((spec_AddToStage.f k l0 (([t301] : List Int))).bind fun t310 => (some t310)) else (some (([] : List Int))))) = some r := by rw [if_pos rfl] at H; exact H
   clear H
   have H := H1
   clear H1
   obtain ⟨t306, A12, H⟩ := bindE H
   try dsimp only at H
   by_cases c13 : t306 = true
   ·
    subst c13
    have H1 : ((spec_AddToStage.f k l0 (([t301] : List Int))).bind fun t310 => (some t310)) = some r := by rw [if_pos rfl] at H; exact H
    clear H
    have H := H1
    clear H1
    obtain ⟨y307, hy307⟩ : ∃ y_ : List Int, y_ = (([t301] : List Int)) := ⟨_, rfl⟩
    replace H : ((spec_AddToStage.f k l0 y307).bind fun t310 => (some t310)) = some r := by first | (rw [hy307]; with_reducible exact H) | (have H2_ := (Option.bind_some _ _).symm.trans H; rw [hy307]; with_reducible exact H2_) | (have H2_ := (Option.bind_some _ _).symm.trans H; with_reducible exact H2_) | with_reducible exact H | (rw [hy307]; exact H) | exact H
    have Ny307 := Aside0.mk hy307
    clear hy307
    obtain ⟨t310, A14, H⟩ := bindE H
    try dsimp only at H
    obtain rfl := Option.some.inj H
    go_enter Try.func47, Try.ntmps47
    go_wp2_with (first | ((with_reducible refine gate_dst (N := 4) rfl ?_); refine bE (N := 4) (cs := #[.slice A1_0 l1_0.length c1_0, .int .i64 a1_1, .slice A1_2 l1_2.length c1_2, .int .i64 a1_3]) (t := 57) ?_; intro gb300 hg w15 hbox hb; have n0_ := Aside0.mk (below_step bA hb); have n1_ := Aside0.mk (hbox); have n2_ := Aside0.mk ((by rw [hg]; exact (below_size bA) : w.heap.size ≤ gb300)); have n3_ := Aside0.mk ((by rw [hg]; exact (below_size bA) : w.heap.size ≤ gb300)); clear HB; have HB := n0_; have BK300 := n1_; have GW300 := n2_; have GE300 := n3_; clear n0_ n1_ n2_ n3_; clear hb hbox hg; have hcz16_0 : w15.cell? ⟨gb300, 0, none⟩ = some (.slice A1_0 l1_0.length c1_0) := bC BK300 0; have hcz16_1 : w15.cell? ⟨gb300, 1, none⟩ = some (.int .i64 a1_1) := bC BK300 1; have hcz16_2 : w15.cell? ⟨gb300, 2, none⟩ = some (.slice A1_2 l1_2.length c1_2) := bC BK300 2; have hcz16_3 : w15.cell? ⟨gb300, 3, none⟩ = some (.int .i64 a1_3) := bC BK300 3; have hfz16_0 := blk_frozen BK300.out 0; have hfz16_1 := blk_frozen BK300.out 1; have hfz16_2 := blk_frozen BK300.out 2; have hfz16_3 := blk_frozen BK300.out 3) | ((with_reducible refine gate_callee (f := 91) rfl ?_); refine gL (some 11) Try.func91 #[.slice A2 l2.length c2, .slice A1_0 l1_0.length c1_0] ?_; (with_reducible refine (spec_LongestWant.calls k _ _ l2 _ _ l1_0 t301 _ ?side1 ?side2 ?side3 ?side4 A4.out).mono ?_); (case side1 => exact cB HR2); (case side2 => exact HC2.out); (case side3 => exact cB HR1_0); (case side4 => exact HC1_0.out); rintro e w' ⟨rfl, ⟨nd, rfl⟩⟩; refine ⟨_, rfl, ?_⟩) | (go_at_call 92; (with_reducible refine (spec_IsControl.calls k _ _ l0 _ _ l1_0 a1_1 _ _ l1_2 a1_3 true _ ?side1 ?side2 ?side3 ?side4 ?side5 ?side6 A10.out).mono ?_); (case side1 => exact cG HR0); (case side2 => exact HC0.out); (case side3 => exact cG HR1_0); (case side4 => exact HC1_0.out); (case side5 => exact cG HR1_2); (case side6 => exact HC1_2.out); rintro e w17 ⟨rfl, hb⟩; replace BK300 := Aside0.mk (blk_below (g := gb300) (bK BK300) hb); replace HB := Aside0.mk (below_step bG hb); (try clear hb)) | (go_at_call 93; (with_reducible refine (spec_AreWants.calls k _ _ l0 _ _ l2 true _ ?side1 ?side2 ?side3 ?side4 A12.out).mono ?_); (case side1 => exact cB HR0); (case side2 => exact HC0.out); (case side3 => exact cB HR2); (case side4 => exact HC2.out); rintro e w18 ⟨rfl, hb⟩; replace BK300 := Aside0.mk (blk_below (g := gb300) (bK BK300) hb); replace HB := Aside0.mk (below_step bG hb); (try clear hb)) | ((with_reducible refine gate_dst (N := 29) rfl ?_); refine Kd.R_lit (Kd.int .i64) _ 3 ?hg (N := 29) ?hd (xs := ([t301] : List Int)) (inner := [.int .i64 t301]) (ok := fun _ => True) (okp := fun _ => True) ?hr ?hp (fun _ hk => hk) trivial (Below.refl _ _) (Nat.le_refl _) (by simp) ?_; (case hd => rfl); (case hg => rfl); (case hr => first | (go_simp; done) | (go_simp; rfl)); (case hp => exact (Reps.one (show Kd.M (Kd.int .i64) _ _ _ t301 [.int .i64 t301] from rfl) (Reps.none _ _))); intro v308 w19 ho20 hb hg_ hnew_; clear hg_ hnew_; (first | rw [← Ny307.out] at ho20 | (simp only [Int.reduceToNat] at ho20; rw [← Ny307.out] at ho20)); have HO309 := Aside0.mk (Kd.R_lower ho20 (below_size bG)); replace BK300 := Aside0.mk (blk_below (g := gb300) (bK BK300) hb); replace HB := Aside0.mk (below_step bG hb); clear hb ho20; obtain ⟨Ao21, co21, eo21⟩ := Kd.R_slice HO309.out; subst eo21) | ((with_reducible refine gate_callee (f := 94) rfl ?_); refine gL (some 30) Try.func94 #[.slice A0 l0.length c0, .slice Ao21 y307.length co21] ?_; (with_reducible refine (spec_AddToStage.calls k _ _ l0 _ _ y307 t310 _ ?side1 ?side2 ?side3 ?side4 A14.out).mono ?_); (case side1 => exact cB HR0); (case side2 => exact HC0.out); (case side3 => exact cO ⟨(Kd.R_reads' HO309.out).2.2⟩); (case side4 => exact (Kd.R_reads' HO309.out).2.1); rintro e w22 ⟨v311, rfl, ho0, hb⟩; refine ⟨_, rfl, ?_⟩; have HO312 := Aside0.mk (Kd.R_lower (Kd.R_new' ho0 (Kd.R_lt (rK HO309))) (below_size bG)); replace HO309 := Aside0.mk (Kd.R_elder' (rK HO309) (Kd.R_base ho0) hb); replace BK300 := Aside0.mk (blk_below (g := gb300) (bK BK300) hb); replace HB := Aside0.mk (below_step bG hb); (try clear hb); (try clear ho0)))
    go_ret
    exact ⟨_, by first | rfl | (simp [errW_none, errW_some] <;> rfl) | (simp [*, errW_none, errW_some] <;> rfl), by (with_reducible repeat (first | apply Kd.R_alloc | apply Kd.R_drewN | apply Kd.R_drew)); exact Kd.R_mono HO312.out (fun _ hk => trivial), bG⟩
   ·
    replace c13 := Bool.eq_false_iff.mpr c13
    subst c13
    have H1 : (some (([] : List Int))) = some r := by rw [if_neg (show ¬ (false = true) by decide)] at H; exact H
    clear H
    have H := H1
    clear H1
    obtain ⟨y313, hy313⟩ : ∃ y_ : List Int, y_ = (([] : List Int)) := ⟨_, rfl⟩
    replace H : (some y313) = some r := by first | (rw [hy313]; with_reducible exact H) | (have H2_ := (Option.bind_some _ _).symm.trans H; rw [hy313]; with_reducible exact H2_) | (have H2_ := (Option.bind_some _ _).symm.trans H; with_reducible exact H2_) | with_reducible exact H | (rw [hy313]; exact H) | exact H
    have Ny313 := Aside0.mk hy313
    clear hy313
    obtain rfl := Option.some.inj H
    go_enter Try.func47, Try.ntmps47
    go_wp2_with (first | ((with_reducible refine gate_dst (N := 4) rfl ?_); refine bE (N := 4) (cs := #[.slice A1_0 l1_0.length c1_0, .int .i64 a1_1, .slice A1_2 l1_2.length c1_2, .int .i64 a1_3]) (t := 57) ?_; intro gb300 hg w23 hbox hb; have n0_ := Aside0.mk (below_step bA hb); have n1_ := Aside0.mk (hbox); have n2_ := Aside0.mk ((by rw [hg]; exact (below_size bA) : w.heap.size ≤ gb300)); have n3_ := Aside0.mk ((by rw [hg]; exact (below_size bA) : w.heap.size ≤ gb300)); clear HB; have HB := n0_; have BK300 := n1_; have GW300 := n2_; have GE300 := n3_; clear n0_ n1_ n2_ n3_; clear hb hbox hg; have hcz24_0 : w23.cell? ⟨gb300, 0, none⟩ = some (.slice A1_0 l1_0.length c1_0) := bC BK300 0; have hcz24_1 : w23.cell? ⟨gb300, 1, none⟩ = some (.int .i64 a1_1) := bC BK300 1; have hcz24_2 : w23.cell? ⟨gb300, 2, none⟩ = some (.slice A1_2 l1_2.length c1_2) := bC BK300 2; have hcz24_3 : w23.cell? ⟨gb300, 3, none⟩ = some (.int .i64 a1_3) := bC BK300 3; have hfz24_0 := blk_frozen BK300.out 0; have hfz24_1 := blk_frozen BK300.out 1; have hfz24_2 := blk_frozen BK300.out 2; have hfz24_3 := blk_frozen BK300.out 3) | ((with_reducible refine gate_callee (f := 91) rfl ?_); refine gL (some 11) Try.func91 #[.slice A2 l2.length c2, .slice A1_0 l1_0.length c1_0] ?_; (with_reducible refine (spec_LongestWant.calls k _ _ l2 _ _ l1_0 t301 _ ?side1 ?side2 ?side3 ?side4 A4.out).mono ?_); (case side1 => exact cB HR2); (case side2 => exact HC2.out); (case side3 => exact cB HR1_0); (case side4 => exact HC1_0.out); rintro e w' ⟨rfl, ⟨nd, rfl⟩⟩; refine ⟨_, rfl, ?_⟩) | (go_at_call 92; (with_reducible refine (spec_IsControl.calls k _ _ l0 _ _ l1_0 a1_1 _ _ l1_2 a1_3 true _ ?side1 ?side2 ?side3 ?side4 ?side5 ?side6 A10.out).mono ?_); (case side1 => exact cG HR0); (case side2 => exact HC0.out); (case side3 => exact cG HR1_0); (case side4 => exact HC1_0.out); (case side5 => exact cG HR1_2); (case side6 => exact HC1_2.out); rintro e w25 ⟨rfl, hb⟩; replace BK300 := Aside0.mk (blk_below (g := gb300) (bK BK300) hb); replace HB := Aside0.mk (below_step bG hb); (try clear hb)) | (go_at_call 93; (with_reducible refine (spec_AreWants.calls k _ _ l0 _ _ l2 false _ ?side1 ?side2 ?side3 ?side4 A12.out).mono ?_); (case side1 => exact cB HR0); (case side2 => exact HC0.out); (case side3 => exact cB HR2); (case side4 => exact HC2.out); rintro e w26 ⟨rfl, hb⟩; replace BK300 := Aside0.mk (blk_below (g := gb300) (bK BK300) hb); replace HB := Aside0.mk (below_step bG hb); (try clear hb)) | ((with_reducible refine gate_dst (N := 26) rfl ?_); refine Kd.R_lit (Kd.int .i64) _ 3 ?hg (N := 26) ?hd (xs := ([] : List Int)) (inner := []) (ok := fun _ => True) (okp := fun _ => True) ?hr ?hp (fun _ hk => hk) trivial (Below.refl _ _) (Nat.le_refl _) (by simp) ?_; (case hd => rfl); (case hg => rfl); (case hr => first | (go_simp; done) | (go_simp; rfl)); (case hp => exact (Reps.none _ _)); intro v314 w27 ho28 hb hg_ hnew_; clear hg_ hnew_; (first | rw [← Ny313.out] at ho28 | (simp only [Int.reduceToNat] at ho28; rw [← Ny313.out] at ho28)); have HO315 := Aside0.mk (Kd.R_lower ho28 (below_size bG)); replace BK300 := Aside0.mk (blk_below (g := gb300) (bK BK300) hb); replace HB := Aside0.mk (below_step bG hb); clear hb ho28))
    go_ret
    exact ⟨_, by first | rfl | (simp [errW_none, errW_some] <;> rfl) | (simp [*, errW_none, errW_some] <;> rfl), by (with_reducible repeat (first | apply Kd.R_alloc | apply Kd.R_drewN | apply Kd.R_drew)); exact HO315.out, bG⟩
  ·
   replace c11 := Bool.eq_false_iff.mpr c11
   subst c11
   have H1 : (some (([] : List Int))) = some r := by rw [if_neg (show ¬ (false = true) by decide)] at H; exact H
   clear H
   have H := H1
   clear H1
   obtain ⟨y316, hy316⟩ : ∃ y_ : List Int, y_ = (([] : List Int)) := ⟨_, rfl⟩
   replace H : (some y316) = some r := by first | (rw [hy316]; with_reducible exact H) | (have H2_ := (Option.bind_some _ _).symm.trans H; rw [hy316]; with_reducible exact H2_) | (have H2_ := (Option.bind_some _ _).symm.trans H; with_reducible exact H2_) | with_reducible exact H | (rw [hy316]; exact H) | exact H
   have Ny316 := Aside0.mk hy316
   clear hy316
   obtain rfl := Option.some.inj H
   go_enter Try.func47, Try.ntmps47
   go_wp2_with (first | ((with_reducible refine gate_dst (N := 4) rfl ?_); refine bE (N := 4) (cs := #[.slice A1_0 l1_0.length c1_0, .int .i64 a1_1, .slice A1_2 l1_2.length c1_2, .int .i64 a1_3]) (t := 57) ?_; intro gb300 hg w29 hbox hb; have n0_ := Aside0.mk (below_step bA hb); have n1_ := Aside0.mk (hbox); have n2_ := Aside0.mk ((by rw [hg]; exact (below_size bA) : w.heap.size ≤ gb300)); have n3_ := Aside0.mk ((by rw [hg]; exact (below_size bA) : w.heap.size ≤ gb300)); clear HB; have HB := n0_; have BK300 := n1_; have GW300 := n2_; have GE300 := n3_; clear n0_ n1_ n2_ n3_; clear hb hbox hg; have hcz30_0 : w29.cell? ⟨gb300, 0, none⟩ = some (.slice A1_0 l1_0.length c1_0) := bC BK300 0; have hcz30_1 : w29.cell? ⟨gb300, 1, none⟩ = some (.int .i64 a1_1) := bC BK300 1; have hcz30_2 : w29.cell? ⟨gb300, 2, none⟩ = some (.slice A1_2 l1_2.length c1_2) := bC BK300 2; have hcz30_3 : w29.cell? ⟨gb300, 3, none⟩ = some (.int .i64 a1_3) := bC BK300 3; have hfz30_0 := blk_frozen BK300.out 0; have hfz30_1 := blk_frozen BK300.out 1; have hfz30_2 := blk_frozen BK300.out 2; have hfz30_3 := blk_frozen BK300.out 3) | ((with_reducible refine gate_callee (f := 91) rfl ?_); refine gL (some 11) Try.func91 #[.slice A2 l2.length c2, .slice A1_0 l1_0.length c1_0] ?_; (with_reducible refine (spec_LongestWant.calls k _ _ l2 _ _ l1_0 t301 _ ?side1 ?side2 ?side3 ?side4 A4.out).mono ?_); (case side1 => exact cB HR2); (case side2 => exact HC2.out); (case side3 => exact cB HR1_0); (case side4 => exact HC1_0.out); rintro e w' ⟨rfl, ⟨nd, rfl⟩⟩; refine ⟨_, rfl, ?_⟩) | (go_at_call 92; (with_reducible refine (spec_IsControl.calls k _ _ l0 _ _ l1_0 a1_1 _ _ l1_2 a1_3 false _ ?side1 ?side2 ?side3 ?side4 ?side5 ?side6 A10.out).mono ?_); (case side1 => exact cG HR0); (case side2 => exact HC0.out); (case side3 => exact cG HR1_0); (case side4 => exact HC1_0.out); (case side5 => exact cG HR1_2); (case side6 => exact HC1_2.out); rintro e w31 ⟨rfl, hb⟩; replace BK300 := Aside0.mk (blk_below (g := gb300) (bK BK300) hb); replace HB := Aside0.mk (below_step bG hb); (try clear hb)) | ((with_reducible refine gate_dst (N := 26) rfl ?_); refine Kd.R_lit (Kd.int .i64) _ 3 ?hg (N := 26) ?hd (xs := ([] : List Int)) (inner := []) (ok := fun _ => True) (okp := fun _ => True) ?hr ?hp (fun _ hk => hk) trivial (Below.refl _ _) (Nat.le_refl _) (by simp) ?_; (case hd => rfl); (case hg => rfl); (case hr => first | (go_simp; done) | (go_simp; rfl)); (case hp => exact (Reps.none _ _)); intro v317 w32 ho33 hb hg_ hnew_; clear hg_ hnew_; (first | rw [← Ny316.out] at ho33 | (simp only [Int.reduceToNat] at ho33; rw [← Ny316.out] at ho33)); have HO318 := Aside0.mk (Kd.R_lower ho33 (below_size bG)); replace BK300 := Aside0.mk (blk_below (g := gb300) (bK BK300) hb); replace HB := Aside0.mk (below_step bG hb); clear hb ho33))
   go_ret
   exact ⟨_, by first | rfl | (simp [errW_none, errW_some] <;> rfl) | (simp [*, errW_none, errW_some] <;> rfl), by (with_reducible repeat (first | apply Kd.R_alloc | apply Kd.R_drewN | apply Kd.R_drew)); exact HO318.out, bG⟩

/-! ### spec_LeastGreen: function 74 -/
def spec_LeastGreen.l0 : Nat → List (S89) → List Int → Int → Option (Int)
 | 0, _, _, _ => none
 | k + 1, x0, x1, x5 => if x5 < (x1.length : Int) then (if 0 ≤ x5 then ((spec_FindPath.f k x0 (rd x1 x5)).bind fun t320 => (if t320 ≥ 0 then (if 0 ≤ t320 then (if t320 < (x0.length : Int) then (if ((rd_T89 x0 t320).f1) = 2 then (some 7) else (spec_LeastGreen.l0 k x0 x1 (wrap64 (x5 + 1)))) else (none)) else (none)) else (spec_LeastGreen.l0 k x0 x1 (wrap64 (x5 + 1))))) else (none)) else (some 5)
def spec_LeastGreen.f (k : Nat) (l0 : List (S89)) (l1 : List Int) : Option (Int) := spec_LeastGreen.l0 k l0 l1 0
theorem spec_LeastGreen.mono_l : ∀ k, (∀ y0 y1 y2, LeO (spec_LeastGreen.l0 k y0 y1 y2) (spec_LeastGreen.l0 (k + 1) y0 y1 y2))
 | 0 => fun _ _ _ r h => by simp [spec_LeastGreen.l0] at h
 | k + 1 => by
  have ih0 := spec_LeastGreen.mono_l k
  ·
   intro y0 y1 y2
   unfold spec_LeastGreen.l0
   repeat' first | (with_reducible first | exact LeO.refl _ | exact LeO.none _ | refine LeO.ite ?_ ?_ | refine LeO.bind ?_ (fun _ => ?_) | exact ih0 _ _ _ | exact spec_FindPath.mono _ _ _)
theorem spec_LeastGreen.mono : ∀ a0 a1 k, LeO (spec_LeastGreen.f k a0 a1) (spec_LeastGreen.f (k + 1) a0 a1) := by
 intro a0 a1 k
 have ih0 := spec_LeastGreen.mono_l k
 unfold spec_LeastGreen.f
 repeat' first | (with_reducible first | exact LeO.refl _ | exact LeO.none _ | refine LeO.ite ?_ ?_ | refine LeO.bind ?_ (fun _ => ?_) | exact ih0 _ _ _ | exact spec_FindPath.mono _ _ _)
set_option maxHeartbeats 8000000 in
set_option maxRecDepth 100000 in
theorem spec_LeastGreen.calls (k : Nat) (A0 : Option Addr) (c0 : Nat) (l0 : List (S89)) (A1 : Option Addr) (c1 : Nat) (l1 : List Int) (r : Int) (w : World) (hr0 : Kd.C k89 w A0 l0.length l0) (hc0 : l0.length ≤ c0) (hr1 : Kd.C (Kd.int .i64) w A1 l1.length l1) (hc1 : l1.length ≤ c1) (h : spec_LeastGreen.f k l0 l1 = some r) :
  Calls Try.prog 74 #[.slice A0 l0.length c0, .slice A1 l1.length c1] w fun e w' => e = .returned (.int .i64 r) ∧ Drawn0 w w' := by
 have HR0 := Aside0.mk hr0
 have HC0 := Aside0.mk hc0
 clear hr0 hc0
 have HR1 := Aside0.mk hr1
 have HC1 := Aside0.mk hc1
 clear hr1 hc1
 have H : (spec_LeastGreen.l0 k l0 l1 0) = some r := h
 clear h
 have H' := Aside0.mk H
 clear H
 go_enter Try.func74, Try.ntmps74
 go_wp2
 go_loopg [5] k (fun kq v5 w' => ∃ (x5_1 : Int), v5 = .int .i64 x5_1 ∧ Aside0 (spec_LeastGreen.l0 kq l0 l1 x5_1 = some r) ∧ Aside0 (kq ≤ k) ∧ Drawn0 w w')
 case atStart => exact ⟨(0), rS, H', ⟨Nat.le_refl _⟩, by repeat (first | exact Drawn0.refl _ | apply Drawn0.step)⟩
 case round =>
  clear H'
  try clear c1
  try clear p2
  obtain ⟨x5_1, rfl, HA, HK1, ⟨m1, rfl⟩⟩ := hrel
  cases gk with
  | zero => exact absurd HA.out (by simp [spec_LeastGreen.l0])
  | succ k1 =>
   have H := HA.out
   clear HA
   simp only [spec_LeastGreen.l0] at H
   by_cases c3 : x5_1 < (l1.length : Int)
   ·
    rw [if_pos c3] at H
    have c3b0 := decide_eq_true c3
    clear c3
    have c4 : 0 ≤ x5_1 := ifN H
    replace H := ifT H
    have c4b0 := decide_eq_true c4
    clear c4
    obtain ⟨t320, A5, H⟩ := bindE H
    try dsimp only at H
    by_cases c6 : t320 ≥ 0
    ·
     rw [if_pos c6] at H
     have c6b0 := decide_eq_true c6
     clear c6
     have c7 : 0 ≤ t320 := ifN H
     replace H := ifT H
     have c7b0 := decide_eq_true c7
     clear c7
     have c8 : t320 < (l0.length : Int) := ifN H
     replace H := ifT H
     have c8b0 := decide_eq_true c8
     clear c8
     by_cases c9 : ((rd_T89 l0 t320).f1) = 2
     ·
      rw [if_pos c9] at H
      have c9b0 : (((rd_T89 l0 t320).f1) == 2) = true := beq_iff_eq.mpr c9
      have c9b1 : (((rd_T89 l0 t320).f1) != 2) = false := bne_eq_false_iff_eq.mpr c9
      clear c9
      obtain rfl := Option.some.inj H
      have p319 : 0 ≤ (x5_1 : Int) := dA
      have q319 : x5_1 < (l1.length : Int) := dA
      obtain ⟨ad319, e319, hx319_0⟩ := Kd.at_int HR1.out x5_1 p319 q319
      cases e319
      replace p319 := eq_true p319
      replace q319 := eq_true q319
      go_wp2_with (first | ((with_reducible refine gate_callee (f := 116) rfl ?_); refine gL (some 18) Try.func116 #[.slice A0 l0.length c0, .int .i64 (rd l1 x5_1)] ?_; (with_reducible refine (spec_FindPath.calls k1 _ _ l0 (rd l1 x5_1) t320 _ ?side1 ?side2 A5.out).mono ?_); (case side1 => exact cO HR0); (case side2 => exact HC0.out); rintro e w' ⟨rfl, ⟨nd, rfl⟩⟩; refine ⟨_, rfl, ?_⟩; have p321 : 0 ≤ (t320 : Int) := dA; have q321 : t320 < (l0.length : Int) := dA; obtain ⟨ad321, e321, hx321_0, hx321_1, hx321_2, hx321_3⟩ := at_T89 HR0.out t320 p321 q321; cases e321; replace p321 := eq_true p321; replace q321 := eq_true q321))
      go_ret
      exact ⟨by first | rfl | (simp; done) | (simp [*]; done), by repeat (first | exact Drawn0.refl _ | apply Drawn0.step)⟩
     ·
      rw [if_neg c9] at H
      have c9b0 : (((rd_T89 l0 t320).f1) == 2) = false := beq_eq_false_iff_ne.mpr c9
      have c9b1 : (((rd_T89 l0 t320).f1) != 2) = true := bne_iff_ne.mpr c9
      have H' := Aside0.mk H
      clear H
      have p319 : 0 ≤ (x5_1 : Int) := dA
      have q319 : x5_1 < (l1.length : Int) := dA
      obtain ⟨ad319, e319, hx319_0⟩ := Kd.at_int HR1.out x5_1 p319 q319
      cases e319
      replace p319 := eq_true p319
      replace q319 := eq_true q319
      go_wp2_with (first | ((with_reducible refine gate_callee (f := 116) rfl ?_); refine gL (some 18) Try.func116 #[.slice A0 l0.length c0, .int .i64 (rd l1 x5_1)] ?_; (with_reducible refine (spec_FindPath.calls k1 _ _ l0 (rd l1 x5_1) t320 _ ?side1 ?side2 A5.out).mono ?_); (case side1 => exact cO HR0); (case side2 => exact HC0.out); rintro e w' ⟨rfl, ⟨nd, rfl⟩⟩; refine ⟨_, rfl, ?_⟩; have p321 : 0 ≤ (t320 : Int) := dA; have q321 : t320 < (l0.length : Int) := dA; obtain ⟨ad321, e321, hx321_0, hx321_1, hx321_2, hx321_3⟩ := at_T89 HR0.out t320 p321 q321; cases e321; replace p321 := eq_true p321; replace q321 := eq_true q321))
      go_roundg k1
      case measure => have := HK1.out; omega
      case rel => exact ⟨(wrap64 (x5_1 + 1)), rS, H', ⟨by have := HK1.out; omega⟩, by repeat (first | exact Drawn0.refl _ | apply Drawn0.step)⟩
    ·
     rw [if_neg c6] at H
     have c6b0 := decide_eq_false c6
     clear c6
     have H' := Aside0.mk H
     clear H
     have p319 : 0 ≤ (x5_1 : Int) := dA
     have q319 : x5_1 < (l1.length : Int) := dA
     obtain ⟨ad319, e319, hx319_0⟩ := Kd.at_int HR1.out x5_1 p319 q319
     cases e319
     replace p319 := eq_true p319
     replace q319 := eq_true q319
     go_wp2_with (first | ((with_reducible refine gate_callee (f := 116) rfl ?_); refine gL (some 18) Try.func116 #[.slice A0 l0.length c0, .int .i64 (rd l1 x5_1)] ?_; (with_reducible refine (spec_FindPath.calls k1 _ _ l0 (rd l1 x5_1) t320 _ ?side1 ?side2 A5.out).mono ?_); (case side1 => exact cO HR0); (case side2 => exact HC0.out); rintro e w' ⟨rfl, ⟨nd, rfl⟩⟩; refine ⟨_, rfl, ?_⟩))
     go_roundg k1
     case measure => have := HK1.out; omega
     case rel => exact ⟨(wrap64 (x5_1 + 1)), rS, H', ⟨by have := HK1.out; omega⟩, by repeat (first | exact Drawn0.refl _ | apply Drawn0.step)⟩
   ·
    rw [if_neg c3] at H
    have c3b0 := decide_eq_false c3
    clear c3
    obtain rfl := Option.some.inj H
    go_wp2
    go_ret
    exact ⟨by first | rfl | (simp; done) | (simp [*]; done), by repeat (first | exact Drawn0.refl _ | apply Drawn0.step)⟩

/-! ### spec_CanEnd: function 81 -/
def spec_CanEnd.f (k : Nat) (l0 : List (S89)) (l1_0 : List Int) (a1_1 : Int) (l1_2 : List Int) (a1_3 : Int) : Option (Bool) := (spec_IsControl.f k l0 l1_0 a1_1 l1_2 a1_3).bind fun t323 => (if t323 = true then (if (l1_2.length : Int) = 0 then ((spec_LeastGreen.f k l0 l1_0).bind fun t324 => (some (decide (a1_1 ≥ t324)))) else (some false)) else (some false))
theorem spec_CanEnd.mono : ∀ a0 a1 a2 a3 a4 k, LeO (spec_CanEnd.f k a0 a1 a2 a3 a4) (spec_CanEnd.f (k + 1) a0 a1 a2 a3 a4) := by
 intro a0 a1 a2 a3 a4 k
 unfold spec_CanEnd.f
 repeat' first | (with_reducible first | exact LeO.refl _ | exact LeO.none _ | refine LeO.ite ?_ ?_ | refine LeO.bind ?_ (fun _ => ?_) | exact spec_IsControl.mono _ _ _ _ _ _ | exact spec_LeastGreen.mono _ _ _)
def spec_CanEnd.T1 : Bool × List (List Nat × List Nat) := (true, [([], []), ([], []), ([0, 1], [0, 1]), ([2, 2], [2]), ([3], [3]), ([4, 3], [3, 4]), ([5, 3], [3, 5]), ([6, 3], [3, 6]), ([3, 7], [3, 7]), ([8, 3], [8]), ([9], [9]), ([10, 9], [9, 10]), ([9], [9]), ([9], [9]), ([13, 9], [9, 13]), ([12, 14, 9, 9], [9, 12, 14]), ([11, 15, 9], [9, 11, 15]), ([9, 16], [9, 16]), ([17, 15, 0, 1, 2, 3, 4, 5, 6, 7, 8, 9, 10, 11, 12, 13, 14, 15, 16, 17], [17])])
def spec_CanEnd.B1 : List Nat := [0, 0, 3, 7, 15, 31, 63, 127, 255, 511, 1023, 2047, 1023, 1023, 9215, 29695, 65535, 131071, 262143]
theorem spec_CanEnd.tab1 : rtab .any (opsOf Try.f81 1) = spec_CanEnd.T1 := by kernel_rfl
theorem spec_CanEnd.bits1 : waitsOk spec_CanEnd.T1.2 spec_CanEnd.B1 = true := by kernel_rfl
set_option maxHeartbeats 8000000 in
set_option maxRecDepth 100000 in
theorem spec_CanEnd.calls (k : Nat) (A0 : Option Addr) (c0 : Nat) (l0 : List (S89)) (A1_0 : Option Addr) (c1_0 : Nat) (l1_0 : List Int) (a1_1 : Int) (A1_2 : Option Addr) (c1_2 : Nat) (l1_2 : List Int) (a1_3 : Int) (r : Bool) (w : World) (hr0 : Kd.C k89 w A0 l0.length l0) (hc0 : l0.length ≤ c0) (hr1_0 : Kd.C (Kd.int .i64) w A1_0 l1_0.length l1_0) (hc1_0 : l1_0.length ≤ c1_0) (hr1_2 : Kd.C (Kd.int .i64) w A1_2 l1_2.length l1_2) (hc1_2 : l1_2.length ≤ c1_2) (h : spec_CanEnd.f k l0 l1_0 a1_1 l1_2 a1_3 = some r) :
  Calls Try.prog 81 #[.slice A0 l0.length c0, .agg #[.slice A1_0 l1_0.length c1_0, .int .i64 a1_1, .slice A1_2 l1_2.length c1_2, .int .i64 a1_3]] w fun e w' => e = .returned (.bool r) ∧ Below w.heap.size w w' := by
 have hu57 := Try.underlying57
 have HR0 := Aside0.mk hr0
 have HC0 := Aside0.mk hc0
 clear hr0 hc0
 have HR1_0 := Aside0.mk hr1_0
 have HC1_0 := Aside0.mk hc1_0
 clear hr1_0 hc1_0
 have HR1_2 := Aside0.mk hr1_2
 have HC1_2 := Aside0.mk hc1_2
 clear hr1_2 hc1_2
 have HB := Aside0.mk (Below.refl w.heap.size w)
 have H : ((spec_IsControl.f k l0 l1_0 a1_1 l1_2 a1_3).bind fun t323 => (if t323 = true then (if (l1_2.length : Int) = 0 then ((spec_LeastGreen.f k l0 l1_0).bind fun t324 => (some (decide (a1_1 ≥ t324)))) else (some false)) else (some false))) = some r := h
 clear h
 obtain ⟨t323, A3, H⟩ := bindE H
 try dsimp only at H
 by_cases c4 : t323 = true
 ·
  subst c4
  have H1 : (if (l1_2.length : Int) = 0 then ((spec_LeastGreen.f k l0 l1_0).bind fun t324 => (some (decide (a1_1 ≥ t324)))) else (some false)) = some r := by rw [if_pos rfl] at H; exact H
  clear H
  have H := H1
  clear H1
  by_cases c5 : (l1_2.length : Int) = 0
  ·
   rw [if_pos c5] at H
   have c5b0 : ((l1_2.length : Int) == 0) = true := beq_iff_eq.mpr c5
   have c5b1 : ((l1_2.length : Int) != 0) = false := bne_eq_false_iff_eq.mpr c5
   clear c5
   obtain ⟨t324, A6, H⟩ := bindE H
   try dsimp only at H
   obtain rfl := Option.some.inj H
   go_enter Try.func81, Try.ntmps81
   try go_wp2_with (first | ((with_reducible refine gate_dst (N := 3) rfl ?_); (try (refine gate_guard (by rfl) ?_; dsimp only)); refine bE (N := 3) (cs := #[.slice A1_0 l1_0.length c1_0, .int .i64 a1_1, .slice A1_2 l1_2.length c1_2, .int .i64 a1_3]) (t := 57) ?_; intro gb322 hg w7 hbox hb; have n0_ := Aside0.mk (below_step bA hb); have n1_ := Aside0.mk (hbox); have n2_ := Aside0.mk ((by rw [hg]; exact (below_size bA) : w.heap.size ≤ gb322)); have n3_ := Aside0.mk ((by rw [hg]; exact (below_size bA) : w.heap.size ≤ gb322)); clear HB; have HB := n0_; have BK322 := n1_; have GW322 := n2_; have GE322 := n3_; clear n0_ n1_ n2_ n3_; clear hb hbox hg))
   replace BK322 := Aside0.mk (blk_drew BK322.out)
   have HBo := HB
   replace HB := Aside0.mk (below_drew1 HB.out)
   refine start_ (n := 19) (S := fun w' => w'.cell? ⟨gb322, 0, none⟩ = some (.slice A1_0 l1_0.length c1_0) ∧ w'.cell? ⟨gb322, 1, none⟩ = some (.int .i64 a1_1) ∧ w'.cell? ⟨gb322, 2, none⟩ = some (.slice A1_2 l1_2.length c1_2) ∧ w'.cell? ⟨gb322, 3, none⟩ = some (.int .i64 a1_3)) (ds := []) (mb 19 0) (by kernel_rfl) rfl rfl ⟨bC BK322 0, bC BK322 1, bC BK322 2, bC BK322 3⟩ (fun hHeld => ?_); refine with_tabW spec_CanEnd.tab1 spec_CanEnd.bits1 (fun HT_ HW_ => ?_)
   generalize w7.drew = w8 at BK322 HB hHeld ⊢
   refine pA (i := 0) (N := some 5) (mb 19 1) HT_ ?_
   refine tA4 (i := 1) (N := some 6) (mb 19 3) HT_ HW_ hHeld ?_
   refine oA (i := 2) (N := some 7) (mb 19 7) HT_ (fun K hK => ?_)
   refine gA Try.func92 #[.slice A0 l0.length c0, .agg #[.slice A1_0 l1_0.length c1_0, .int .i64 a1_1, .slice A1_2 l1_2.length c1_2, .int .i64 a1_3]] ?_
   with_reducible refine (spec_IsControl.calls k _ _ l0 _ _ l1_0 a1_1 _ _ l1_2 a1_3 true _ ?side1 ?side2 ?side3 ?side4 ?side5 ?side6 A3.out).mono ?_
   (case side1 => exact cB HR0)
   (case side2 => exact HC0.out)
   (case side3 => exact cB HR1_0)
   (case side4 => exact HC1_0.out)
   (case side5 => exact cB HR1_2)
   (case side6 => exact HC1_2.out)
   rintro e w9 ⟨rfl, hb⟩
   refine ⟨_, rfl, ?_⟩
   replace BK322 := Aside0.mk (blk_below (g := gb322) (bK BK322) hb)
   replace HB := Aside0.mk (below_step bG hb)
   (try clear hb)
   (try clear hb2)
   (try clear hk)
   (try clear hi)
   refine hK.out _ _ ⟨bC BK322 0, bC BK322 1, bC BK322 2, bC BK322 3⟩ (fun hHeld => ?_)
   clear hK K
   refine nB ?_
   refine pA (i := 3) (N := some 8) (mb 19 15) HT_ ?_
   refine pA (i := 4) (N := some 9) (mb 19 31) HT_ ?_
   refine tA4 (i := 5) (N := some 10) (mb 19 63) HT_ HW_ hHeld ?_
   refine pA (i := 6) (N := some 11) (mb 19 127) HT_ ?_
   refine pA (i := 7) (N := some 12) (mb 19 255) HT_ ?_
   refine pA (i := 8) (N := some 13) (mb 19 511) HT_ ?_
   refine pA (i := 9) (N := some 14) (mb 19 1023) HT_ ?_
   refine pA (i := 10) (N := some 15) (mb 19 2047) HT_ ?_
   refine pA (i := 12) (N := some 17) (mb 19 6143) HT_ ?_
   refine pA (i := 13) (N := some 18) (mb 19 14335) HT_ ?_
   refine tA4 (i := 11) (N := some 16) (mb 19 16383) HT_ HW_ hHeld ?_
   refine tA4 (i := 14) (N := some 19) (mb 19 32767) HT_ HW_ hHeld ?_
   refine oA (i := 15) (N := some 20) (mb 19 65535) HT_ (fun K hK => ?_)
   refine gA Try.func74 #[.slice A0 l0.length c0, .slice A1_0 l1_0.length c1_0] ?_
   with_reducible refine (spec_LeastGreen.calls k _ _ l0 _ _ l1_0 t324 _ ?side1 ?side2 ?side3 ?side4 A6.out).mono ?_
   (case side1 => exact cB HR0)
   (case side2 => exact HC0.out)
   (case side3 => exact cB HR1_0)
   (case side4 => exact HC1_0.out)
   rintro e w' ⟨rfl, ⟨nd, rfl⟩⟩
   refine ⟨_, rfl, ?_⟩
   refine hK.out _ _ ⟨bC BK322 0, bC BK322 1, bC BK322 2, bC BK322 3⟩ (fun hHeld => ?_)
   clear hK K
   refine nB ?_
   refine pA (i := 16) (N := some 21) (mb 19 131071) HT_ ?_
   refine pA (i := 17) (N := some 22) (mb 19 262143) HT_ ?_
   refine pA (i := 18) (N := some 4) (mb 19 524287) HT_ ?_
   refine eA HT_ ?_
   try go_wp2
   go_ret
   exact ⟨rA, bG⟩
  ·
   rw [if_neg c5] at H
   have c5b0 : ((l1_2.length : Int) == 0) = false := beq_eq_false_iff_ne.mpr c5
   have c5b1 : ((l1_2.length : Int) != 0) = true := bne_iff_ne.mpr c5
   have c5b2 : ¬ (l1_2 = []) := fun h_ => c5 (by rw [h_]; rfl)
   obtain rfl := Option.some.inj H
   go_enter Try.func81, Try.ntmps81
   try go_wp2_with (first | ((with_reducible refine gate_dst (N := 3) rfl ?_); (try (refine gate_guard (by rfl) ?_; dsimp only)); refine bE (N := 3) (cs := #[.slice A1_0 l1_0.length c1_0, .int .i64 a1_1, .slice A1_2 l1_2.length c1_2, .int .i64 a1_3]) (t := 57) ?_; intro gb322 hg w10 hbox hb; have n0_ := Aside0.mk (below_step bA hb); have n1_ := Aside0.mk (hbox); have n2_ := Aside0.mk ((by rw [hg]; exact (below_size bA) : w.heap.size ≤ gb322)); have n3_ := Aside0.mk ((by rw [hg]; exact (below_size bA) : w.heap.size ≤ gb322)); clear HB; have HB := n0_; have BK322 := n1_; have GW322 := n2_; have GE322 := n3_; clear n0_ n1_ n2_ n3_; clear hb hbox hg))
   replace BK322 := Aside0.mk (blk_drew BK322.out)
   have HBo := HB
   replace HB := Aside0.mk (below_drew1 HB.out)
   refine start_ (n := 19) (S := fun w' => w'.cell? ⟨gb322, 0, none⟩ = some (.slice A1_0 l1_0.length c1_0) ∧ w'.cell? ⟨gb322, 1, none⟩ = some (.int .i64 a1_1) ∧ w'.cell? ⟨gb322, 2, none⟩ = some (.slice A1_2 l1_2.length c1_2) ∧ w'.cell? ⟨gb322, 3, none⟩ = some (.int .i64 a1_3)) (ds := []) (mb 19 0) (by kernel_rfl) rfl rfl ⟨bC BK322 0, bC BK322 1, bC BK322 2, bC BK322 3⟩ (fun hHeld => ?_); refine with_tabW spec_CanEnd.tab1 spec_CanEnd.bits1 (fun HT_ HW_ => ?_)
   generalize w10.drew = w11 at BK322 HB hHeld ⊢
   refine pA (i := 0) (N := some 5) (mb 19 1) HT_ ?_
   refine tA4 (i := 1) (N := some 6) (mb 19 3) HT_ HW_ hHeld ?_
   refine oA (i := 2) (N := some 7) (mb 19 7) HT_ (fun K hK => ?_)
   refine gA Try.func92 #[.slice A0 l0.length c0, .agg #[.slice A1_0 l1_0.length c1_0, .int .i64 a1_1, .slice A1_2 l1_2.length c1_2, .int .i64 a1_3]] ?_
   with_reducible refine (spec_IsControl.calls k _ _ l0 _ _ l1_0 a1_1 _ _ l1_2 a1_3 true _ ?side1 ?side2 ?side3 ?side4 ?side5 ?side6 A3.out).mono ?_
   (case side1 => exact cB HR0)
   (case side2 => exact HC0.out)
   (case side3 => exact cB HR1_0)
   (case side4 => exact HC1_0.out)
   (case side5 => exact cB HR1_2)
   (case side6 => exact HC1_2.out)
   rintro e w12 ⟨rfl, hb⟩
   refine ⟨_, rfl, ?_⟩
   replace BK322 := Aside0.mk (blk_below (g := gb322) (bK BK322) hb)
   replace HB := Aside0.mk (below_step bG hb)
   (try clear hb)
   (try clear hb2)
   (try clear hk)
   (try clear hi)
   refine hK.out _ _ ⟨bC BK322 0, bC BK322 1, bC BK322 2, bC BK322 3⟩ (fun hHeld => ?_)
   clear hK K
   refine nB ?_
   refine pA (i := 3) (N := some 8) (mb 19 15) HT_ ?_
   refine pA (i := 4) (N := some 9) (mb 19 31) HT_ ?_
   refine tA4 (i := 5) (N := some 10) (mb 19 63) HT_ HW_ hHeld ?_
   refine pA (i := 6) (N := some 11) (mb 19 127) HT_ ?_
   refine pA (i := 7) (N := some 12) (mb 19 255) HT_ ?_
   refine pA (i := 8) (N := some 13) (mb 19 511) HT_ ?_
   refine pA (i := 9) (N := some 14) (mb 19 1023) HT_ ?_
   refine pU (i := 10) (N := some 15) (mb 19 2047) HT_ ?_
   refine pU (i := 11) (N := some 16) (mb 19 4095) HT_ ?_
   refine pU (i := 12) (N := some 17) (mb 19 8191) HT_ ?_
   refine pU (i := 13) (N := some 18) (mb 19 16383) HT_ ?_
   refine pU (i := 14) (N := some 19) (mb 19 32767) HT_ ?_
   refine pU (i := 15) (N := some 20) (mb 19 65535) HT_ ?_
   refine pU (i := 16) (N := some 21) (mb 19 131071) HT_ ?_
   refine pA (i := 17) (N := some 22) (mb 19 262143) HT_ ?_
   refine pA (i := 18) (N := some 4) (mb 19 524287) HT_ ?_
   refine eA HT_ ?_
   try go_wp2
   go_ret
   exact ⟨rA, bG⟩
 ·
  replace c4 := Bool.eq_false_iff.mpr c4
  subst c4
  have H1 : (some false) = some r := by rw [if_neg (show ¬ (false = true) by decide)] at H; exact H
  clear H
  have H := H1
  clear H1
  obtain rfl := Option.some.inj H
  go_enter Try.func81, Try.ntmps81
  try go_wp2_with (first | ((with_reducible refine gate_dst (N := 3) rfl ?_); (try (refine gate_guard (by rfl) ?_; dsimp only)); refine bE (N := 3) (cs := #[.slice A1_0 l1_0.length c1_0, .int .i64 a1_1, .slice A1_2 l1_2.length c1_2, .int .i64 a1_3]) (t := 57) ?_; intro gb322 hg w13 hbox hb; have n0_ := Aside0.mk (below_step bA hb); have n1_ := Aside0.mk (hbox); have n2_ := Aside0.mk ((by rw [hg]; exact (below_size bA) : w.heap.size ≤ gb322)); have n3_ := Aside0.mk ((by rw [hg]; exact (below_size bA) : w.heap.size ≤ gb322)); clear HB; have HB := n0_; have BK322 := n1_; have GW322 := n2_; have GE322 := n3_; clear n0_ n1_ n2_ n3_; clear hb hbox hg))
  replace BK322 := Aside0.mk (blk_drew BK322.out)
  have HBo := HB
  replace HB := Aside0.mk (below_drew1 HB.out)
  refine start_ (n := 19) (S := fun w' => w'.cell? ⟨gb322, 0, none⟩ = some (.slice A1_0 l1_0.length c1_0) ∧ w'.cell? ⟨gb322, 1, none⟩ = some (.int .i64 a1_1) ∧ w'.cell? ⟨gb322, 2, none⟩ = some (.slice A1_2 l1_2.length c1_2) ∧ w'.cell? ⟨gb322, 3, none⟩ = some (.int .i64 a1_3)) (ds := []) (mb 19 0) (by kernel_rfl) rfl rfl ⟨bC BK322 0, bC BK322 1, bC BK322 2, bC BK322 3⟩ (fun hHeld => ?_); refine with_tabW spec_CanEnd.tab1 spec_CanEnd.bits1 (fun HT_ HW_ => ?_)
  generalize w13.drew = w14 at BK322 HB hHeld ⊢
  refine pA (i := 0) (N := some 5) (mb 19 1) HT_ ?_
  refine tA4 (i := 1) (N := some 6) (mb 19 3) HT_ HW_ hHeld ?_
  refine oA (i := 2) (N := some 7) (mb 19 7) HT_ (fun K hK => ?_)
  refine gA Try.func92 #[.slice A0 l0.length c0, .agg #[.slice A1_0 l1_0.length c1_0, .int .i64 a1_1, .slice A1_2 l1_2.length c1_2, .int .i64 a1_3]] ?_
  with_reducible refine (spec_IsControl.calls k _ _ l0 _ _ l1_0 a1_1 _ _ l1_2 a1_3 false _ ?side1 ?side2 ?side3 ?side4 ?side5 ?side6 A3.out).mono ?_
  (case side1 => exact cB HR0)
  (case side2 => exact HC0.out)
  (case side3 => exact cB HR1_0)
  (case side4 => exact HC1_0.out)
  (case side5 => exact cB HR1_2)
  (case side6 => exact HC1_2.out)
  rintro e w15 ⟨rfl, hb⟩
  refine ⟨_, rfl, ?_⟩
  replace BK322 := Aside0.mk (blk_below (g := gb322) (bK BK322) hb)
  replace HB := Aside0.mk (below_step bG hb)
  (try clear hb)
  (try clear hb2)
  (try clear hk)
  (try clear hi)
  refine hK.out _ _ ⟨bC BK322 0, bC BK322 1, bC BK322 2, bC BK322 3⟩ (fun hHeld => ?_)
  clear hK K
  refine nB ?_
  refine pA (i := 3) (N := some 8) (mb 19 15) HT_ ?_
  refine pU (i := 4) (N := some 9) (mb 19 31) HT_ ?_
  refine pU (i := 5) (N := some 10) (mb 19 63) HT_ ?_
  refine pU (i := 6) (N := some 11) (mb 19 127) HT_ ?_
  refine pU (i := 7) (N := some 12) (mb 19 255) HT_ ?_
  refine pA (i := 8) (N := some 13) (mb 19 511) HT_ ?_
  refine pA (i := 9) (N := some 14) (mb 19 1023) HT_ ?_
  refine pU (i := 10) (N := some 15) (mb 19 2047) HT_ ?_
  refine pU (i := 11) (N := some 16) (mb 19 4095) HT_ ?_
  refine pU (i := 12) (N := some 17) (mb 19 8191) HT_ ?_
  refine pU (i := 13) (N := some 18) (mb 19 16383) HT_ ?_
  refine pU (i := 14) (N := some 19) (mb 19 32767) HT_ ?_
  refine pU (i := 15) (N := some 20) (mb 19 65535) HT_ ?_
  refine pU (i := 16) (N := some 21) (mb 19 131071) HT_ ?_
  refine pA (i := 17) (N := some 22) (mb 19 262143) HT_ ?_
  refine pA (i := 18) (N := some 4) (mb 19 524287) HT_ ?_
  refine eA HT_ ?_
  try go_wp2
  go_ret
  exact ⟨rA, bG⟩

/-! ### spec_MustChange: function 52 -/
def spec_MustChange.l0 : Nat → List (S89) → List (S115) → Bool → Int → List Int → Int → List Int → Int → Option (Bool)
 | 0, _, _, _, _, _, _, _, _ => none
 | k + 1, x0, x2, x7, x8, x326000, x326001, x326002, x326003 => if x8 < (x2.length : Int) then (if x7 = true then (spec_MustChange.l0 k x0 x2 true (wrap64 (x8 + 1)) x326000 x326001 x326002 x326003) else (if 0 ≤ x8 then ((spec_l6Has.f k x326000 ((rd_T115 x2 x8).f0)).bind fun t327 => (spec_MustChange.l0 k x0 x2 t327 (wrap64 (x8 + 1)) x326000 x326001 x326002 x326003)) else (none))) else ((spec_CanEnd.f k x0 x326000 x326001 x326002 x326003).bind fun t328 => (if t328 = true then ((spec_NextStage.f k x0 x326000 x326001 x326002 x326003 x2).bind fun t329 => (if (t329.length : Int) > 0 then (if x7 = true then (some (decide (x326001 ≥ 60))) else (some true)) else (some false))) else (some false)))
def spec_MustChange.f (k : Nat) (l0 : List (S89)) (l1_0 : List Int) (a1_1 : Int) (l1_2 : List Int) (a1_3 : Int) (l2 : List (S115)) : Option (Bool) := spec_MustChange.l0 k l0 l2 false 0 l1_0 a1_1 l1_2 a1_3
theorem spec_MustChange.mono_l : ∀ k, (∀ y0 y1 y2 y3 y4 y5 y6 y7, LeO (spec_MustChange.l0 k y0 y1 y2 y3 y4 y5 y6 y7) (spec_MustChange.l0 (k + 1) y0 y1 y2 y3 y4 y5 y6 y7))
 | 0 => fun _ _ _ _ _ _ _ _ r h => by simp [spec_MustChange.l0] at h
 | k + 1 => by
  have ih0 := spec_MustChange.mono_l k
  ·
   intro y0 y1 y2 y3 y4 y5 y6 y7
   unfold spec_MustChange.l0
   repeat' first | (with_reducible first | exact LeO.refl _ | exact LeO.none _ | refine LeO.ite ?_ ?_ | refine LeO.bind ?_ (fun _ => ?_) | exact ih0 _ _ _ _ _ _ _ _ | exact spec_CanEnd.mono _ _ _ _ _ _ | exact spec_NextStage.mono _ _ _ _ _ _ _ | exact spec_l6Has.mono _ _ _)
theorem spec_MustChange.mono : ∀ a0 a1 a2 a3 a4 a5 k, LeO (spec_MustChange.f k a0 a1 a2 a3 a4 a5) (spec_MustChange.f (k + 1) a0 a1 a2 a3 a4 a5) := by
 intro a0 a1 a2 a3 a4 a5 k
 have ih0 := spec_MustChange.mono_l k
 unfold spec_MustChange.f
 repeat' first | (with_reducible first | exact LeO.refl _ | exact LeO.none _ | refine LeO.ite ?_ ?_ | refine LeO.bind ?_ (fun _ => ?_) | exact ih0 _ _ _ _ _ _ _ _ | exact spec_CanEnd.mono _ _ _ _ _ _ | exact spec_NextStage.mono _ _ _ _ _ _ _ | exact spec_l6Has.mono _ _ _)
set_option maxHeartbeats 8000000 in
set_option maxRecDepth 100000 in
theorem spec_MustChange.calls (k : Nat) (A0 : Option Addr) (c0 : Nat) (l0 : List (S89)) (A1_0 : Option Addr) (c1_0 : Nat) (l1_0 : List Int) (a1_1 : Int) (A1_2 : Option Addr) (c1_2 : Nat) (l1_2 : List Int) (a1_3 : Int) (A2 : Option Addr) (c2 : Nat) (l2 : List (S115)) (r : Bool) (w : World) (hr0 : Kd.C k89 w A0 l0.length l0) (hc0 : l0.length ≤ c0) (hr1_0 : Kd.C (Kd.int .i64) w A1_0 l1_0.length l1_0) (hc1_0 : l1_0.length ≤ c1_0) (hr1_2 : Kd.C (Kd.int .i64) w A1_2 l1_2.length l1_2) (hc1_2 : l1_2.length ≤ c1_2) (hr2 : Kd.C k115 w A2 l2.length l2) (hc2 : l2.length ≤ c2) (h : spec_MustChange.f k l0 l1_0 a1_1 l1_2 a1_3 l2 = some r) :
  Calls Try.prog 52 #[.slice A0 l0.length c0, .agg #[.slice A1_0 l1_0.length c1_0, .int .i64 a1_1, .slice A1_2 l1_2.length c1_2, .int .i64 a1_3], .slice A2 l2.length c2] w fun e w' => e = .returned (.bool r) ∧ Below w.heap.size w w' := by
 have hu57 := Try.underlying57
 have HR0 := Aside0.mk hr0
 have HC0 := Aside0.mk hc0
 clear hr0 hc0
 have HR1_0 := Aside0.mk hr1_0
 have HC1_0 := Aside0.mk hc1_0
 clear hr1_0 hc1_0
 have HR1_2 := Aside0.mk hr1_2
 have HC1_2 := Aside0.mk hc1_2
 clear hr1_2 hc1_2
 have HR2 := Aside0.mk hr2
 have HC2 := Aside0.mk hc2
 clear hr2 hc2
 have HB := Aside0.mk (Below.refl w.heap.size w)
 have H : (spec_MustChange.l0 k l0 l2 false 0 l1_0 a1_1 l1_2 a1_3) = some r := h
 clear h
 have H' := Aside0.mk H
 clear H
 go_enter Try.func52, Try.ntmps52
 go_wp2_with (first | ((with_reducible refine gate_dst (N := 4) rfl ?_); (try (refine gate_guard (by rfl) ?_; dsimp only)); refine bE (N := 4) (cs := #[.slice A1_0 l1_0.length c1_0, .int .i64 a1_1, .slice A1_2 l1_2.length c1_2, .int .i64 a1_3]) (t := 57) ?_; intro gb325 hg w4 hbox hb; have n0_ := Aside0.mk (below_step bA hb); have n1_ := Aside0.mk (hbox); have n2_ := Aside0.mk ((by rw [hg]; exact (below_size bA) : w.heap.size ≤ gb325)); have n3_ := Aside0.mk ((by rw [hg]; exact (below_size bA) : w.heap.size ≤ gb325)); clear HB; have HB := n0_; have BK325 := n1_; have GW325 := n2_; have GE325 := n3_; clear n0_ n1_ n2_ n3_; clear hb hbox hg))
 repeat (go_quiet (first | ((with_reducible refine gate_dst (N := 4) rfl ?_); (try (refine gate_guard (by rfl) ?_; dsimp only)); refine bE (N := 4) (cs := #[.slice A1_0 l1_0.length c1_0, .int .i64 a1_1, .slice A1_2 l1_2.length c1_2, .int .i64 a1_3]) (t := 57) ?_; intro gb325 hg w4 hbox hb; have n0_ := Aside0.mk (below_step bA hb); have n1_ := Aside0.mk (hbox); have n2_ := Aside0.mk ((by rw [hg]; exact (below_size bA) : w.heap.size ≤ gb325)); have n3_ := Aside0.mk ((by rw [hg]; exact (below_size bA) : w.heap.size ≤ gb325)); clear HB; have HB := n0_; have BK325 := n1_; have GW325 := n2_; have GE325 := n3_; clear n0_ n1_ n2_ n3_; clear hb hbox hg)); try go_wp2_with (first | ((with_reducible refine gate_dst (N := 4) rfl ?_); (try (refine gate_guard (by rfl) ?_; dsimp only)); refine bE (N := 4) (cs := #[.slice A1_0 l1_0.length c1_0, .int .i64 a1_1, .slice A1_2 l1_2.length c1_2, .int .i64 a1_3]) (t := 57) ?_; intro gb325 hg w4 hbox hb; have n0_ := Aside0.mk (below_step bA hb); have n1_ := Aside0.mk (hbox); have n2_ := Aside0.mk ((by rw [hg]; exact (below_size bA) : w.heap.size ≤ gb325)); have n3_ := Aside0.mk ((by rw [hg]; exact (below_size bA) : w.heap.size ≤ gb325)); clear HB; have HB := n0_; have BK325 := n1_; have GW325 := n2_; have GE325 := n3_; clear n0_ n1_ n2_ n3_; clear hb hbox hg)))
 go_loopg [7, 8] k (fun kq v7 v8 w' => ∃ (x7_1 : Bool) (x8_1 : Int), v7 = .bool x7_1 ∧ v8 = .int .i64 x8_1 ∧ Aside0 (spec_MustChange.l0 kq l0 l2 x7_1 x8_1 l1_0 a1_1 l1_2 a1_3 = some r) ∧ Aside0 (kq ≤ k) ∧ Aside0 (w'.heap[gb325]? = some (.cells #[(.slice A1_0 l1_0.length c1_0), .int .i64 a1_1, (.slice A1_2 l1_2.length c1_2), .int .i64 a1_3] 57 (0, 0))) ∧ Aside0 (Below w.heap.size w w'))
 case atStart => exact ⟨(false), (0), rS, rS, H', ⟨Nat.le_refl _⟩, ⟨bK BK325⟩, ⟨bG⟩⟩
 case round =>
  clear H'
  try clear c1
  try clear c2
  try clear p2
  obtain ⟨x7_1, x8_1, rfl, rfl, HA, HK1, BK325, HB⟩ := hrel
  cases gk with
  | zero => exact absurd HA.out (by simp [spec_MustChange.l0])
  | succ k1 =>
   have H := HA.out
   clear HA
   simp only [spec_MustChange.l0] at H
   by_cases c5 : x8_1 < (l2.length : Int)
   ·
    rw [if_pos c5] at H
    have c5b0 := decide_eq_true c5
    clear c5
    by_cases c6 : x7_1 = true
    ·
     subst c6
     have H1 : (spec_MustChange.l0 k1 l0 l2 true (wrap64 (x8_1 + 1)) l1_0 a1_1 l1_2 a1_3) = some r := by rw [if_pos rfl] at H; exact H
     clear H
     have H := H1
     clear H1
     have H' := Aside0.mk H
     clear H
     go_wp2
     repeat (go_quiet (fail); try go_wp2)
     go_roundg k1
     case measure => have := HK1.out; omega
     case rel => exact ⟨(true), (wrap64 (x8_1 + 1)), rS, rS, H', ⟨by have := HK1.out; omega⟩, ⟨bK BK325⟩, ⟨bG⟩⟩
    ·
     replace c6 := Bool.eq_false_iff.mpr c6
     subst c6
     have H1 : (if 0 ≤ x8_1 then ((spec_l6Has.f k1 l1_0 ((rd_T115 l2 x8_1).f0)).bind fun t327 => (spec_MustChange.l0 k1 l0 l2 t327 (wrap64 (x8_1 + 1)) l1_0 a1_1 l1_2 a1_3)) else (none)) = some r := by rw [if_neg (show ¬ (false = true) by decide)] at H; exact H
     clear H
     have H := H1
     clear H1
     have c7 : 0 ≤ x8_1 := ifN H
     replace H := ifT H
     have c7b0 := decide_eq_true c7
     clear c7
     obtain ⟨t327, A8, H⟩ := bindE H
     try dsimp only at H
     have H' := Aside0.mk H
     clear H
     obtain ⟨hcz9_0, hcz9_1, hcz9_2, hcz9_3, hfz9_0, hfz9_1, hfz9_2, hfz9_3⟩ := blkc4 BK325
     have p326 : 0 ≤ (x8_1 : Int) := dA
     have q326 : x8_1 < (l2.length : Int) := dA
     obtain ⟨ad326, e326, hx326_0, hx326_1⟩ := at_T115 HR2.out x8_1 p326 q326
     cases e326
     replace hx326_0 := hC HB hx326_0
     replace hx326_1 := hC HB hx326_1
     replace p326 := eq_true p326
     replace q326 := eq_true q326
     go_wp2_with (first | (go_at_call 101; (with_reducible refine (spec_l6Has.calls k1 _ _ l1_0 ((rd_T115 l2 x8_1).f0) t327 _ ?side1 ?side2 A8.out).mono ?_); (case side1 => exact cB HR1_0); (case side2 => exact HC1_0.out); rintro e w' ⟨rfl, ⟨nd, rfl⟩⟩; (try first | exact ⟨rfl, _, World.drewN_drewN _ _ _⟩ | exact ⟨rfl, _, Eq.trans (World.drewN_drewN _ _ _) (congrArg (World.drewN _) (Nat.add_assoc _ _ _))⟩)))
     repeat (go_quiet (first | (go_at_call 101; (with_reducible refine (spec_l6Has.calls k1 _ _ l1_0 ((rd_T115 l2 x8_1).f0) t327 _ ?side1 ?side2 A8.out).mono ?_); (case side1 => exact cB HR1_0); (case side2 => exact HC1_0.out); rintro e w' ⟨rfl, ⟨nd, rfl⟩⟩; (try first | exact ⟨rfl, _, World.drewN_drewN _ _ _⟩ | exact ⟨rfl, _, Eq.trans (World.drewN_drewN _ _ _) (congrArg (World.drewN _) (Nat.add_assoc _ _ _))⟩))); try go_wp2_with (first | (go_at_call 101; (with_reducible refine (spec_l6Has.calls k1 _ _ l1_0 ((rd_T115 l2 x8_1).f0) t327 _ ?side1 ?side2 A8.out).mono ?_); (case side1 => exact cB HR1_0); (case side2 => exact HC1_0.out); rintro e w' ⟨rfl, ⟨nd, rfl⟩⟩; (try first | exact ⟨rfl, _, World.drewN_drewN _ _ _⟩ | exact ⟨rfl, _, Eq.trans (World.drewN_drewN _ _ _) (congrArg (World.drewN _) (Nat.add_assoc _ _ _))⟩))))
     go_roundg k1
     case measure => have := HK1.out; omega
     case rel => exact ⟨(t327), (wrap64 (x8_1 + 1)), rS, rS, H', ⟨by have := HK1.out; omega⟩, ⟨bK BK325⟩, ⟨bG⟩⟩
   ·
    rw [if_neg c5] at H
    have c5b0 := decide_eq_false c5
    clear c5
    obtain ⟨t328, A10, H⟩ := bindE H
    try dsimp only at H
    by_cases c11 : t328 = true
    ·
     subst c11
     have H1 : ((spec_NextStage.f k1 l0 l1_0 a1_1 l1_2 a1_3 l2).bind fun t329 => (if (t329.length : Int) > 0 then (if x7_1 = true then (some (decide (a1_1 ≥ 60))) else (some true)) else (some false))) = some r := by rw [if_pos rfl] at H; exact H
     clear H
     have H := H1
     clear H1
     obtain ⟨t329, A12, H⟩ := bindE H
     try dsimp only at H
     by_cases c13 : (t329.length : Int) > 0
     ·
      rw [if_pos c13] at H
      have c13b0 := decide_eq_true c13
      have c13b1 : decide (0 < t329.length) = true := decide_eq_true (by omega)
      clear c13
      by_cases c14 : x7_1 = true
      ·
       subst c14
       have H1 : (some (decide (a1_1 ≥ 60))) = some r := by rw [if_pos rfl] at H; exact H
       clear H
       have H := H1
       clear H1
       obtain rfl := Option.some.inj H
       obtain ⟨hcz15_0, hcz15_1, hcz15_2, hcz15_3, hfz15_0, hfz15_1, hfz15_2, hfz15_3⟩ := blkc4 BK325
       go_wp2_with (first | (go_at_call 81; (with_reducible refine (spec_CanEnd.calls k1 _ _ l0 _ _ l1_0 a1_1 _ _ l1_2 a1_3 true _ ?side1 ?side2 ?side3 ?side4 ?side5 ?side6 A10.out).mono ?_); (case side1 => exact cB HR0); (case side2 => exact HC0.out); (case side3 => exact cB HR1_0); (case side4 => exact HC1_0.out); (case side5 => exact cB HR1_2); (case side6 => exact HC1_2.out); rintro e w16 ⟨rfl, hb⟩; replace BK325 := Aside0.mk (blk_below (g := gb325) (bK BK325) hb); replace HB := Aside0.mk (below_step bG hb); (try clear hb); have hcz17_0 : w16.cell? ⟨gb325, 0, none⟩ = some (.slice A1_0 l1_0.length c1_0) := bC BK325 0; have hcz17_1 : w16.cell? ⟨gb325, 1, none⟩ = some (.int .i64 a1_1) := bC BK325 1; have hcz17_2 : w16.cell? ⟨gb325, 2, none⟩ = some (.slice A1_2 l1_2.length c1_2) := bC BK325 2; have hcz17_3 : w16.cell? ⟨gb325, 3, none⟩ = some (.int .i64 a1_3) := bC BK325 3; have hfz17_0 := blk_frozen BK325.out 0; have hfz17_1 := blk_frozen BK325.out 1; have hfz17_2 := blk_frozen BK325.out 2; have hfz17_3 := blk_frozen BK325.out 3) | (go_at_call 47; (with_reducible refine (spec_NextStage.calls k1 _ _ l0 _ _ l1_0 a1_1 _ _ l1_2 a1_3 _ _ l2 t329 _ ?side1 ?side2 ?side3 ?side4 ?side5 ?side6 ?side7 ?side8 A12.out).mono ?_); (case side1 => exact cB HR0); (case side2 => exact HC0.out); (case side3 => exact cB HR1_0); (case side4 => exact HC1_0.out); (case side5 => exact cB HR1_2); (case side6 => exact HC1_2.out); (case side7 => exact cB HR2); (case side8 => exact HC2.out); rintro e w18 ⟨v330, rfl, ho0, hb⟩; have HO331 := Aside0.mk (Kd.R_lower ho0 (below_size bG)); replace BK325 := Aside0.mk (blk_below (g := gb325) (bK BK325) hb); replace HB := Aside0.mk (below_step bG hb); (try clear hb); (try clear ho0); obtain ⟨Ao19, co19, eo19⟩ := Kd.R_slice HO331.out; subst eo19; obtain ⟨hcz20_0, hcz20_1, hcz20_2, hcz20_3, hfz20_0, hfz20_1, hfz20_2, hfz20_3⟩ := blkc4 BK325))
       repeat (go_quiet (first | (go_at_call 81; (with_reducible refine (spec_CanEnd.calls k1 _ _ l0 _ _ l1_0 a1_1 _ _ l1_2 a1_3 true _ ?side1 ?side2 ?side3 ?side4 ?side5 ?side6 A10.out).mono ?_); (case side1 => exact cB HR0); (case side2 => exact HC0.out); (case side3 => exact cB HR1_0); (case side4 => exact HC1_0.out); (case side5 => exact cB HR1_2); (case side6 => exact HC1_2.out); rintro e w16 ⟨rfl, hb⟩; replace BK325 := Aside0.mk (blk_below (g := gb325) (bK BK325) hb); replace HB := Aside0.mk (below_step bG hb); (try clear hb); have hcz17_0 : w16.cell? ⟨gb325, 0, none⟩ = some (.slice A1_0 l1_0.length c1_0) := bC BK325 0; have hcz17_1 : w16.cell? ⟨gb325, 1, none⟩ = some (.int .i64 a1_1) := bC BK325 1; have hcz17_2 : w16.cell? ⟨gb325, 2, none⟩ = some (.slice A1_2 l1_2.length c1_2) := bC BK325 2; have hcz17_3 : w16.cell? ⟨gb325, 3, none⟩ = some (.int .i64 a1_3) := bC BK325 3; have hfz17_0 := blk_frozen BK325.out 0; have hfz17_1 := blk_frozen BK325.out 1; have hfz17_2 := blk_frozen BK325.out 2; have hfz17_3 := blk_frozen BK325.out 3) | (go_at_call 47; (with_reducible refine (spec_NextStage.calls k1 _ _ l0 _ _ l1_0 a1_1 _ _ l1_2 a1_3 _ _ l2 t329 _ ?side1 ?side2 ?side3 ?side4 ?side5 ?side6 ?side7 ?side8 A12.out).mono ?_); (case side1 => exact cB HR0); (case side2 => exact HC0.out); (case side3 => exact cB HR1_0); (case side4 => exact HC1_0.out); (case side5 => exact cB HR1_2); (case side6 => exact HC1_2.out); (case side7 => exact cB HR2); (case side8 => exact HC2.out); rintro e w18 ⟨v330, rfl, ho0, hb⟩; have HO331 := Aside0.mk (Kd.R_lower ho0 (below_size bG)); replace BK325 := Aside0.mk (blk_below (g := gb325) (bK BK325) hb); replace HB := Aside0.mk (below_step bG hb); (try clear hb); (try clear ho0); obtain ⟨Ao19, co19, eo19⟩ := Kd.R_slice HO331.out; subst eo19; obtain ⟨hcz20_0, hcz20_1, hcz20_2, hcz20_3, hfz20_0, hfz20_1, hfz20_2, hfz20_3⟩ := blkc4 BK325)); try go_wp2_with (first | (go_at_call 81; (with_reducible refine (spec_CanEnd.calls k1 _ _ l0 _ _ l1_0 a1_1 _ _ l1_2 a1_3 true _ ?side1 ?side2 ?side3 ?side4 ?side5 ?side6 A10.out).mono ?_); (case side1 => exact cB HR0); (case side2 => exact HC0.out); (case side3 => exact cB HR1_0); (case side4 => exact HC1_0.out); (case side5 => exact cB HR1_2); (case side6 => exact HC1_2.out); rintro e w16 ⟨rfl, hb⟩; replace BK325 := Aside0.mk (blk_below (g := gb325) (bK BK325) hb); replace HB := Aside0.mk (below_step bG hb); (try clear hb); have hcz17_0 : w16.cell? ⟨gb325, 0, none⟩ = some (.slice A1_0 l1_0.length c1_0) := bC BK325 0; have hcz17_1 : w16.cell? ⟨gb325, 1, none⟩ = some (.int .i64 a1_1) := bC BK325 1; have hcz17_2 : w16.cell? ⟨gb325, 2, none⟩ = some (.slice A1_2 l1_2.length c1_2) := bC BK325 2; have hcz17_3 : w16.cell? ⟨gb325, 3, none⟩ = some (.int .i64 a1_3) := bC BK325 3; have hfz17_0 := blk_frozen BK325.out 0; have hfz17_1 := blk_frozen BK325.out 1; have hfz17_2 := blk_frozen BK325.out 2; have hfz17_3 := blk_frozen BK325.out 3) | (go_at_call 47; (with_reducible refine (spec_NextStage.calls k1 _ _ l0 _ _ l1_0 a1_1 _ _ l1_2 a1_3 _ _ l2 t329 _ ?side1 ?side2 ?side3 ?side4 ?side5 ?side6 ?side7 ?side8 A12.out).mono ?_); (case side1 => exact cB HR0); (case side2 => exact HC0.out); (case side3 => exact cB HR1_0); (case side4 => exact HC1_0.out); (case side5 => exact cB HR1_2); (case side6 => exact HC1_2.out); (case side7 => exact cB HR2); (case side8 => exact HC2.out); rintro e w18 ⟨v330, rfl, ho0, hb⟩; have HO331 := Aside0.mk (Kd.R_lower ho0 (below_size bG)); replace BK325 := Aside0.mk (blk_below (g := gb325) (bK BK325) hb); replace HB := Aside0.mk (below_step bG hb); (try clear hb); (try clear ho0); obtain ⟨Ao19, co19, eo19⟩ := Kd.R_slice HO331.out; subst eo19; obtain ⟨hcz20_0, hcz20_1, hcz20_2, hcz20_3, hfz20_0, hfz20_1, hfz20_2, hfz20_3⟩ := blkc4 BK325)))
       go_ret
       exact ⟨rA, bG⟩
      ·
       replace c14 := Bool.eq_false_iff.mpr c14
       subst c14
       have H1 : (some true) = some r := by rw [if_neg (show ¬ (false = true) by decide)] at H; exact H
       clear H
       have H := H1
       clear H1
       obtain rfl := Option.some.inj H
       obtain ⟨hcz21_0, hcz21_1, hcz21_2, hcz21_3, hfz21_0, hfz21_1, hfz21_2, hfz21_3⟩ := blkc4 BK325
       go_wp2_with (first | (go_at_call 81; (with_reducible refine (spec_CanEnd.calls k1 _ _ l0 _ _ l1_0 a1_1 _ _ l1_2 a1_3 true _ ?side1 ?side2 ?side3 ?side4 ?side5 ?side6 A10.out).mono ?_); (case side1 => exact cB HR0); (case side2 => exact HC0.out); (case side3 => exact cB HR1_0); (case side4 => exact HC1_0.out); (case side5 => exact cB HR1_2); (case side6 => exact HC1_2.out); rintro e w22 ⟨rfl, hb⟩; replace BK325 := Aside0.mk (blk_below (g := gb325) (bK BK325) hb); replace HB := Aside0.mk (below_step bG hb); (try clear hb); have hcz23_0 : w22.cell? ⟨gb325, 0, none⟩ = some (.slice A1_0 l1_0.length c1_0) := bC BK325 0; have hcz23_1 : w22.cell? ⟨gb325, 1, none⟩ = some (.int .i64 a1_1) := bC BK325 1; have hcz23_2 : w22.cell? ⟨gb325, 2, none⟩ = some (.slice A1_2 l1_2.length c1_2) := bC BK325 2; have hcz23_3 : w22.cell? ⟨gb325, 3, none⟩ = some (.int .i64 a1_3) := bC BK325 3; have hfz23_0 := blk_frozen BK325.out 0; have hfz23_1 := blk_frozen BK325.out 1; have hfz23_2 := blk_frozen BK325.out 2; have hfz23_3 := blk_frozen BK325.out 3) | (go_at_call 47; (with_reducible refine (spec_NextStage.calls k1 _ _ l0 _ _ l1_0 a1_1 _ _ l1_2 a1_3 _ _ l2 t329 _ ?side1 ?side2 ?side3 ?side4 ?side5 ?side6 ?side7 ?side8 A12.out).mono ?_); (case side1 => exact cB HR0); (case side2 => exact HC0.out); (case side3 => exact cB HR1_0); (case side4 => exact HC1_0.out); (case side5 => exact cB HR1_2); (case side6 => exact HC1_2.out); (case side7 => exact cB HR2); (case side8 => exact HC2.out); rintro e w24 ⟨v330, rfl, ho0, hb⟩; have HO331 := Aside0.mk (Kd.R_lower ho0 (below_size bG)); replace BK325 := Aside0.mk (blk_below (g := gb325) (bK BK325) hb); replace HB := Aside0.mk (below_step bG hb); (try clear hb); (try clear ho0); obtain ⟨Ao25, co25, eo25⟩ := Kd.R_slice HO331.out; subst eo25))
       repeat (go_quiet (first | (go_at_call 81; (with_reducible refine (spec_CanEnd.calls k1 _ _ l0 _ _ l1_0 a1_1 _ _ l1_2 a1_3 true _ ?side1 ?side2 ?side3 ?side4 ?side5 ?side6 A10.out).mono ?_); (case side1 => exact cB HR0); (case side2 => exact HC0.out); (case side3 => exact cB HR1_0); (case side4 => exact HC1_0.out); (case side5 => exact cB HR1_2); (case side6 => exact HC1_2.out); rintro e w22 ⟨rfl, hb⟩; replace BK325 := Aside0.mk (blk_below (g := gb325) (bK BK325) hb); replace HB := Aside0.mk (below_step bG hb); (try clear hb); have hcz23_0 : w22.cell? ⟨gb325, 0, none⟩ = some (.slice A1_0 l1_0.length c1_0) := bC BK325 0; have hcz23_1 : w22.cell? ⟨gb325, 1, none⟩ = some (.int .i64 a1_1) := bC BK325 1; have hcz23_2 : w22.cell? ⟨gb325, 2, none⟩ = some (.slice A1_2 l1_2.length c1_2) := bC BK325 2; have hcz23_3 : w22.cell? ⟨gb325, 3, none⟩ = some (.int .i64 a1_3) := bC BK325 3; have hfz23_0 := blk_frozen BK325.out 0; have hfz23_1 := blk_frozen BK325.out 1; have hfz23_2 := blk_frozen BK325.out 2; have hfz23_3 := blk_frozen BK325.out 3) | (go_at_call 47; (with_reducible refine (spec_NextStage.calls k1 _ _ l0 _ _ l1_0 a1_1 _ _ l1_2 a1_3 _ _ l2 t329 _ ?side1 ?side2 ?side3 ?side4 ?side5 ?side6 ?side7 ?side8 A12.out).mono ?_); (case side1 => exact cB HR0); (case side2 => exact HC0.out); (case side3 => exact cB HR1_0); (case side4 => exact HC1_0.out); (case side5 => exact cB HR1_2); (case side6 => exact HC1_2.out); (case side7 => exact cB HR2); (case side8 => exact HC2.out); rintro e w24 ⟨v330, rfl, ho0, hb⟩; have HO331 := Aside0.mk (Kd.R_lower ho0 (below_size bG)); replace BK325 := Aside0.mk (blk_below (g := gb325) (bK BK325) hb); replace HB := Aside0.mk (below_step bG hb); (try clear hb); (try clear ho0); obtain ⟨Ao25, co25, eo25⟩ := Kd.R_slice HO331.out; subst eo25)); try go_wp2_with (first | (go_at_call 81; (with_reducible refine (spec_CanEnd.calls k1 _ _ l0 _ _ l1_0 a1_1 _ _ l1_2 a1_3 true _ ?side1 ?side2 ?side3 ?side4 ?side5 ?side6 A10.out).mono ?_); (case side1 => exact cB HR0); (case side2 => exact HC0.out); (case side3 => exact cB HR1_0); (case side4 => exact HC1_0.out); (case side5 => exact cB HR1_2); (case side6 => exact HC1_2.out); rintro e w22 ⟨rfl, hb⟩; replace BK325 := Aside0.mk (blk_below (g := gb325) (bK BK325) hb); replace HB := Aside0.mk (below_step bG hb); (try clear hb); have hcz23_0 : w22.cell? ⟨gb325, 0, none⟩ = some (.slice A1_0 l1_0.length c1_0) := bC BK325 0; have hcz23_1 : w22.cell? ⟨gb325, 1, none⟩ = some (.int .i64 a1_1) := bC BK325 1; have hcz23_2 : w22.cell? ⟨gb325, 2, none⟩ = some (.slice A1_2 l1_2.length c1_2) := bC BK325 2; have hcz23_3 : w22.cell? ⟨gb325, 3, none⟩ = some (.int .i64 a1_3) := bC BK325 3; have hfz23_0 := blk_frozen BK325.out 0; have hfz23_1 := blk_frozen BK325.out 1; have hfz23_2 := blk_frozen BK325.out 2; have hfz23_3 := blk_frozen BK325.out 3) | (go_at_call 47; (with_reducible refine (spec_NextStage.calls k1 _ _ l0 _ _ l1_0 a1_1 _ _ l1_2 a1_3 _ _ l2 t329 _ ?side1 ?side2 ?side3 ?side4 ?side5 ?side6 ?side7 ?side8 A12.out).mono ?_); (case side1 => exact cB HR0); (case side2 => exact HC0.out); (case side3 => exact cB HR1_0); (case side4 => exact HC1_0.out); (case side5 => exact cB HR1_2); (case side6 => exact HC1_2.out); (case side7 => exact cB HR2); (case side8 => exact HC2.out); rintro e w24 ⟨v330, rfl, ho0, hb⟩; have HO331 := Aside0.mk (Kd.R_lower ho0 (below_size bG)); replace BK325 := Aside0.mk (blk_below (g := gb325) (bK BK325) hb); replace HB := Aside0.mk (below_step bG hb); (try clear hb); (try clear ho0); obtain ⟨Ao25, co25, eo25⟩ := Kd.R_slice HO331.out; subst eo25)))
       go_ret
       exact ⟨rA, bG⟩
     ·
      rw [if_neg c13] at H
      have c13b0 := decide_eq_false c13
      have c13b1 : decide (0 < t329.length) = false := decide_eq_false (by omega)
      clear c13
      obtain rfl := Option.some.inj H
      obtain ⟨hcz26_0, hcz26_1, hcz26_2, hcz26_3, hfz26_0, hfz26_1, hfz26_2, hfz26_3⟩ := blkc4 BK325
      go_wp2_with (first | (go_at_call 81; (with_reducible refine (spec_CanEnd.calls k1 _ _ l0 _ _ l1_0 a1_1 _ _ l1_2 a1_3 true _ ?side1 ?side2 ?side3 ?side4 ?side5 ?side6 A10.out).mono ?_); (case side1 => exact cB HR0); (case side2 => exact HC0.out); (case side3 => exact cB HR1_0); (case side4 => exact HC1_0.out); (case side5 => exact cB HR1_2); (case side6 => exact HC1_2.out); rintro e w27 ⟨rfl, hb⟩; replace BK325 := Aside0.mk (blk_below (g := gb325) (bK BK325) hb); replace HB := Aside0.mk (below_step bG hb); (try clear hb); have hcz28_0 : w27.cell? ⟨gb325, 0, none⟩ = some (.slice A1_0 l1_0.length c1_0) := bC BK325 0; have hcz28_1 : w27.cell? ⟨gb325, 1, none⟩ = some (.int .i64 a1_1) := bC BK325 1; have hcz28_2 : w27.cell? ⟨gb325, 2, none⟩ = some (.slice A1_2 l1_2.length c1_2) := bC BK325 2; have hcz28_3 : w27.cell? ⟨gb325, 3, none⟩ = some (.int .i64 a1_3) := bC BK325 3; have hfz28_0 := blk_frozen BK325.out 0; have hfz28_1 := blk_frozen BK325.out 1; have hfz28_2 := blk_frozen BK325.out 2; have hfz28_3 := blk_frozen BK325.out 3) | (go_at_call 47; (with_reducible refine (spec_NextStage.calls k1 _ _ l0 _ _ l1_0 a1_1 _ _ l1_2 a1_3 _ _ l2 t329 _ ?side1 ?side2 ?side3 ?side4 ?side5 ?side6 ?side7 ?side8 A12.out).mono ?_); (case side1 => exact cB HR0); (case side2 => exact HC0.out); (case side3 => exact cB HR1_0); (case side4 => exact HC1_0.out); (case side5 => exact cB HR1_2); (case side6 => exact HC1_2.out); (case side7 => exact cB HR2); (case side8 => exact HC2.out); rintro e w29 ⟨v330, rfl, ho0, hb⟩; have HO331 := Aside0.mk (Kd.R_lower ho0 (below_size bG)); replace BK325 := Aside0.mk (blk_below (g := gb325) (bK BK325) hb); replace HB := Aside0.mk (below_step bG hb); (try clear hb); (try clear ho0); obtain ⟨Ao30, co30, eo30⟩ := Kd.R_slice HO331.out; subst eo30))
      repeat (go_quiet (first | (go_at_call 81; (with_reducible refine (spec_CanEnd.calls k1 _ _ l0 _ _ l1_0 a1_1 _ _ l1_2 a1_3 true _ ?side1 ?side2 ?side3 ?side4 ?side5 ?side6 A10.out).mono ?_); (case side1 => exact cB HR0); (case side2 => exact HC0.out); (case side3 => exact cB HR1_0); (case side4 => exact HC1_0.out); (case side5 => exact cB HR1_2); (case side6 => exact HC1_2.out); rintro e w27 ⟨rfl, hb⟩; replace BK325 := Aside0.mk (blk_below (g := gb325) (bK BK325) hb); replace HB := Aside0.mk (below_step bG hb); (try clear hb); have hcz28_0 : w27.cell? ⟨gb325, 0, none⟩ = some (.slice A1_0 l1_0.length c1_0) := bC BK325 0; have hcz28_1 : w27.cell? ⟨gb325, 1, none⟩ = some (.int .i64 a1_1) := bC BK325 1; have hcz28_2 : w27.cell? ⟨gb325, 2, none⟩ = some (.slice A1_2 l1_2.length c1_2) := bC BK325 2; have hcz28_3 : w27.cell? ⟨gb325, 3, none⟩ = some (.int .i64 a1_3) := bC BK325 3; have hfz28_0 := blk_frozen BK325.out 0; have hfz28_1 := blk_frozen BK325.out 1; have hfz28_2 := blk_frozen BK325.out 2; have hfz28_3 := blk_frozen BK325.out 3) | (go_at_call 47; (with_reducible refine (spec_NextStage.calls k1 _ _ l0 _ _ l1_0 a1_1 _ _ l1_2 a1_3 _ _ l2 t329 _ ?side1 ?side2 ?side3 ?side4 ?side5 ?side6 ?side7 ?side8 A12.out).mono ?_); (case side1 => exact cB HR0); (case side2 => exact HC0.out); (case side3 => exact cB HR1_0); (case side4 => exact HC1_0.out); (case side5 => exact cB HR1_2); (case side6 => exact HC1_2.out); (case side7 => exact cB HR2); (case side8 => exact HC2.out); rintro e w29 ⟨v330, rfl, ho0, hb⟩; have HO331 := Aside0.mk (Kd.R_lower ho0 (below_size bG)); replace BK325 := Aside0.mk (blk_below (g := gb325) (bK BK325) hb); replace HB := Aside0.mk (below_step bG hb); (try clear hb); (try clear ho0); obtain ⟨Ao30, co30, eo30⟩ := Kd.R_slice HO331.out; subst eo30)); try go_wp2_with (first | (go_at_call 81; (with_reducible refine (spec_CanEnd.calls k1 _ _ l0 _ _ l1_0 a1_1 _ _ l1_2 a1_3 true _ ?side1 ?side2 ?side3 ?side4 ?side5 ?side6 A10.out).mono ?_); (case side1 => exact cB HR0); (case side2 => exact HC0.out); (case side3 => exact cB HR1_0); (case side4 => exact HC1_0.out); (case side5 => exact cB HR1_2); (case side6 => exact HC1_2.out); rintro e w27 ⟨rfl, hb⟩; replace BK325 := Aside0.mk (blk_below (g := gb325) (bK BK325) hb); replace HB := Aside0.mk (below_step bG hb); (try clear hb); have hcz28_0 : w27.cell? ⟨gb325, 0, none⟩ = some (.slice A1_0 l1_0.length c1_0) := bC BK325 0; have hcz28_1 : w27.cell? ⟨gb325, 1, none⟩ = some (.int .i64 a1_1) := bC BK325 1; have hcz28_2 : w27.cell? ⟨gb325, 2, none⟩ = some (.slice A1_2 l1_2.length c1_2) := bC BK325 2; have hcz28_3 : w27.cell? ⟨gb325, 3, none⟩ = some (.int .i64 a1_3) := bC BK325 3; have hfz28_0 := blk_frozen BK325.out 0; have hfz28_1 := blk_frozen BK325.out 1; have hfz28_2 := blk_frozen BK325.out 2; have hfz28_3 := blk_frozen BK325.out 3) | (go_at_call 47; (with_reducible refine (spec_NextStage.calls k1 _ _ l0 _ _ l1_0 a1_1 _ _ l1_2 a1_3 _ _ l2 t329 _ ?side1 ?side2 ?side3 ?side4 ?side5 ?side6 ?side7 ?side8 A12.out).mono ?_); (case side1 => exact cB HR0); (case side2 => exact HC0.out); (case side3 => exact cB HR1_0); (case side4 => exact HC1_0.out); (case side5 => exact cB HR1_2); (case side6 => exact HC1_2.out); (case side7 => exact cB HR2); (case side8 => exact HC2.out); rintro e w29 ⟨v330, rfl, ho0, hb⟩; have HO331 := Aside0.mk (Kd.R_lower ho0 (below_size bG)); replace BK325 := Aside0.mk (blk_below (g := gb325) (bK BK325) hb); replace HB := Aside0.mk (below_step bG hb); (try clear hb); (try clear ho0); obtain ⟨Ao30, co30, eo30⟩ := Kd.R_slice HO331.out; subst eo30)))
      go_ret
      exact ⟨rA, bG⟩
    ·
     replace c11 := Bool.eq_false_iff.mpr c11
     subst c11
     have H1 : (some false) = some r := by rw [if_neg (show ¬ (false = true) by decide)] at H; exact H
     clear H
     have H := H1
     clear H1
     obtain rfl := Option.some.inj H
     obtain ⟨hcz31_0, hcz31_1, hcz31_2, hcz31_3, hfz31_0, hfz31_1, hfz31_2, hfz31_3⟩ := blkc4 BK325
     go_wp2_with (first | (go_at_call 81; (with_reducible refine (spec_CanEnd.calls k1 _ _ l0 _ _ l1_0 a1_1 _ _ l1_2 a1_3 false _ ?side1 ?side2 ?side3 ?side4 ?side5 ?side6 A10.out).mono ?_); (case side1 => exact cB HR0); (case side2 => exact HC0.out); (case side3 => exact cB HR1_0); (case side4 => exact HC1_0.out); (case side5 => exact cB HR1_2); (case side6 => exact HC1_2.out); rintro e w32 ⟨rfl, hb⟩; replace BK325 := Aside0.mk (blk_below (g := gb325) (bK BK325) hb); replace HB := Aside0.mk (below_step bG hb); (try clear hb)))
     repeat (go_quiet (first | (go_at_call 81; (with_reducible refine (spec_CanEnd.calls k1 _ _ l0 _ _ l1_0 a1_1 _ _ l1_2 a1_3 false _ ?side1 ?side2 ?side3 ?side4 ?side5 ?side6 A10.out).mono ?_); (case side1 => exact cB HR0); (case side2 => exact HC0.out); (case side3 => exact cB HR1_0); (case side4 => exact HC1_0.out); (case side5 => exact cB HR1_2); (case side6 => exact HC1_2.out); rintro e w32 ⟨rfl, hb⟩; replace BK325 := Aside0.mk (blk_below (g := gb325) (bK BK325) hb); replace HB := Aside0.mk (below_step bG hb); (try clear hb))); try go_wp2_with (first | (go_at_call 81; (with_reducible refine (spec_CanEnd.calls k1 _ _ l0 _ _ l1_0 a1_1 _ _ l1_2 a1_3 false _ ?side1 ?side2 ?side3 ?side4 ?side5 ?side6 A10.out).mono ?_); (case side1 => exact cB HR0); (case side2 => exact HC0.out); (case side3 => exact cB HR1_0); (case side4 => exact HC1_0.out); (case side5 => exact cB HR1_2); (case side6 => exact HC1_2.out); rintro e w32 ⟨rfl, hb⟩; replace BK325 := Aside0.mk (blk_below (g := gb325) (bK BK325) hb); replace HB := Aside0.mk (below_step bG hb); (try clear hb))))
     go_ret
     exact ⟨rA, bG⟩

/-! ### slices_Index_int_int: function 138 -/
def slices_Index_int_int.l0 : Nat → List Int → Int → Int → Int → Option (Int)
 | 0, _, _, _, _ => none
 | k + 1, x0, x1, x7, x8 => if x8 < x7 then (if 0 ≤ x8 then (if x8 < (x0.length : Int) then (if x1 = (rd x0 x8) then (some x8) else (slices_Index_int_int.l0 k x0 x1 x7 (wrap64 (x8 + 1)))) else (none)) else (none)) else (some (-1))
def slices_Index_int_int.f (k : Nat) (l0 : List Int) (a1 : Int) : Option (Int) := slices_Index_int_int.l0 k l0 a1 (l0.length : Int) 0
theorem slices_Index_int_int.mono_l : ∀ k, (∀ y0 y1 y2 y3, LeO (slices_Index_int_int.l0 k y0 y1 y2 y3) (slices_Index_int_int.l0 (k + 1) y0 y1 y2 y3))
 | 0 => fun _ _ _ _ r h => by simp [slices_Index_int_int.l0] at h
 | k + 1 => by
  have ih0 := slices_Index_int_int.mono_l k
  ·
   intro y0 y1 y2 y3
   unfold slices_Index_int_int.l0
   repeat' first | (with_reducible first | exact LeO.refl _ | exact LeO.none _ | refine LeO.ite ?_ ?_ | refine LeO.bind ?_ (fun _ => ?_) | exact ih0 _ _ _ _)
theorem slices_Index_int_int.mono : ∀ a0 a1 k, LeO (slices_Index_int_int.f k a0 a1) (slices_Index_int_int.f (k + 1) a0 a1) := by
 intro a0 a1 k
 have ih0 := slices_Index_int_int.mono_l k
 unfold slices_Index_int_int.f
 repeat' first | (with_reducible first | exact LeO.refl _ | exact LeO.none _ | refine LeO.ite ?_ ?_ | refine LeO.bind ?_ (fun _ => ?_) | exact ih0 _ _ _ _)
set_option maxHeartbeats 8000000 in
set_option maxRecDepth 100000 in
theorem slices_Index_int_int.calls (k : Nat) (A0 : Option Addr) (c0 : Nat) (l0 : List Int) (a1 : Int) (r : Int) (w : World) (hr0 : Kd.C (Kd.int .i64) w A0 l0.length l0) (hc0 : l0.length ≤ c0) (h : slices_Index_int_int.f k l0 a1 = some r) :
  Calls Try.prog 138 #[.slice A0 l0.length c0, .int .i64 a1] w fun e w' => e = .returned (.int .i64 r) ∧ Drawn0 w w' := by
 have HR0 := Aside0.mk hr0
 have HC0 := Aside0.mk hc0
 clear hr0 hc0
 have H : (slices_Index_int_int.l0 k l0 a1 (l0.length : Int) 0) = some r := h
 clear h
 have H' := Aside0.mk H
 clear H
 go_enter Try.func138, Try.ntmps138
 go_wp2
 go_loopg [8] k (fun kq v8 w' => ∃ (x8_1 : Int), v8 = .int .i64 x8_1 ∧ Aside0 (slices_Index_int_int.l0 kq l0 a1 (l0.length : Int) x8_1 = some r) ∧ Aside0 (kq ≤ k) ∧ Drawn0 w w')
 case atStart => exact ⟨(0), rS, H', ⟨Nat.le_refl _⟩, by repeat (first | exact Drawn0.refl _ | apply Drawn0.step)⟩
 case round =>
  clear H'
  try clear c1
  try clear p2
  obtain ⟨x8_1, rfl, HA, HK1, ⟨m1, rfl⟩⟩ := hrel
  cases gk with
  | zero => exact absurd HA.out (by simp [slices_Index_int_int.l0])
  | succ k1 =>
   have H := HA.out
   clear HA
   simp only [slices_Index_int_int.l0] at H
   by_cases c3 : x8_1 < (l0.length : Int)
   ·
    rw [if_pos c3] at H
    have c3b0 := decide_eq_true c3
    clear c3
    have c4 : 0 ≤ x8_1 := ifN H
    replace H := ifT H
    have c4b0 := decide_eq_true c4
    clear c4
    have c5 : x8_1 < (l0.length : Int) := ifN H
    replace H := ifT H
    have c5b0 := decide_eq_true c5
    clear c5
    by_cases c6 : a1 = (rd l0 x8_1)
    ·
     rw [if_pos c6] at H
     have c6b0 : (a1 == (rd l0 x8_1)) = true := beq_iff_eq.mpr c6
     have c6b1 : (a1 != (rd l0 x8_1)) = false := bne_eq_false_iff_eq.mpr c6
     clear c6
     obtain rfl := Option.some.inj H
     have p332 : 0 ≤ (x8_1 : Int) := dA
     have q332 : x8_1 < (l0.length : Int) := dA
     obtain ⟨ad332, e332, hx332_0⟩ := Kd.at_int HR0.out x8_1 p332 q332
     cases e332
     replace p332 := eq_true p332
     replace q332 := eq_true q332
     go_wp2
     go_ret
     exact ⟨by first | rfl | (simp; done) | (simp [*]; done), by repeat (first | exact Drawn0.refl _ | apply Drawn0.step)⟩
    ·
     rw [if_neg c6] at H
     have c6b0 : (a1 == (rd l0 x8_1)) = false := beq_eq_false_iff_ne.mpr c6
     have c6b1 : (a1 != (rd l0 x8_1)) = true := bne_iff_ne.mpr c6
     have H' := Aside0.mk H
     clear H
     have p332 : 0 ≤ (x8_1 : Int) := dA
     have q332 : x8_1 < (l0.length : Int) := dA
     obtain ⟨ad332, e332, hx332_0⟩ := Kd.at_int HR0.out x8_1 p332 q332
     cases e332
     replace p332 := eq_true p332
     replace q332 := eq_true q332
     go_wp2
     go_roundg k1
     case measure => have := HK1.out; omega
     case rel => exact ⟨(wrap64 (x8_1 + 1)), rS, H', ⟨by have := HK1.out; omega⟩, by repeat (first | exact Drawn0.refl _ | apply Drawn0.step)⟩
   ·
    rw [if_neg c3] at H
    have c3b0 := decide_eq_false c3
    clear c3
    obtain rfl := Option.some.inj H
    go_wp2
    go_ret
    exact ⟨by first | rfl | (simp; done) | (simp [*]; done), by repeat (first | exact Drawn0.refl _ | apply Drawn0.step)⟩

/-! ### slices_Contains_int_int: function 104 -/
def slices_Contains_int_int.f (k : Nat) (l0 : List Int) (a1 : Int) : Option (Bool) := (slices_Index_int_int.f k l0 a1).bind fun t333 => (some (decide (t333 ≥ 0)))
theorem slices_Contains_int_int.mono : ∀ a0 a1 k, LeO (slices_Contains_int_int.f k a0 a1) (slices_Contains_int_int.f (k + 1) a0 a1) := by
 intro a0 a1 k
 unfold slices_Contains_int_int.f
 repeat' first | (with_reducible first | exact LeO.refl _ | exact LeO.none _ | refine LeO.ite ?_ ?_ | refine LeO.bind ?_ (fun _ => ?_) | exact slices_Index_int_int.mono _ _ _)
set_option maxHeartbeats 8000000 in
set_option maxRecDepth 100000 in
theorem slices_Contains_int_int.calls (k : Nat) (A0 : Option Addr) (c0 : Nat) (l0 : List Int) (a1 : Int) (r : Bool) (w : World) (hr0 : Kd.C (Kd.int .i64) w A0 l0.length l0) (hc0 : l0.length ≤ c0) (h : slices_Contains_int_int.f k l0 a1 = some r) :
  Calls Try.prog 104 #[.slice A0 l0.length c0, .int .i64 a1] w fun e w' => e = .returned (.bool r) ∧ Drawn0 w w' := by
 have HR0 := Aside0.mk hr0
 have HC0 := Aside0.mk hc0
 clear hr0 hc0
 have H : ((slices_Index_int_int.f k l0 a1).bind fun t333 => (some (decide (t333 ≥ 0)))) = some r := h
 clear h
 obtain ⟨t333, A3, H⟩ := bindE H
 try dsimp only at H
 obtain rfl := Option.some.inj H
 go_enter Try.func104, Try.ntmps104
 go_wp2_with (first | ((with_reducible refine gate_callee (f := 138) rfl ?_); refine gL (some 7) Try.func138 #[.slice A0 l0.length c0, .int .i64 a1] ?_; (with_reducible refine (slices_Index_int_int.calls k _ _ l0 a1 t333 _ ?side1 ?side2 A3.out).mono ?_); (case side1 => exact cO HR0); (case side2 => exact HC0.out); rintro e w' ⟨rfl, ⟨nd, rfl⟩⟩; refine ⟨_, rfl, ?_⟩))
 go_ret
 exact ⟨by first | rfl | (simp; done) | (simp [*]; done), by repeat (first | exact Drawn0.refl _ | apply Drawn0.step)⟩

/-! ### impl_LongestWant: function 96 -/
def impl_LongestWant.l0 : Nat → List Int → Bool → List (S115) → Int → Int → Int → Int → Option (Int)
 | 0, _, _, _, _, _, _, _ => none
 | k + 1, x1, x6, x10, x11, x12, x335000, x335001 => if x12 < x11 then (if 0 ≤ x12 then (if x12 < (x10.length : Int) then ((slices_Contains_int_int.f k x1 ((rd_T115 x10 x12).f0)).bind fun t337 => (if t337 = true then (impl_LongestWant.l0 k x1 x6 x10 x11 (wrap64 (x12 + 1)) x335000 x335001) else (if x6 = true then (if ((rd_T115 x10 x12).f1) > x335001 then (impl_LongestWant.l0 k x1 true x10 x11 (wrap64 (x12 + 1)) ((rd_T115 x10 x12).f0) ((rd_T115 x10 x12).f1)) else (impl_LongestWant.l0 k x1 x6 x10 x11 (wrap64 (x12 + 1)) x335000 x335001)) else (impl_LongestWant.l0 k x1 true x10 x11 (wrap64 (x12 + 1)) ((rd_T115 x10 x12).f0) ((rd_T115 x10 x12).f1))))) else (none)) else (none)) else (some x335000)
def impl_LongestWant.f (k : Nat) (l0 : List (S115)) (l1 : List Int) : Option (Int) := impl_LongestWant.l0 k l1 false l0 (l0.length : Int) 0 0 0
theorem impl_LongestWant.mono_l : ∀ k, (∀ y0 y1 y2 y3 y4 y5 y6, LeO (impl_LongestWant.l0 k y0 y1 y2 y3 y4 y5 y6) (impl_LongestWant.l0 (k + 1) y0 y1 y2 y3 y4 y5 y6))
 | 0 => fun _ _ _ _ _ _ _ r h => by simp [impl_LongestWant.l0] at h
 | k + 1 => by
  have ih0 := impl_LongestWant.mono_l k
  ·
   intro y0 y1 y2 y3 y4 y5 y6
   unfold impl_LongestWant.l0
   repeat' first | (with_reducible first | exact LeO.refl _ | exact LeO.none _ | refine LeO.ite ?_ ?_ | refine LeO.bind ?_ (fun _ => ?_) | exact ih0 _ _ _ _ _ _ _ | exact slices_Contains_int_int.mono _ _ _)
theorem impl_LongestWant.mono : ∀ a0 a1 k, LeO (impl_LongestWant.f k a0 a1) (impl_LongestWant.f (k + 1) a0 a1) := by
 intro a0 a1 k
 have ih0 := impl_LongestWant.mono_l k
 unfold impl_LongestWant.f
 repeat' first | (with_reducible first | exact LeO.refl _ | exact LeO.none _ | refine LeO.ite ?_ ?_ | refine LeO.bind ?_ (fun _ => ?_) | exact ih0 _ _ _ _ _ _ _ | exact slices_Contains_int_int.mono _ _ _)
set_option maxHeartbeats 8000000 in
set_option maxRecDepth 100000 in
theorem impl_LongestWant.calls (k : Nat) (A0 : Option Addr) (c0 : Nat) (l0 : List (S115)) (A1 : Option Addr) (c1 : Nat) (l1 : List Int) (r : Int) (w : World) (hr0 : Kd.C k115 w A0 l0.length l0) (hc0 : l0.length ≤ c0) (hr1 : Kd.C (Kd.int .i64) w A1 l1.length l1) (hc1 : l1.length ≤ c1) (h : impl_LongestWant.f k l0 l1 = some r) :
  Calls Try.prog 96 #[.slice A0 l0.length c0, .slice A1 l1.length c1] w fun e w' => e = .returned (.int .i64 r) ∧ Below w.heap.size w w' := by
 have hu115 := Try.underlying115
 have HR0 := Aside0.mk hr0
 have HC0 := Aside0.mk hc0
 clear hr0 hc0
 have HR1 := Aside0.mk hr1
 have HC1 := Aside0.mk hc1
 clear hr1 hc1
 have HB := Aside0.mk (Below.refl w.heap.size w)
 have H : (impl_LongestWant.l0 k l1 false l0 (l0.length : Int) 0 0 0) = some r := h
 clear h
 have H' := Aside0.mk H
 clear H
 go_enter Try.func96, Try.ntmps96
 go_wp2_with (first | ((with_reducible refine gate_dst (N := 5) rfl ?_); refine bE (N := 5) (cs := #[.int .i64 0, .int .i64 0]) (t := 115) ?_; intro gb334 hg w3 hbox hb; have n0_ := Aside0.mk (below_step bA hb); have n1_ := Aside0.mk (hbox); have n2_ := Aside0.mk ((by rw [hg]; exact (below_size bA) : w.heap.size ≤ gb334)); have n3_ := Aside0.mk ((by rw [hg]; exact (below_size bA) : w.heap.size ≤ gb334)); clear HB; have HB := n0_; have BK334 := n1_; have GW334 := n2_; have GE334 := n3_; clear n0_ n1_ n2_ n3_; clear hb hbox hg; obtain ⟨hcz4_0, hcz4_1, hfz4_0, hfz4_1⟩ := blkc2 BK334))
 go_loopg [6, 12] k (fun kq v6 v12 w' => ∃ (x6_1 : Bool) (x12_1 : Int) (x335000_1 : Int) (x335001_1 : Int), v6 = .bool x6_1 ∧ v12 = .int .i64 x12_1 ∧ Aside0 (impl_LongestWant.l0 kq l1 x6_1 l0 (l0.length : Int) x12_1 x335000_1 x335001_1 = some r) ∧ Aside0 (kq ≤ k) ∧ Aside0 (w'.heap[gb334]? = some (.cells #[.int .i64 x335000_1, .int .i64 x335001_1] 115 (0, 0))) ∧ Aside0 (Below w.heap.size w w'))
 case atStart => exact ⟨(false), (0), (0), (0), rS, rS, H', ⟨Nat.le_refl _⟩, ⟨by (with_reducible repeat (first | refine blk_drewN ?_ _ | refine blk_drew ?_ | refine blk_alloc ?_ _)); refine blk_put (cs := #[.int .i64 0, .int .i64 0]) ?_ 1 _ rfl; (with_reducible repeat (first | refine blk_drewN ?_ _ | refine blk_drew ?_ | refine blk_alloc ?_ _)); refine blk_put (cs := #[.int .i64 0, .int .i64 0]) ?_ 0 _ rfl; (with_reducible repeat (first | refine blk_drewN ?_ _ | refine blk_drew ?_ | refine blk_alloc ?_ _)); exact BK334.out⟩, ⟨bG⟩⟩
 case round =>
  clear H'
  try clear c1
  try clear p2
  try clear hcz4_0
  try clear hcz4_1
  try clear hfz4_0
  try clear hfz4_1
  obtain ⟨x6_1, x12_1, x335000_1, x335001_1, rfl, rfl, HA, HK1, BK334, HB⟩ := hrel
  cases gk with
  | zero => exact absurd HA.out (by simp [impl_LongestWant.l0])
  | succ k1 =>
   have H := HA.out
   clear HA
   simp only [impl_LongestWant.l0] at H
   by_cases c5 : x12_1 < (l0.length : Int)
   ·
    rw [if_pos c5] at H
    have c5b0 := decide_eq_true c5
    clear c5
    have c6 : 0 ≤ x12_1 := ifN H
    replace H := ifT H
    have c6b0 := decide_eq_true c6
    clear c6
    have c7 : x12_1 < (l0.length : Int) := ifN H
    replace H := ifT H
    have c7b0 := decide_eq_true c7
    clear c7
    obtain ⟨t337, A8, H⟩ := bindE H
    try dsimp only at H
    by_cases c9 : t337 = true
    ·
     subst c9
     have H1 : (impl_LongestWant.l0 k1 l1 x6_1 l0 (l0.length : Int) (wrap64 (x12_1 + 1)) x335000_1 x335001_1) = some r := by rw [if_pos rfl] at H; exact H
     clear H
     have H := H1
     clear H1
     have H' := Aside0.mk H
     clear H
     have p335 : 0 ≤ (x12_1 : Int) := dA
     have q335 : x12_1 < (l0.length : Int) := dA
     obtain ⟨ad335, e335, hx335_0, hx335_1⟩ := at_T115 HR0.out x12_1 p335 q335
     cases e335
     replace hx335_0 := hC HB hx335_0
     replace hx335_1 := hC HB hx335_1
     replace p335 := eq_true p335
     replace q335 := eq_true q335
     go_wp2_with (first | ((with_reducible refine gate_dst (N := 8) rfl ?_); refine bE (N := 8) (cs := #[.int .i64 0, .int .i64 0]) (t := 115) ?_; intro gb336 hg w10 hbox hb; have n0_ := Aside0.mk (blk_below (g := gb334) (bK BK334) hb); have n1_ := Aside0.mk (below_step bG hb); have n2_ := Aside0.mk (hbox); have n3_ := Aside0.mk ((by rw [hg]; exact (below_size bG) : w.heap.size ≤ gb336)); have n4_ := Aside0.mk ((by rw [hg]; exact (below_size bG) : w.heap.size ≤ gb336)); have n5_ := Aside0.mk ((by rw [hg]; exact Nat.ne_of_lt (blk_lt (g := gb334) (o := .cells #[.int .i64 x335000_1, .int .i64 x335001_1] 115 (0, 0)) (bK BK334)) : gb334 ≠ gb336)); have n6_ := Aside0.mk ((by rw [hg]; exact Nat.ne_of_gt (blk_lt (g := gb334) (o := .cells #[.int .i64 x335000_1, .int .i64 x335001_1] 115 (0, 0)) (bK BK334)) : gb336 ≠ gb334)); clear BK334; clear HB; have BK334 := n0_; have HB := n1_; have BK336 := n2_; have GW336 := n3_; have GE336 := n4_; have NB334_336 := n5_; have NB336_334 := n6_; clear n0_ n1_ n2_ n3_ n4_ n5_ n6_; clear hb hbox hg; have hnb11 := NB336_334.out; have hnc11 := NB334_336.out; have hcz12_0 : w10.cell? ⟨gb336, 0, none⟩ = some (.int .i64 0) := bC BK336 0; have hcz12_1 : w10.cell? ⟨gb336, 1, none⟩ = some (.int .i64 0) := bC BK336 1; have hfz12_0 := blk_frozen BK336.out 0; have hfz12_1 := blk_frozen BK336.out 1) | ((with_reducible refine gate_callee (f := 104) rfl ?_); refine gL (some 19) Try.func104 #[.slice A1 l1.length c1, .int .i64 ((rd_T115 l0 x12_1).f0)] ?_; (with_reducible refine (slices_Contains_int_int.calls k1 _ _ l1 ((rd_T115 l0 x12_1).f0) true _ ?side1 ?side2 A8.out).mono ?_); (case side1 => exact Kd.C_below HR1.out bG); (case side2 => exact HC1.out); rintro e w' ⟨rfl, ⟨nd, rfl⟩⟩; refine ⟨_, rfl, ?_⟩))
     go_roundg k1
     case measure => have := HK1.out; omega
     case rel => exact ⟨(x6_1), (wrap64 (x12_1 + 1)), (x335000_1), (x335001_1), rS, rS, H', ⟨by have := HK1.out; omega⟩, ⟨by (with_reducible repeat (first | refine blk_drewN ?_ _ | refine blk_drew ?_ | refine blk_alloc ?_ _)); refine blk_far ?_ NB334_336.out _; (with_reducible repeat (first | refine blk_drewN ?_ _ | refine blk_drew ?_ | refine blk_alloc ?_ _)); refine blk_far ?_ NB334_336.out _; (with_reducible repeat (first | refine blk_drewN ?_ _ | refine blk_drew ?_ | refine blk_alloc ?_ _)); exact BK334.out⟩, ⟨bG⟩⟩
    ·
     replace c9 := Bool.eq_false_iff.mpr c9
     subst c9
     have H1 : (if x6_1 = true then (if ((rd_T115 l0 x12_1).f1) > x335001_1 then (impl_LongestWant.l0 k1 l1 true l0 (l0.length : Int) (wrap64 (x12_1 + 1)) ((rd_T115 l0 x12_1).f0) ((rd_T115 l0 x12_1).f1)) else (impl_LongestWant.l0 k1 l1 x6_1 l0 (l0.length : Int) (wrap64 (x12_1 + 1)) x335000_1 x335001_1)) else (impl_LongestWant.l0 k1 l1 true l0 (l0.length : Int) (wrap64 (x12_1 + 1)) ((rd_T115 l0 x12_1).f0) ((rd_T115 l0 x12_1).f1))) = some r := by rw [if_neg (show ¬ (false = true) by decide)] at H; exact H
     clear H
     have H := H1
     clear H1
     by_cases c13 : x6_1 = true
     ·
      subst c13
      have H1 : (if ((rd_T115 l0 x12_1).f1) > x335001_1 then (impl_LongestWant.l0 k1 l1 true l0 (l0.length : Int) (wrap64 (x12_1 + 1)) ((rd_T115 l0 x12_1).f0) ((rd_T115 l0 x12_1).f1)) else (impl_LongestWant.l0 k1 l1 true l0 (l0.length : Int) (wrap64 (x12_1 + 1)) x335000_1 x335001_1)) = some r := by rw [if_pos rfl] at H; exact H
      clear H
      have H := H1
      clear H1
      by_cases c14 : ((rd_T115 l0 x12_1).f1) > x335001_1
      ·
       rw [if_pos c14] at H
       have c14b0 := decide_eq_true c14
       clear c14
       have H' := Aside0.mk H
       clear H
       have p335 : 0 ≤ (x12_1 : Int) := dA
       have q335 : x12_1 < (l0.length : Int) := dA
       obtain ⟨ad335, e335, hx335_0, hx335_1⟩ := at_T115 HR0.out x12_1 p335 q335
       cases e335
       replace hx335_0 := hC HB hx335_0
       replace hx335_1 := hC HB hx335_1
       replace p335 := eq_true p335
       replace q335 := eq_true q335
       go_wp2_with (first | ((with_reducible refine gate_dst (N := 8) rfl ?_); refine bE (N := 8) (cs := #[.int .i64 0, .int .i64 0]) (t := 115) ?_; intro gb336 hg w15 hbox hb; have n0_ := Aside0.mk (blk_below (g := gb334) (bK BK334) hb); have n1_ := Aside0.mk (below_step bG hb); have n2_ := Aside0.mk (hbox); have n3_ := Aside0.mk ((by rw [hg]; exact (below_size bG) : w.heap.size ≤ gb336)); have n4_ := Aside0.mk ((by rw [hg]; exact (below_size bG) : w.heap.size ≤ gb336)); have n5_ := Aside0.mk ((by rw [hg]; exact Nat.ne_of_lt (blk_lt (g := gb334) (o := .cells #[.int .i64 x335000_1, .int .i64 x335001_1] 115 (0, 0)) (bK BK334)) : gb334 ≠ gb336)); have n6_ := Aside0.mk ((by rw [hg]; exact Nat.ne_of_gt (blk_lt (g := gb334) (o := .cells #[.int .i64 x335000_1, .int .i64 x335001_1] 115 (0, 0)) (bK BK334)) : gb336 ≠ gb334)); clear BK334; clear HB; have BK334 := n0_; have HB := n1_; have BK336 := n2_; have GW336 := n3_; have GE336 := n4_; have NB334_336 := n5_; have NB336_334 := n6_; clear n0_ n1_ n2_ n3_ n4_ n5_ n6_; clear hb hbox hg; have hnb16 := NB336_334.out; have hnc16 := NB334_336.out; have hcz17_0 : w15.cell? ⟨gb336, 0, none⟩ = some (.int .i64 0) := bC BK336 0; have hcz17_1 : w15.cell? ⟨gb336, 1, none⟩ = some (.int .i64 0) := bC BK336 1; have hfz17_0 := blk_frozen BK336.out 0; have hfz17_1 := blk_frozen BK336.out 1) | ((with_reducible refine gate_callee (f := 104) rfl ?_); refine gL (some 19) Try.func104 #[.slice A1 l1.length c1, .int .i64 ((rd_T115 l0 x12_1).f0)] ?_; (with_reducible refine (slices_Contains_int_int.calls k1 _ _ l1 ((rd_T115 l0 x12_1).f0) false _ ?side1 ?side2 A8.out).mono ?_); (case side1 => exact Kd.C_below HR1.out bG); (case side2 => exact HC1.out); rintro e w' ⟨rfl, ⟨nd, rfl⟩⟩; refine ⟨_, rfl, ?_⟩; obtain ⟨hcz18_0, hcz18_1, hfz18_0, hfz18_1⟩ := blkc2 BK334))
       go_roundg k1
       case measure => have := HK1.out; omega
       case rel => exact ⟨(true), (wrap64 (x12_1 + 1)), ((rd_T115 l0 x12_1).f0), ((rd_T115 l0 x12_1).f1), rS, rS, H', ⟨by have := HK1.out; omega⟩, ⟨by (with_reducible repeat (first | refine blk_drewN ?_ _ | refine blk_drew ?_ | refine blk_alloc ?_ _)); refine blk_put (cs := #[.int .i64 ((rd_T115 l0 x12_1).f0), .int .i64 x335001_1]) ?_ 1 _ rfl; (with_reducible repeat (first | refine blk_drewN ?_ _ | refine blk_drew ?_ | refine blk_alloc ?_ _)); refine blk_put (cs := #[.int .i64 x335000_1, .int .i64 x335001_1]) ?_ 0 _ rfl; (with_reducible repeat (first | refine blk_drewN ?_ _ | refine blk_drew ?_ | refine blk_alloc ?_ _)); refine blk_far ?_ NB334_336.out _; (with_reducible repeat (first | refine blk_drewN ?_ _ | refine blk_drew ?_ | refine blk_alloc ?_ _)); refine blk_far ?_ NB334_336.out _; (with_reducible repeat (first | refine blk_drewN ?_ _ | refine blk_drew ?_ | refine blk_alloc ?_ _)); exact BK334.out⟩, ⟨bG⟩⟩
      ·
       rw [if_neg c14] at H
       have c14b0 := decide_eq_false c14
       clear c14
       have H' := Aside0.mk H
       clear H
       have p335 : 0 ≤ (x12_1 : Int) := dA
       have q335 : x12_1 < (l0.length : Int) := dA
       obtain ⟨ad335, e335, hx335_0, hx335_1⟩ := at_T115 HR0.out x12_1 p335 q335
       cases e335
       replace hx335_0 := hC HB hx335_0
       replace hx335_1 := hC HB hx335_1
       replace p335 := eq_true p335
       replace q335 := eq_true q335
       go_wp2_with (first | ((with_reducible refine gate_dst (N := 8) rfl ?_); refine bE (N := 8) (cs := #[.int .i64 0, .int .i64 0]) (t := 115) ?_; intro gb336 hg w19 hbox hb; have n0_ := Aside0.mk (blk_below (g := gb334) (bK BK334) hb); have n1_ := Aside0.mk (below_step bG hb); have n2_ := Aside0.mk (hbox); have n3_ := Aside0.mk ((by rw [hg]; exact (below_size bG) : w.heap.size ≤ gb336)); have n4_ := Aside0.mk ((by rw [hg]; exact (below_size bG) : w.heap.size ≤ gb336)); have n5_ := Aside0.mk ((by rw [hg]; exact Nat.ne_of_lt (blk_lt (g := gb334) (o := .cells #[.int .i64 x335000_1, .int .i64 x335001_1] 115 (0, 0)) (bK BK334)) : gb334 ≠ gb336)); have n6_ := Aside0.mk ((by rw [hg]; exact Nat.ne_of_gt (blk_lt (g := gb334) (o := .cells #[.int .i64 x335000_1, .int .i64 x335001_1] 115 (0, 0)) (bK BK334)) : gb336 ≠ gb334)); clear BK334; clear HB; have BK334 := n0_; have HB := n1_; have BK336 := n2_; have GW336 := n3_; have GE336 := n4_; have NB334_336 := n5_; have NB336_334 := n6_; clear n0_ n1_ n2_ n3_ n4_ n5_ n6_; clear hb hbox hg; have hnb20 := NB336_334.out; have hnc20 := NB334_336.out; have hcz21_0 : w19.cell? ⟨gb336, 0, none⟩ = some (.int .i64 0) := bC BK336 0; have hcz21_1 : w19.cell? ⟨gb336, 1, none⟩ = some (.int .i64 0) := bC BK336 1; have hfz21_0 := blk_frozen BK336.out 0; have hfz21_1 := blk_frozen BK336.out 1) | ((with_reducible refine gate_callee (f := 104) rfl ?_); refine gL (some 19) Try.func104 #[.slice A1 l1.length c1, .int .i64 ((rd_T115 l0 x12_1).f0)] ?_; (with_reducible refine (slices_Contains_int_int.calls k1 _ _ l1 ((rd_T115 l0 x12_1).f0) false _ ?side1 ?side2 A8.out).mono ?_); (case side1 => exact Kd.C_below HR1.out bG); (case side2 => exact HC1.out); rintro e w' ⟨rfl, ⟨nd, rfl⟩⟩; refine ⟨_, rfl, ?_⟩; obtain ⟨hcz22_0, hcz22_1, hfz22_0, hfz22_1⟩ := blkc2 BK334))
       go_roundg k1
       case measure => have := HK1.out; omega
       case rel => exact ⟨(true), (wrap64 (x12_1 + 1)), (x335000_1), (x335001_1), rS, rS, H', ⟨by have := HK1.out; omega⟩, ⟨by (with_reducible repeat (first | refine blk_drewN ?_ _ | refine blk_drew ?_ | refine blk_alloc ?_ _)); refine blk_far ?_ NB334_336.out _; (with_reducible repeat (first | refine blk_drewN ?_ _ | refine blk_drew ?_ | refine blk_alloc ?_ _)); refine blk_far ?_ NB334_336.out _; (with_reducible repeat (first | refine blk_drewN ?_ _ | refine blk_drew ?_ | refine blk_alloc ?_ _)); exact BK334.out⟩, ⟨bG⟩⟩
     ·
      replace c13 := Bool.eq_false_iff.mpr c13
      subst c13
      have H1 : (impl_LongestWant.l0 k1 l1 true l0 (l0.length : Int) (wrap64 (x12_1 + 1)) ((rd_T115 l0 x12_1).f0) ((rd_T115 l0 x12_1).f1)) = some r := by rw [if_neg (show ¬ (false = true) by decide)] at H; exact H
      clear H
      have H := H1
      clear H1
      have H' := Aside0.mk H
      clear H
      have p335 : 0 ≤ (x12_1 : Int) := dA
      have q335 : x12_1 < (l0.length : Int) := dA
      obtain ⟨ad335, e335, hx335_0, hx335_1⟩ := at_T115 HR0.out x12_1 p335 q335
      cases e335
      replace hx335_0 := hC HB hx335_0
      replace hx335_1 := hC HB hx335_1
      replace p335 := eq_true p335
      replace q335 := eq_true q335
      go_wp2_with (first | ((with_reducible refine gate_dst (N := 8) rfl ?_); refine bE (N := 8) (cs := #[.int .i64 0, .int .i64 0]) (t := 115) ?_; intro gb336 hg w23 hbox hb; have n0_ := Aside0.mk (blk_below (g := gb334) (bK BK334) hb); have n1_ := Aside0.mk (below_step bG hb); have n2_ := Aside0.mk (hbox); have n3_ := Aside0.mk ((by rw [hg]; exact (below_size bG) : w.heap.size ≤ gb336)); have n4_ := Aside0.mk ((by rw [hg]; exact (below_size bG) : w.heap.size ≤ gb336)); have n5_ := Aside0.mk ((by rw [hg]; exact Nat.ne_of_lt (blk_lt (g := gb334) (o := .cells #[.int .i64 x335000_1, .int .i64 x335001_1] 115 (0, 0)) (bK BK334)) : gb334 ≠ gb336)); have n6_ := Aside0.mk ((by rw [hg]; exact Nat.ne_of_gt (blk_lt (g := gb334) (o := .cells #[.int .i64 x335000_1, .int .i64 x335001_1] 115 (0, 0)) (bK BK334)) : gb336 ≠ gb334)); clear BK334; clear HB; have BK334 := n0_; have HB := n1_; have BK336 := n2_; have GW336 := n3_; have GE336 := n4_; have NB334_336 := n5_; have NB336_334 := n6_; clear n0_ n1_ n2_ n3_ n4_ n5_ n6_; clear hb hbox hg; have hnb24 := NB336_334.out; have hnc24 := NB334_336.out; have hcz25_0 : w23.cell? ⟨gb336, 0, none⟩ = some (.int .i64 0) := bC BK336 0; have hcz25_1 : w23.cell? ⟨gb336, 1, none⟩ = some (.int .i64 0) := bC BK336 1; have hfz25_0 := blk_frozen BK336.out 0; have hfz25_1 := blk_frozen BK336.out 1) | ((with_reducible refine gate_callee (f := 104) rfl ?_); refine gL (some 19) Try.func104 #[.slice A1 l1.length c1, .int .i64 ((rd_T115 l0 x12_1).f0)] ?_; (with_reducible refine (slices_Contains_int_int.calls k1 _ _ l1 ((rd_T115 l0 x12_1).f0) false _ ?side1 ?side2 A8.out).mono ?_); (case side1 => exact Kd.C_below HR1.out bG); (case side2 => exact HC1.out); rintro e w' ⟨rfl, ⟨nd, rfl⟩⟩; refine ⟨_, rfl, ?_⟩; obtain ⟨hcz26_0, hcz26_1, hfz26_0, hfz26_1⟩ := blkc2 BK334))
      go_roundg k1
      case measure => have := HK1.out; omega
      case rel => exact ⟨(true), (wrap64 (x12_1 + 1)), ((rd_T115 l0 x12_1).f0), ((rd_T115 l0 x12_1).f1), rS, rS, H', ⟨by have := HK1.out; omega⟩, ⟨by (with_reducible repeat (first | refine blk_drewN ?_ _ | refine blk_drew ?_ | refine blk_alloc ?_ _)); refine blk_put (cs := #[.int .i64 ((rd_T115 l0 x12_1).f0), .int .i64 x335001_1]) ?_ 1 _ rfl; (with_reducible repeat (first | refine blk_drewN ?_ _ | refine blk_drew ?_ | refine blk_alloc ?_ _)); refine blk_put (cs := #[.int .i64 x335000_1, .int .i64 x335001_1]) ?_ 0 _ rfl; (with_reducible repeat (first | refine blk_drewN ?_ _ | refine blk_drew ?_ | refine blk_alloc ?_ _)); refine blk_far ?_ NB334_336.out _; (with_reducible repeat (first | refine blk_drewN ?_ _ | refine blk_drew ?_ | refine blk_alloc ?_ _)); refine blk_far ?_ NB334_336.out _; (with_reducible repeat (first | refine blk_drewN ?_ _ | refine blk_drew ?_ | refine blk_alloc ?_ _)); exact BK334.out⟩, ⟨bG⟩⟩
   ·
    rw [if_neg c5] at H
    have c5b0 := decide_eq_false c5
    clear c5
    obtain rfl := Option.some.inj H
    obtain ⟨hcz27_0, hcz27_1, hfz27_0, hfz27_1⟩ := blkc2 BK334
    go_wp2
    go_ret
    exact ⟨rA, bG⟩

/-! ### impl_InRange: function 66 -/
def impl_InRange.f (a0 : Int) (a1 : Int) (a2 : Int) : Option (Bool) := if a1 ≤ a0 then (some (decide (a0 ≤ a2))) else (some false)
set_option maxHeartbeats 8000000 in
set_option maxRecDepth 100000 in
theorem impl_InRange.calls (a0 : Int) (a1 : Int) (a2 : Int) (r : Bool) (w : World) (h : impl_InRange.f a0 a1 a2 = some r) :
  Calls Try.prog 66 #[.int .i64 a0, .int .i64 a1, .int .i64 a2] w fun e w' => e = .returned (.bool r) ∧ Drawn0 w w' := by
 have H : (if a1 ≤ a0 then (some (decide (a0 ≤ a2))) else (some false)) = some r := h
 clear h
 by_cases c4 : a1 ≤ a0
 ·
  rw [if_pos c4] at H
  have c4b0 := decide_eq_true c4
  clear c4
  obtain rfl := Option.some.inj H
  go_enter Try.func66, Try.ntmps66
  go_wp2
  go_ret
  exact ⟨by first | rfl | (simp; done) | (simp [*]; done), by repeat (first | exact Drawn0.refl _ | apply Drawn0.step)⟩
 ·
  rw [if_neg c4] at H
  have c4b0 := decide_eq_false c4
  clear c4
  obtain rfl := Option.some.inj H
  go_enter Try.func66, Try.ntmps66
  go_wp2
  go_ret
  exact ⟨by first | rfl | (simp; done) | (simp [*]; done), by repeat (first | exact Drawn0.refl _ | apply Drawn0.step)⟩

/-! ### impl_FindPath: function 119 -/
def impl_FindPath.q (id : Int) (x : S89) : Bool := decide (x.f0 = id)
set_option maxHeartbeats 400000 in
set_option maxRecDepth 100000 in
theorem impl_FindPath.clo (id : Int) (g : Nat) (x : S89) (w : World) (hc : w.cell? ⟨g, 0, none⟩ = some (.int .i64 id)) :
  Calls Try.prog 143 #[.agg #[.int .i64 x.f0, .int .i64 x.f1, .int .i64 x.f2, .int .i64 x.f3], .pointer (some ⟨g, 0, none⟩)] w fun e w' => e = .returned (.bool (impl_FindPath.q id x)) ∧ Below w.heap.size w w' := by
 have hu := Try.underlying89
 have hg : g < w.heap.size := World.block_lt_of_cell? w _ hc
 go_enter Try.func143, Try.ntmps143
 go_wp2
 go_ret
 exact ⟨by unfold impl_FindPath.q; first | rfl | simp, (Below.refl _ _).alloc (Nat.le_refl _) _⟩
def impl_FindPath.ix (id : Int) : List S89 → Int → Int
 | [], _ => -1
 | x :: l, i => if impl_FindPath.q id x = true then i else impl_FindPath.ix id l (i + 1)
theorem impl_FindPath.ix_hit (id : Int) : ∀ (l : List S89) (i : Int) (m : Nat) (hm : m < l.length), (∀ j (hj : j < m), impl_FindPath.q id (l[j]'(by omega)) = false) → impl_FindPath.q id l[m] = true → impl_FindPath.ix id l i = i + m
 | [], i, m, hm, _, _ => absurd hm (by simp)
 | p :: l, i, 0, hm, _, h => by
  unfold impl_FindPath.ix
  rw [if_pos (show impl_FindPath.q id p = true from h)]
  simp
 | p :: l, i, m + 1, hm, hne, h => by
  unfold impl_FindPath.ix
  have h2 : impl_FindPath.q id p = false := hne 0 (by omega)
  rw [if_neg (by rw [h2]; decide), impl_FindPath.ix_hit id l (i + 1) m (by simpa using hm) (fun j hj => hne (j + 1) (by omega)) h]
  omega
theorem impl_FindPath.ix_miss (id : Int) : ∀ (l : List S89) (i : Int), (∀ j (hj : j < l.length), impl_FindPath.q id l[j] = false) → impl_FindPath.ix id l i = -1
 | [], i, _ => rfl
 | p :: l, i, h => by
  unfold impl_FindPath.ix
  have h2 : impl_FindPath.q id p = false := h 0 (by simp)
  rw [if_neg (by rw [h2]; decide), impl_FindPath.ix_miss id l (i + 1) (fun j hj => h (j + 1) (by simpa using hj))]
theorem impl_FindPath.rd_ (l : List S89) (j : Nat) (hj : j < l.length) : rd_T89 l (j : Int) = l[j] := by
 unfold rd_T89; simp [List.getD_eq_getElem?_getD, List.getElem?_eq_getElem hj]
set_option maxHeartbeats 4000000 in
set_option maxRecDepth 100000 in
theorem impl_FindPath.idx (id : Int) (g : Nat) (A0 : Option Addr) (c0 : Nat) (l0 : List S89) (w : World) (hr0 : Kd.C k89 w A0 l0.length l0) (hc0 : l0.length ≤ c0) (hc : w.cell? ⟨g, 0, none⟩ = some (.int .i64 id)) :
  Calls Try.prog 142 #[.slice A0 l0.length c0, .func (.func 143) #[] #[.pointer (some ⟨g, 0, none⟩)]] w fun e w' => e = .returned (.int .i64 (impl_FindPath.ix id l0 0)) ∧ Below w.heap.size w w' := by
 have hu := Try.underlying89
 have HC := Aside0.mk hc
 clear hc
 have HR0 := Aside0.mk hr0
 have HC0 := Aside0.mk hc0
 have hlen : l0.length ≤ 9223372036854775807 := hr0.2.1
 clear hr0 hc0
 have HB := Aside0.mk (Below.refl w.heap.size w)
 go_enter Try.func142, Try.ntmps142
 go_wp2
 go_loopg [5, 8] l0.length (fun gg v5 v8 w' => ∃ kk : Nat, v8 = .int .i64 kk ∧ Aside0 (kk ≤ l0.length) ∧ Aside0 (l0.length - kk ≤ gg) ∧ Aside0 (Below w.heap.size w w') ∧ Aside0 (∀ j (hj : j < kk) (hl : j < l0.length), impl_FindPath.q id l0[j] = false))
 case atStart => exact ⟨0, rfl, ⟨Nat.zero_le _⟩, ⟨by omega⟩, HB, ⟨fun j hj => absurd hj (Nat.not_lt_zero _)⟩⟩
 case round =>
  clear HB
  obtain ⟨kk, rfl, hk, hg, HB, HA⟩ := hrel
  by_cases hlt : kk < l0.length
  ·
   have hltz : decide ((kk : Int) < (l0.length : Int)) = true := decide_eq_true (by omega)
   have hltn : decide (kk < l0.length) = true := decide_eq_true hlt
   have p0 : (0 : Int) ≤ (kk : Int) := by omega
   have q0 : (kk : Int) < (l0.length : Int) := by omega
   have HE := Aside0.mk (impl_FindPath.rd_ l0 kk hlt)
   obtain ⟨ad, e1, hx0, hx1, hx2, hx3⟩ := at_T89 HR0.out (kk : Int) p0 q0
   cases e1
   rw [Int.toNat_natCast] at hx0 hx1 hx2 hx3
   replace hx0 := hC HB hx0
   replace hx1 := hC HB hx1
   replace hx2 := hC HB hx2
   replace hx3 := hC HB hx3
   replace p0 := eq_true p0
   replace q0 := eq_true q0
   have hcl := fun (w' : World) (hb : Below w.heap.size w w') => impl_FindPath.clo id g (rd_T89 l0 (kk : Int)) w' ((hb.cell (World.block_lt_of_cell? w _ HC.out)).trans HC.out)
   cases hq : impl_FindPath.q id (rd_T89 l0 (kk : Int)) with
   | true =>
    rw [hq] at hcl
    have HCL := Aside0.mk hcl
    have HQ := Aside0.mk hq
    clear hcl hq
    go_wp2_with (go_at_call 143; refine (HCL.out _ HB.out).mono ?_; rintro e w1 ⟨rfl, hb1⟩)
    go_ret
    refine ⟨?_, below_step HB.out hb1⟩
    have hq := HQ.out
    rw [HE.out] at hq
    rw [impl_FindPath.ix_hit id l0 0 kk hlt (fun j hj => HA.out j hj (by omega)) hq, Int.zero_add]
    rfl
   | false =>
    rw [hq] at hcl
    have HCL := Aside0.mk hcl
    have HQ := Aside0.mk hq
    clear hcl hq
    go_wp2_with (go_at_call 143; refine (HCL.out _ HB.out).mono ?_; rintro e w1 ⟨rfl, hb1⟩)
    go_roundg (l0.length - (kk + 1))
    case measure => have := hg.out; omega
    case rel =>
     refine ⟨kk + 1, by go_num, ⟨by omega⟩, ⟨by omega⟩, ⟨below_step HB.out hb1⟩, ⟨fun j hj hl => ?_⟩⟩
     rcases Nat.lt_or_ge j kk with h3 | h3
     ·
      exact HA.out j h3 hl
     ·
      have h4 : j = kk := by omega
      subst h4
      rw [← HE.out]
      exact HQ.out
  ·
   have hge : decide ((kk : Int) < (l0.length : Int)) = false := decide_eq_false (by omega)
   have hgen : decide (kk < l0.length) = false := decide_eq_false hlt
   go_wp2
   go_ret
   refine ⟨?_, HB.out⟩
   rw [impl_FindPath.ix_miss id l0 0 (fun j hj => HA.out j (by omega) hj)]
   rfl

def impl_FindPath.f (l0 : List S89) (a1 : Int) : Option Int := some (impl_FindPath.ix a1 l0 0)
set_option maxHeartbeats 400000 in
set_option maxRecDepth 100000 in
theorem impl_FindPath.calls (A0 : Option Addr) (c0 : Nat) (l0 : List S89) (a1 : Int) (r : Int) (w : World) (hr0 : Kd.C k89 w A0 l0.length l0) (hc0 : l0.length ≤ c0) (h : impl_FindPath.f l0 a1 = some r) :
  Calls Try.prog 119 #[.slice A0 l0.length c0, .int .i64 a1] w fun e w' => e = .returned (.int .i64 r) ∧ Below w.heap.size w w' := by
 obtain rfl := Option.some.inj h
 have HR0 := Aside0.mk hr0
 have HC0 := Aside0.mk hc0
 clear hr0 hc0 h
 go_enter Try.func119, Try.ntmps119
 go_wp2_with (go_at_call 142; refine (impl_FindPath.idx a1 w.heap.size A0 c0 l0 _ ?s1 HC0.out ?s2).mono ?_; (case s1 => exact Kd.C_alloc HR0.out _); (case s2 => simp); rintro e w1 ⟨rfl, hb1⟩)
 go_ret
 exact ⟨rfl, below_step (below_alloc (Below.refl _ _) _) hb1⟩

/-! ### impl_IsPath: function 146 -/
def impl_IsPath.f (a0_0 : Int) (a0_1 : Int) (a0_2 : Int) (a0_3 : Int) : Option (Bool) := (impl_InRange.f a0_0 1 20).bind fun t339 => (if t339 = true then ((impl_InRange.f a0_1 1 3).bind fun t340 => (if t340 = true then ((impl_InRange.f a0_2 0 3).bind fun t341 => (if t341 = true then ((impl_InRange.f a0_3 0 3).bind fun t342 => (if t342 = true then (some ((a0_2 == a0_3) == (a0_1 == 2))) else (some false))) else (some false))) else (some false))) else (some false))
set_option maxHeartbeats 8000000 in
set_option maxRecDepth 100000 in
theorem impl_IsPath.calls (a0_0 : Int) (a0_1 : Int) (a0_2 : Int) (a0_3 : Int) (r : Bool) (w : World) (h : impl_IsPath.f a0_0 a0_1 a0_2 a0_3 = some r) :
  Calls Try.prog 146 #[.agg #[.int .i64 a0_0, .int .i64 a0_1, .int .i64 a0_2, .int .i64 a0_3]] w fun e w' => e = .returned (.bool r) ∧ Below w.heap.size w w' := by
 have hu89 := Try.underlying89
 have HB := Aside0.mk (Below.refl w.heap.size w)
 have H : ((impl_InRange.f a0_0 1 20).bind fun t339 => (if t339 = true then ((impl_InRange.f a0_1 1 3).bind fun t340 => (if t340 = true then ((impl_InRange.f a0_2 0 3).bind fun t341 => (if t341 = true then ((impl_InRange.f a0_3 0 3).bind fun t342 => (if t342 = true then (some ((a0_2 == a0_3) == (a0_1 == 2))) else (some false))) else (some false))) else (some false))) else (some false))) = some r := h
 clear h
 obtain ⟨t339, A2, H⟩ := bindE H
 try dsimp only at H
 by_cases c3 : t339 = true
 ·
  subst c3
  have H1 : ((impl_InRange.f a0_1 1 3).bind fun t340 => (if t340 = true then ((impl_InRange.f a0_2 0 3).bind fun t341 => (if t341 = true then ((impl_InRange.f a0_3 0 3).bind fun t342 => (if t342 = true then (some ((a0_2 == a0_3) == (a0_1 == 2))) else (some false))) else (some false))) else (some false))) = some r := by rw [if_pos rfl] at H; exact H
  clear H
  have H := H1
  clear H1
  obtain ⟨t340, A4, H⟩ := bindE H
  try dsimp only at H
  by_cases c5 : t340 = true
  ·
   subst c5
   have H1 : ((impl_InRange.f a0_2 0 3).bind fun t341 => (if t341 = true then ((impl_InRange.f a0_3 0 3).bind fun t342 => (if t342 = true then (some ((a0_2 == a0_3) == (a0_1 == 2))) else (some false))) else (some false))) = some r := by rw [if_pos rfl] at H; exact H
   clear H
   have H := H1
   clear H1
   obtain ⟨t341, A6, H⟩ := bindE H
   try dsimp only at H
   by_cases c7 : t341 = true
   ·
    subst c7
    have H1 : ((impl_InRange.f a0_3 0 3).bind fun t342 => (if t342 = true then (some ((a0_2 == a0_3) == (a0_1 == 2))) else (some false))) = some r := by rw [if_pos rfl] at H; exact H
    clear H
    have H := H1
    clear H1
    obtain ⟨t342, A8, H⟩ := bindE H
    try dsimp only at H
    by_cases c9 : t342 = true
    ·
     subst c9
     have H1 : (some ((a0_2 == a0_3) == (a0_1 == 2))) = some r := by rw [if_pos rfl] at H; exact H
     clear H
     have H := H1
     clear H1
     obtain rfl := Option.some.inj H
     go_enter Try.func146, Try.ntmps146
     go_wp2_with (first | ((with_reducible refine gate_dst (N := 1) rfl ?_); refine bE (N := 1) (cs := #[.int .i64 a0_0, .int .i64 a0_1, .int .i64 a0_2, .int .i64 a0_3]) (t := 89) ?_; intro gb338 hg w10 hbox hb; have n0_ := Aside0.mk (below_step bA hb); have n1_ := Aside0.mk (hbox); have n2_ := Aside0.mk ((by rw [hg]; exact (below_size bA) : w.heap.size ≤ gb338)); have n3_ := Aside0.mk ((by rw [hg]; exact (below_size bA) : w.heap.size ≤ gb338)); clear HB; have HB := n0_; have BK338 := n1_; have GW338 := n2_; have GE338 := n3_; clear n0_ n1_ n2_ n3_; clear hb hbox hg; have hcz11_0 : w10.cell? ⟨gb338, 0, none⟩ = some (.int .i64 a0_0) := bC BK338 0; have hcz11_1 : w10.cell? ⟨gb338, 1, none⟩ = some (.int .i64 a0_1) := bC BK338 1; have hcz11_2 : w10.cell? ⟨gb338, 2, none⟩ = some (.int .i64 a0_2) := bC BK338 2; have hcz11_3 : w10.cell? ⟨gb338, 3, none⟩ = some (.int .i64 a0_3) := bC BK338 3; have hfz11_0 := blk_frozen BK338.out 0; have hfz11_1 := blk_frozen BK338.out 1; have hfz11_2 := blk_frozen BK338.out 2; have hfz11_3 := blk_frozen BK338.out 3) | ((with_reducible refine gate_callee (f := 66) rfl ?_); refine gL (some 5) Try.func66 #[.int .i64 a0_0, .int .i64 1, .int .i64 20] ?_; (with_reducible refine (impl_InRange.calls a0_0 1 20 true _ A2.out).mono ?_); rintro e w' ⟨rfl, ⟨nd, rfl⟩⟩; refine ⟨_, rfl, ?_⟩) | (go_at_call 66; (with_reducible refine (impl_InRange.calls a0_1 1 3 true _ A4.out).mono ?_); rintro e w' ⟨rfl, ⟨nd, rfl⟩⟩) | (go_at_call 66; (with_reducible refine (impl_InRange.calls a0_2 0 3 true _ A6.out).mono ?_); rintro e w' ⟨rfl, ⟨nd, rfl⟩⟩) | (go_at_call 66; (with_reducible refine (impl_InRange.calls a0_3 0 3 true _ A8.out).mono ?_); rintro e w' ⟨rfl, ⟨nd, rfl⟩⟩))
     go_ret
     exact ⟨rA, bG⟩
    ·
     replace c9 := Bool.eq_false_iff.mpr c9
     subst c9
     have H1 : (some false) = some r := by rw [if_neg (show ¬ (false = true) by decide)] at H; exact H
     clear H
     have H := H1
     clear H1
     obtain rfl := Option.some.inj H
     go_enter Try.func146, Try.ntmps146
     go_wp2_with (first | ((with_reducible refine gate_dst (N := 1) rfl ?_); refine bE (N := 1) (cs := #[.int .i64 a0_0, .int .i64 a0_1, .int .i64 a0_2, .int .i64 a0_3]) (t := 89) ?_; intro gb338 hg w12 hbox hb; have n0_ := Aside0.mk (below_step bA hb); have n1_ := Aside0.mk (hbox); have n2_ := Aside0.mk ((by rw [hg]; exact (below_size bA) : w.heap.size ≤ gb338)); have n3_ := Aside0.mk ((by rw [hg]; exact (below_size bA) : w.heap.size ≤ gb338)); clear HB; have HB := n0_; have BK338 := n1_; have GW338 := n2_; have GE338 := n3_; clear n0_ n1_ n2_ n3_; clear hb hbox hg; have hcz13_0 : w12.cell? ⟨gb338, 0, none⟩ = some (.int .i64 a0_0) := bC BK338 0; have hcz13_1 : w12.cell? ⟨gb338, 1, none⟩ = some (.int .i64 a0_1) := bC BK338 1; have hcz13_2 : w12.cell? ⟨gb338, 2, none⟩ = some (.int .i64 a0_2) := bC BK338 2; have hcz13_3 : w12.cell? ⟨gb338, 3, none⟩ = some (.int .i64 a0_3) := bC BK338 3; have hfz13_0 := blk_frozen BK338.out 0; have hfz13_1 := blk_frozen BK338.out 1; have hfz13_2 := blk_frozen BK338.out 2; have hfz13_3 := blk_frozen BK338.out 3) | ((with_reducible refine gate_callee (f := 66) rfl ?_); refine gL (some 5) Try.func66 #[.int .i64 a0_0, .int .i64 1, .int .i64 20] ?_; (with_reducible refine (impl_InRange.calls a0_0 1 20 true _ A2.out).mono ?_); rintro e w' ⟨rfl, ⟨nd, rfl⟩⟩; refine ⟨_, rfl, ?_⟩) | (go_at_call 66; (with_reducible refine (impl_InRange.calls a0_1 1 3 true _ A4.out).mono ?_); rintro e w' ⟨rfl, ⟨nd, rfl⟩⟩) | (go_at_call 66; (with_reducible refine (impl_InRange.calls a0_2 0 3 true _ A6.out).mono ?_); rintro e w' ⟨rfl, ⟨nd, rfl⟩⟩) | (go_at_call 66; (with_reducible refine (impl_InRange.calls a0_3 0 3 false _ A8.out).mono ?_); rintro e w' ⟨rfl, ⟨nd, rfl⟩⟩))
     go_ret
     exact ⟨rA, bG⟩
   ·
    replace c7 := Bool.eq_false_iff.mpr c7
    subst c7
    have H1 : (some false) = some r := by rw [if_neg (show ¬ (false = true) by decide)] at H; exact H
    clear H
    have H := H1
    clear H1
    obtain rfl := Option.some.inj H
    go_enter Try.func146, Try.ntmps146
    go_wp2_with (first | ((with_reducible refine gate_dst (N := 1) rfl ?_); refine bE (N := 1) (cs := #[.int .i64 a0_0, .int .i64 a0_1, .int .i64 a0_2, .int .i64 a0_3]) (t := 89) ?_; intro gb338 hg w14 hbox hb; have n0_ := Aside0.mk (below_step bA hb); have n1_ := Aside0.mk (hbox); have n2_ := Aside0.mk ((by rw [hg]; exact (below_size bA) : w.heap.size ≤ gb338)); have n3_ := Aside0.mk ((by rw [hg]; exact (below_size bA) : w.heap.size ≤ gb338)); clear HB; have HB := n0_; have BK338 := n1_; have GW338 := n2_; have GE338 := n3_; clear n0_ n1_ n2_ n3_; clear hb hbox hg; have hcz15_0 : w14.cell? ⟨gb338, 0, none⟩ = some (.int .i64 a0_0) := bC BK338 0; have hcz15_1 : w14.cell? ⟨gb338, 1, none⟩ = some (.int .i64 a0_1) := bC BK338 1; have hcz15_2 : w14.cell? ⟨gb338, 2, none⟩ = some (.int .i64 a0_2) := bC BK338 2; have hcz15_3 : w14.cell? ⟨gb338, 3, none⟩ = some (.int .i64 a0_3) := bC BK338 3; have hfz15_0 := blk_frozen BK338.out 0; have hfz15_1 := blk_frozen BK338.out 1; have hfz15_2 := blk_frozen BK338.out 2; have hfz15_3 := blk_frozen BK338.out 3) | ((with_reducible refine gate_callee (f := 66) rfl ?_); refine gL (some 5) Try.func66 #[.int .i64 a0_0, .int .i64 1, .int .i64 20] ?_; (with_reducible refine (impl_InRange.calls a0_0 1 20 true _ A2.out).mono ?_); rintro e w' ⟨rfl, ⟨nd, rfl⟩⟩; refine ⟨_, rfl, ?_⟩) | (go_at_call 66; (with_reducible refine (impl_InRange.calls a0_1 1 3 true _ A4.out).mono ?_); rintro e w' ⟨rfl, ⟨nd, rfl⟩⟩) | (go_at_call 66; (with_reducible refine (impl_InRange.calls a0_2 0 3 false _ A6.out).mono ?_); rintro e w' ⟨rfl, ⟨nd, rfl⟩⟩))
    go_ret
    exact ⟨rA, bG⟩
  ·
   replace c5 := Bool.eq_false_iff.mpr c5
   subst c5
   have H1 : (some false) = some r := by rw [if_neg (show ¬ (false = true) by decide)] at H; exact H
   clear H
   have H := H1
   clear H1
   obtain rfl := Option.some.inj H
   go_enter Try.func146, Try.ntmps146
   go_wp2_with (first | ((with_reducible refine gate_dst (N := 1) rfl ?_); refine bE (N := 1) (cs := #[.int .i64 a0_0, .int .i64 a0_1, .int .i64 a0_2, .int .i64 a0_3]) (t := 89) ?_; intro gb338 hg w16 hbox hb; have n0_ := Aside0.mk (below_step bA hb); have n1_ := Aside0.mk (hbox); have n2_ := Aside0.mk ((by rw [hg]; exact (below_size bA) : w.heap.size ≤ gb338)); have n3_ := Aside0.mk ((by rw [hg]; exact (below_size bA) : w.heap.size ≤ gb338)); clear HB; have HB := n0_; have BK338 := n1_; have GW338 := n2_; have GE338 := n3_; clear n0_ n1_ n2_ n3_; clear hb hbox hg; have hcz17_0 : w16.cell? ⟨gb338, 0, none⟩ = some (.int .i64 a0_0) := bC BK338 0; have hcz17_1 : w16.cell? ⟨gb338, 1, none⟩ = some (.int .i64 a0_1) := bC BK338 1; have hcz17_2 : w16.cell? ⟨gb338, 2, none⟩ = some (.int .i64 a0_2) := bC BK338 2; have hcz17_3 : w16.cell? ⟨gb338, 3, none⟩ = some (.int .i64 a0_3) := bC BK338 3; have hfz17_0 := blk_frozen BK338.out 0; have hfz17_1 := blk_frozen BK338.out 1; have hfz17_2 := blk_frozen BK338.out 2; have hfz17_3 := blk_frozen BK338.out 3) | ((with_reducible refine gate_callee (f := 66) rfl ?_); refine gL (some 5) Try.func66 #[.int .i64 a0_0, .int .i64 1, .int .i64 20] ?_; (with_reducible refine (impl_InRange.calls a0_0 1 20 true _ A2.out).mono ?_); rintro e w' ⟨rfl, ⟨nd, rfl⟩⟩; refine ⟨_, rfl, ?_⟩) | (go_at_call 66; (with_reducible refine (impl_InRange.calls a0_1 1 3 false _ A4.out).mono ?_); rintro e w' ⟨rfl, ⟨nd, rfl⟩⟩))
   go_ret
   exact ⟨rA, bG⟩
 ·
  replace c3 := Bool.eq_false_iff.mpr c3
  subst c3
  have H1 : (some false) = some r := by rw [if_neg (show ¬ (false = true) by decide)] at H; exact H
  clear H
  have H := H1
  clear H1
  obtain rfl := Option.some.inj H
  go_enter Try.func146, Try.ntmps146
  go_wp2_with (first | ((with_reducible refine gate_dst (N := 1) rfl ?_); refine bE (N := 1) (cs := #[.int .i64 a0_0, .int .i64 a0_1, .int .i64 a0_2, .int .i64 a0_3]) (t := 89) ?_; intro gb338 hg w18 hbox hb; have n0_ := Aside0.mk (below_step bA hb); have n1_ := Aside0.mk (hbox); have n2_ := Aside0.mk ((by rw [hg]; exact (below_size bA) : w.heap.size ≤ gb338)); have n3_ := Aside0.mk ((by rw [hg]; exact (below_size bA) : w.heap.size ≤ gb338)); clear HB; have HB := n0_; have BK338 := n1_; have GW338 := n2_; have GE338 := n3_; clear n0_ n1_ n2_ n3_; clear hb hbox hg; have hcz19_0 : w18.cell? ⟨gb338, 0, none⟩ = some (.int .i64 a0_0) := bC BK338 0; have hcz19_1 : w18.cell? ⟨gb338, 1, none⟩ = some (.int .i64 a0_1) := bC BK338 1; have hcz19_2 : w18.cell? ⟨gb338, 2, none⟩ = some (.int .i64 a0_2) := bC BK338 2; have hcz19_3 : w18.cell? ⟨gb338, 3, none⟩ = some (.int .i64 a0_3) := bC BK338 3; have hfz19_0 := blk_frozen BK338.out 0; have hfz19_1 := blk_frozen BK338.out 1; have hfz19_2 := blk_frozen BK338.out 2; have hfz19_3 := blk_frozen BK338.out 3) | ((with_reducible refine gate_callee (f := 66) rfl ?_); refine gL (some 5) Try.func66 #[.int .i64 a0_0, .int .i64 1, .int .i64 20] ?_; (with_reducible refine (impl_InRange.calls a0_0 1 20 false _ A2.out).mono ?_); rintro e w' ⟨rfl, ⟨nd, rfl⟩⟩; refine ⟨_, rfl, ?_⟩))
  go_ret
  exact ⟨rA, bG⟩

/-! ### impl_ArePaths: function 126 -/
def impl_ArePaths.l0 : Nat → List (S89) → List (S89) → Int → Int → Option (Bool)
 | 0, _, _, _, _ => none
 | k + 1, x0, x8, x9, x10 => if x10 < x9 then (if 0 ≤ x10 then (if x10 < (x8.length : Int) then ((impl_IsPath.f ((rd_T89 x8 x10).f0) ((rd_T89 x8 x10).f1) ((rd_T89 x8 x10).f2) ((rd_T89 x8 x10).f3)).bind fun t345 => (if t345 = true then (if x10 > 0 then (if 0 ≤ (wrap64 (x10 - 1)) then (if (wrap64 (x10 - 1)) < (x0.length : Int) then (if ((rd_T89 x8 x10).f0) ≤ ((rd_T89 x0 (wrap64 (x10 - 1))).f0) then (some false) else (impl_ArePaths.l0 k x0 x8 x9 (wrap64 (x10 + 1)))) else (none)) else (none)) else (impl_ArePaths.l0 k x0 x8 x9 (wrap64 (x10 + 1)))) else (some false))) else (none)) else (none)) else (some true)
def impl_ArePaths.f (k : Nat) (l0 : List (S89)) : Option (Bool) := if (l0.length : Int) > 12 then (some false) else (impl_ArePaths.l0 k l0 l0 (l0.length : Int) 0)
theorem impl_ArePaths.mono_l : ∀ k, (∀ y0 y1 y2 y3, LeO (impl_ArePaths.l0 k y0 y1 y2 y3) (impl_ArePaths.l0 (k + 1) y0 y1 y2 y3))
 | 0 => fun _ _ _ _ r h => by simp [impl_ArePaths.l0] at h
 | k + 1 => by
  have ih0 := impl_ArePaths.mono_l k
  ·
   intro y0 y1 y2 y3
   unfold impl_ArePaths.l0
   repeat' first | (with_reducible first | exact LeO.refl _ | exact LeO.none _ | refine LeO.ite ?_ ?_ | refine LeO.bind ?_ (fun _ => ?_) | exact ih0 _ _ _ _)
theorem impl_ArePaths.mono : ∀ a0 k, LeO (impl_ArePaths.f k a0) (impl_ArePaths.f (k + 1) a0) := by
 intro a0 k
 have ih0 := impl_ArePaths.mono_l k
 unfold impl_ArePaths.f
 repeat' first | (with_reducible first | exact LeO.refl _ | exact LeO.none _ | refine LeO.ite ?_ ?_ | refine LeO.bind ?_ (fun _ => ?_) | exact ih0 _ _ _ _)
def impl_ArePaths.T6 : Bool × List (List Nat × List Nat) := (true, [([], []), ([0], [0]), ([1], [1]), ([2, 1], [2]), ([3], [3]), ([4, 3], [3, 4]), ([5, 3, 3], [3, 5]), ([6], [6]), ([7, 6], [6, 7]), ([6], [6]), ([6], [6]), ([10, 6], [6, 10]), ([9, 11, 6], [6, 9, 11]), ([12, 6], [6, 12]), ([13, 6], [6, 13]), ([8, 14, 6], [6, 8, 14]), ([6, 15, 3], [3, 6, 15]), ([3, 16], [3, 16])])
def impl_ArePaths.B6 : List Nat := [0, 1, 3, 7, 15, 31, 63, 127, 255, 127, 127, 1151, 3711, 7807, 15999, 32767, 65535, 131071]
theorem impl_ArePaths.tab6 : rtab .any (opsOf Try.f126 6) = impl_ArePaths.T6 := by kernel_rfl
theorem impl_ArePaths.bits6 : waitsOk impl_ArePaths.T6.2 impl_ArePaths.B6 = true := by kernel_rfl
set_option maxHeartbeats 8000000 in
set_option maxRecDepth 100000 in
theorem impl_ArePaths.calls (k : Nat) (A0 : Option Addr) (c0 : Nat) (l0 : List (S89)) (r : Bool) (w : World) (hr0 : Kd.C k89 w A0 l0.length l0) (hc0 : l0.length ≤ c0) (h : impl_ArePaths.f k l0 = some r) :
  Calls Try.prog 126 #[.slice A0 l0.length c0] w fun e w' => e = .returned (.bool r) ∧ Below w.heap.size w w' := by
 have hu89 := Try.underlying89
 have HR0 := Aside0.mk hr0
 have HC0 := Aside0.mk hc0
 clear hr0 hc0
 have HB := Aside0.mk (Below.refl w.heap.size w)
 have H : (if (l0.length : Int) > 12 then (some false) else (impl_ArePaths.l0 k l0 l0 (l0.length : Int) 0)) = some r := h
 clear h
 by_cases c2 : (l0.length : Int) > 12
 ·
  rw [if_pos c2] at H
  have c2b0 := decide_eq_true c2
  have c2b1 : decide (12 < l0.length) = true := decide_eq_true (by omega)
  clear c2
  obtain rfl := Option.some.inj H
  go_enter Try.func126, Try.ntmps126
  go_wp2
  go_ret
  exact ⟨rA, bA⟩
 ·
  rw [if_neg c2] at H
  have c2b0 := decide_eq_false c2
  have c2b1 : decide (12 < l0.length) = false := decide_eq_false (by omega)
  clear c2
  have H' := Aside0.mk H
  clear H
  go_enter Try.func126, Try.ntmps126
  go_wp2
  go_loopg [10] k (fun kq v10 w' => ∃ (x10_1 : Int), v10 = .int .i64 x10_1 ∧ Aside0 (impl_ArePaths.l0 kq l0 l0 (l0.length : Int) x10_1 = some r) ∧ Aside0 (kq ≤ k) ∧ Aside0 (Below w.heap.size w w'))
  case atStart => exact ⟨(0), rS, H', ⟨Nat.le_refl _⟩, ⟨bA⟩⟩
  case round =>
   clear H'
   try clear c1
   try clear c2
   try clear c2b0
   try clear c2b1
   try clear p2
   obtain ⟨x10_1, rfl, HA, HK1, HB⟩ := hrel
   cases gk with
   | zero => exact absurd HA.out (by simp [impl_ArePaths.l0])
   | succ k1 =>
    have H := HA.out
    clear HA
    simp only [impl_ArePaths.l0] at H
    by_cases c3 : x10_1 < (l0.length : Int)
    ·
     rw [if_pos c3] at H
     have c3b0 := decide_eq_true c3
     clear c3
     have c4 : 0 ≤ x10_1 := ifN H
     replace H := ifT H
     have c4b0 := decide_eq_true c4
     clear c4
     have c5 : x10_1 < (l0.length : Int) := ifN H
     replace H := ifT H
     have c5b0 := decide_eq_true c5
     clear c5
     obtain ⟨t345, A6, H⟩ := bindE H
     try dsimp only at H
     by_cases c7 : t345 = true
     ·
      subst c7
      have H1 : (if x10_1 > 0 then (if 0 ≤ (wrap64 (x10_1 - 1)) then (if (wrap64 (x10_1 - 1)) < (l0.length : Int) then (if ((rd_T89 l0 x10_1).f0) ≤ ((rd_T89 l0 (wrap64 (x10_1 - 1))).f0) then (some false) else (impl_ArePaths.l0 k1 l0 l0 (l0.length : Int) (wrap64 (x10_1 + 1)))) else (none)) else (none)) else (impl_ArePaths.l0 k1 l0 l0 (l0.length : Int) (wrap64 (x10_1 + 1)))) = some r := by rw [if_pos rfl] at H; exact H
      clear H
      have H := H1
      clear H1
      by_cases c8 : x10_1 > 0
      ·
       rw [if_pos c8] at H
       have c8b0 := decide_eq_true c8
       clear c8
       obtain ⟨ji9, hji9⟩ : ∃ j_ : Int, (wrap64 (x10_1 - 1)) = j_ := ⟨_, rfl⟩
       replace H : (if 0 ≤ (ji9) then (if (ji9) < (l0.length : Int) then (if ((rd_T89 l0 x10_1).f0) ≤ ((rd_T89 l0 (ji9)).f0) then (some false) else (impl_ArePaths.l0 k1 l0 l0 (l0.length : Int) (wrap64 (x10_1 + 1)))) else (none)) else (none)) = some r := by first | (rw [hji9] at H; exact H) | (simp only [hji9] at H ⊢; exact H)
       (try rw [hji9] at A6)
       have hji9w : (IntKind.i64.wrap (x10_1 - 1)) = ji9 := (i64_w _).trans hji9
       have c10 : 0 ≤ (ji9) := ifN H
       replace H := ifT H
       have c10b0 := decide_eq_true c10
       clear c10
       have c11 : (ji9) < (l0.length : Int) := ifN H
       replace H := ifT H
       have c11b0 := decide_eq_true c11
       clear c11
       by_cases c12 : ((rd_T89 l0 x10_1).f0) ≤ ((rd_T89 l0 (ji9)).f0)
       ·
        rw [if_pos c12] at H
        have c12b0 := decide_eq_true c12
        clear c12
        obtain rfl := Option.some.inj H
        have p343 : 0 ≤ (x10_1 : Int) := dA
        have q343 : x10_1 < (l0.length : Int) := dA
        obtain ⟨ad343, e343, hx343_0, hx343_1, hx343_2, hx343_3⟩ := at_T89 HR0.out x10_1 p343 q343
        cases e343
        replace hx343_0 := hC HB hx343_0
        replace hx343_1 := hC HB hx343_1
        replace hx343_2 := hC HB hx343_2
        replace hx343_3 := hC HB hx343_3
        replace p343 := eq_true p343
        replace q343 := eq_true q343
        try go_wp2_with (first | ((with_reducible refine gate_dst (N := 4) rfl ?_); refine bE (N := 4) (cs := #[.int .i64 0, .int .i64 0, .int .i64 0, .int .i64 0]) (t := 89) ?_; intro gb344 hg w13 hbox hb; have n0_ := Aside0.mk (below_step bA hb); have n1_ := Aside0.mk (hbox); have n2_ := Aside0.mk ((by rw [hg]; exact (below_size bA) : w.heap.size ≤ gb344)); have n3_ := Aside0.mk ((by rw [hg]; exact (below_size bA) : w.heap.size ≤ gb344)); clear HB; have HB := n0_; have BK344 := n1_; have GW344 := n2_; have GE344 := n3_; clear n0_ n1_ n2_ n3_; clear hb hbox hg; obtain ⟨hcz14_0, hcz14_1, hcz14_2, hcz14_3, hfz14_0, hfz14_1, hfz14_2, hfz14_3⟩ := blkc4 BK344))
        have n0_ : Aside0 (((((w13.setCell ⟨gb344, 0, none⟩ (.int .i64 ((rd_T89 l0 x10_1).f0))).setCell ⟨gb344, 1, none⟩ (.int .i64 ((rd_T89 l0 x10_1).f1))).setCell ⟨gb344, 2, none⟩ (.int .i64 ((rd_T89 l0 x10_1).f2))).setCell ⟨gb344, 3, none⟩ (.int .i64 ((rd_T89 l0 x10_1).f3))).heap[gb344]? = some (.cells #[.int .i64 ((rd_T89 l0 x10_1).f0), .int .i64 ((rd_T89 l0 x10_1).f1), .int .i64 ((rd_T89 l0 x10_1).f2), .int .i64 ((rd_T89 l0 x10_1).f3)] 89 (0, 0))) := ⟨by (with_reducible repeat (first | refine blk_drewN ?_ _ | refine blk_drew ?_ | refine blk_alloc ?_ _)); refine blk_put (cs := #[.int .i64 ((rd_T89 l0 x10_1).f0), .int .i64 ((rd_T89 l0 x10_1).f1), .int .i64 ((rd_T89 l0 x10_1).f2), .int .i64 0]) ?_ 3 _ rfl; (with_reducible repeat (first | refine blk_drewN ?_ _ | refine blk_drew ?_ | refine blk_alloc ?_ _)); refine blk_put (cs := #[.int .i64 ((rd_T89 l0 x10_1).f0), .int .i64 ((rd_T89 l0 x10_1).f1), .int .i64 0, .int .i64 0]) ?_ 2 _ rfl; (with_reducible repeat (first | refine blk_drewN ?_ _ | refine blk_drew ?_ | refine blk_alloc ?_ _)); refine blk_put (cs := #[.int .i64 ((rd_T89 l0 x10_1).f0), .int .i64 0, .int .i64 0, .int .i64 0]) ?_ 1 _ rfl; (with_reducible repeat (first | refine blk_drewN ?_ _ | refine blk_drew ?_ | refine blk_alloc ?_ _)); refine blk_put (cs := #[.int .i64 0, .int .i64 0, .int .i64 0, .int .i64 0]) ?_ 0 _ rfl; (with_reducible repeat (first | refine blk_drewN ?_ _ | refine blk_drew ?_ | refine blk_alloc ?_ _)); exact BK344.out⟩
        have n1_ : Aside0 (Below w.heap.size w ((((w13.setCell ⟨gb344, 0, none⟩ (.int .i64 ((rd_T89 l0 x10_1).f0))).setCell ⟨gb344, 1, none⟩ (.int .i64 ((rd_T89 l0 x10_1).f1))).setCell ⟨gb344, 2, none⟩ (.int .i64 ((rd_T89 l0 x10_1).f2))).setCell ⟨gb344, 3, none⟩ (.int .i64 ((rd_T89 l0 x10_1).f3)))) := ⟨bG⟩
        (try clear BK344)
        (try clear HB)
        generalize ((((w13.setCell ⟨gb344, 0, none⟩ (.int .i64 ((rd_T89 l0 x10_1).f0))).setCell ⟨gb344, 1, none⟩ (.int .i64 ((rd_T89 l0 x10_1).f1))).setCell ⟨gb344, 2, none⟩ (.int .i64 ((rd_T89 l0 x10_1).f2))).setCell ⟨gb344, 3, none⟩ (.int .i64 ((rd_T89 l0 x10_1).f3))) = w15 at n0_ n1_ ⊢
        have BK344 := n0_
        have HB := n1_
        clear n0_ n1_
        replace BK344 := Aside0.mk (blk_drew BK344.out)
        have HBo := HB
        replace HB := Aside0.mk (below_drew1 HB.out)
        have p346 : 0 ≤ ((ji9) : Int) := dA
        have q346 : (ji9) < (l0.length : Int) := dA
        obtain ⟨ad346, e346, hx346_0, hx346_1, hx346_2, hx346_3⟩ := at_T89 HR0.out (ji9) p346 q346
        have hw346_3 := hx346_3
        have hw346_2 := hx346_2
        have hw346_1 := hx346_1
        have hw346_0 := hx346_0
        obtain rfl : ad343 = ad346 := (by injection e346)
        replace hx346_0 := hC HB hx346_0
        replace hx346_1 := hC HB hx346_1
        replace hx346_2 := hC HB hx346_2
        replace hx346_3 := hC HB hx346_3
        replace p346 := eq_true p346
        replace q346 := eq_true q346
        refine start_ (n := 18) (S := fun w' => w'.cell? ⟨gb344, 0, none⟩ = some (.int .i64 ((rd_T89 l0 x10_1).f0)) ∧ w'.cell? ⟨gb344, 1, none⟩ = some (.int .i64 ((rd_T89 l0 x10_1).f1)) ∧ w'.cell? ⟨gb344, 2, none⟩ = some (.int .i64 ((rd_T89 l0 x10_1).f2)) ∧ w'.cell? ⟨gb344, 3, none⟩ = some (.int .i64 ((rd_T89 l0 x10_1).f3)) ∧ w'.cell? (ad343.add (((ji9)).toNat * 4)) = some (.int .i64 ((rd_T89 l0 (ji9)).f0)) ∧ w'.cell? ⟨(ad343.add (((ji9)).toNat * 4)).block, (ad343.add (((ji9)).toNat * 4)).off + 1, none⟩ = some (.int .i64 ((rd_T89 l0 (ji9)).f1)) ∧ w'.cell? ⟨(ad343.add (((ji9)).toNat * 4)).block, (ad343.add (((ji9)).toNat * 4)).off + 2, none⟩ = some (.int .i64 ((rd_T89 l0 (ji9)).f2)) ∧ w'.cell? ⟨(ad343.add (((ji9)).toNat * 4)).block, (ad343.add (((ji9)).toNat * 4)).off + 3, none⟩ = some (.int .i64 ((rd_T89 l0 (ji9)).f3))) (ds := []) (mb 18 0) (by kernel_rfl) rfl rfl ⟨bC BK344 0, bC BK344 1, bC BK344 2, bC BK344 3, (hC HB hw346_0), (hC HB hw346_1), (hC HB hw346_2), (hC HB hw346_3)⟩ (fun hHeld => ?_); refine with_tabW impl_ArePaths.tab6 impl_ArePaths.bits6 (fun HT_ HW_ => ?_)
        generalize w15.drew = w16 at BK344 HB hx346_0 hx346_1 hx346_2 hx346_3 hHeld ⊢
        refine tA8 (i := 0) (N := some 15) (mb 18 1) HT_ HW_ hHeld ?_
        refine oA (i := 1) (N := some 16) (mb 18 3) HT_ (fun K hK => ?_)
        refine gA Try.func146 #[.agg #[.int .i64 ((rd_T89 l0 x10_1).f0), .int .i64 ((rd_T89 l0 x10_1).f1), .int .i64 ((rd_T89 l0 x10_1).f2), .int .i64 ((rd_T89 l0 x10_1).f3)]] ?_
        with_reducible refine (impl_IsPath.calls ((rd_T89 l0 x10_1).f0) ((rd_T89 l0 x10_1).f1) ((rd_T89 l0 x10_1).f2) ((rd_T89 l0 x10_1).f3) true _ A6.out).mono ?_
        rintro e w17 ⟨rfl, hb⟩
        refine ⟨_, rfl, ?_⟩
        replace BK344 := Aside0.mk (blk_below (g := gb344) (bK BK344) hb)
        replace HB := Aside0.mk (below_step bG hb)
        (try clear hb)
        (try clear hb2)
        (try clear hk)
        (try clear hi)
        refine hK.out _ _ ⟨bC BK344 0, bC BK344 1, bC BK344 2, bC BK344 3, (hC HB hw346_0), (hC HB hw346_1), (hC HB hw346_2), (hC HB hw346_3)⟩ (fun hHeld => ?_)
        clear hK K
        refine nB ?_
        refine pA (i := 2) (N := some 17) (mb 18 7) HT_ ?_
        refine pA (i := 3) (N := some 18) (mb 18 15) HT_ ?_
        refine pA (i := 4) (N := some 19) (mb 18 31) HT_ ?_
        refine pA (i := 5) (N := some 20) (mb 18 63) HT_ ?_
        refine pA (i := 6) (N := some 21) (mb 18 127) HT_ ?_
        refine pA (i := 7) (N := some 22) (mb 18 255) HT_ ?_
        refine pA (i := 9) (N := some 24) (mb 18 767) HT_ ?_
        refine pA (i := 10) (N := some 25) (mb 18 1791) HT_ ?_
        refine pA (i := 11) (N := some 26) (mb 18 3839) HT_ ?_
        refine pA (i := 12) (N := some 27) (mb 18 7935) HT_ ?_
        refine pA (i := 13) (N := some 28) (mb 18 16127) HT_ ?_
        refine tA8 (i := 8) (N := some 23) (mb 18 16383) HT_ HW_ hHeld ?_
        refine tA8 (i := 14) (N := some 29) (mb 18 32767) HT_ HW_ hHeld ?_
        refine pA (i := 15) (N := some 30) (mb 18 65535) HT_ ?_
        refine pA (i := 16) (N := some 31) (mb 18 131071) HT_ ?_
        refine pA (i := 17) (N := some 32) (mb 18 262143) HT_ ?_
        refine eA HT_ ?_
        try go_wp2
        go_ret
        exact ⟨by first | rfl | (simp [errW_none, errW_some] <;> rfl) | (simp only [← hji9]; first | rfl | (simp [errW_none, errW_some] <;> rfl)) | (simp [*, errW_none, errW_some] <;> rfl), bG⟩
       ·
        rw [if_neg c12] at H
        have c12b0 := decide_eq_false c12
        clear c12
        have H' := Aside0.mk H
        clear H
        have p343 : 0 ≤ (x10_1 : Int) := dA
        have q343 : x10_1 < (l0.length : Int) := dA
        obtain ⟨ad343, e343, hx343_0, hx343_1, hx343_2, hx343_3⟩ := at_T89 HR0.out x10_1 p343 q343
        cases e343
        replace hx343_0 := hC HB hx343_0
        replace hx343_1 := hC HB hx343_1
        replace hx343_2 := hC HB hx343_2
        replace hx343_3 := hC HB hx343_3
        replace p343 := eq_true p343
        replace q343 := eq_true q343
        try go_wp2_with (first | ((with_reducible refine gate_dst (N := 4) rfl ?_); refine bE (N := 4) (cs := #[.int .i64 0, .int .i64 0, .int .i64 0, .int .i64 0]) (t := 89) ?_; intro gb344 hg w18 hbox hb; have n0_ := Aside0.mk (below_step bA hb); have n1_ := Aside0.mk (hbox); have n2_ := Aside0.mk ((by rw [hg]; exact (below_size bA) : w.heap.size ≤ gb344)); have n3_ := Aside0.mk ((by rw [hg]; exact (below_size bA) : w.heap.size ≤ gb344)); clear HB; have HB := n0_; have BK344 := n1_; have GW344 := n2_; have GE344 := n3_; clear n0_ n1_ n2_ n3_; clear hb hbox hg; obtain ⟨hcz19_0, hcz19_1, hcz19_2, hcz19_3, hfz19_0, hfz19_1, hfz19_2, hfz19_3⟩ := blkc4 BK344))
        have n0_ : Aside0 (((((w18.setCell ⟨gb344, 0, none⟩ (.int .i64 ((rd_T89 l0 x10_1).f0))).setCell ⟨gb344, 1, none⟩ (.int .i64 ((rd_T89 l0 x10_1).f1))).setCell ⟨gb344, 2, none⟩ (.int .i64 ((rd_T89 l0 x10_1).f2))).setCell ⟨gb344, 3, none⟩ (.int .i64 ((rd_T89 l0 x10_1).f3))).heap[gb344]? = some (.cells #[.int .i64 ((rd_T89 l0 x10_1).f0), .int .i64 ((rd_T89 l0 x10_1).f1), .int .i64 ((rd_T89 l0 x10_1).f2), .int .i64 ((rd_T89 l0 x10_1).f3)] 89 (0, 0))) := ⟨by (with_reducible repeat (first | refine blk_drewN ?_ _ | refine blk_drew ?_ | refine blk_alloc ?_ _)); refine blk_put (cs := #[.int .i64 ((rd_T89 l0 x10_1).f0), .int .i64 ((rd_T89 l0 x10_1).f1), .int .i64 ((rd_T89 l0 x10_1).f2), .int .i64 0]) ?_ 3 _ rfl; (with_reducible repeat (first | refine blk_drewN ?_ _ | refine blk_drew ?_ | refine blk_alloc ?_ _)); refine blk_put (cs := #[.int .i64 ((rd_T89 l0 x10_1).f0), .int .i64 ((rd_T89 l0 x10_1).f1), .int .i64 0, .int .i64 0]) ?_ 2 _ rfl; (with_reducible repeat (first | refine blk_drewN ?_ _ | refine blk_drew ?_ | refine blk_alloc ?_ _)); refine blk_put (cs := #[.int .i64 ((rd_T89 l0 x10_1).f0), .int .i64 0, .int .i64 0, .int .i64 0]) ?_ 1 _ rfl; (with_reducible repeat (first | refine blk_drewN ?_ _ | refine blk_drew ?_ | refine blk_alloc ?_ _)); refine blk_put (cs := #[.int .i64 0, .int .i64 0, .int .i64 0, .int .i64 0]) ?_ 0 _ rfl; (with_reducible repeat (first | refine blk_drewN ?_ _ | refine blk_drew ?_ | refine blk_alloc ?_ _)); exact BK344.out⟩
        have n1_ : Aside0 (Below w.heap.size w ((((w18.setCell ⟨gb344, 0, none⟩ (.int .i64 ((rd_T89 l0 x10_1).f0))).setCell ⟨gb344, 1, none⟩ (.int .i64 ((rd_T89 l0 x10_1).f1))).setCell ⟨gb344, 2, none⟩ (.int .i64 ((rd_T89 l0 x10_1).f2))).setCell ⟨gb344, 3, none⟩ (.int .i64 ((rd_T89 l0 x10_1).f3)))) := ⟨bG⟩
        (try clear BK344)
        (try clear HB)
        generalize ((((w18.setCell ⟨gb344, 0, none⟩ (.int .i64 ((rd_T89 l0 x10_1).f0))).setCell ⟨gb344, 1, none⟩ (.int .i64 ((rd_T89 l0 x10_1).f1))).setCell ⟨gb344, 2, none⟩ (.int .i64 ((rd_T89 l0 x10_1).f2))).setCell ⟨gb344, 3, none⟩ (.int .i64 ((rd_T89 l0 x10_1).f3))) = w20 at n0_ n1_ ⊢
        have BK344 := n0_
        have HB := n1_
        clear n0_ n1_
        replace BK344 := Aside0.mk (blk_drew BK344.out)
        have HBo := HB
        replace HB := Aside0.mk (below_drew1 HB.out)
        have p346 : 0 ≤ ((ji9) : Int) := dA
        have q346 : (ji9) < (l0.length : Int) := dA
        obtain ⟨ad346, e346, hx346_0, hx346_1, hx346_2, hx346_3⟩ := at_T89 HR0.out (ji9) p346 q346
        have hw346_3 := hx346_3
        have hw346_2 := hx346_2
        have hw346_1 := hx346_1
        have hw346_0 := hx346_0
        obtain rfl : ad343 = ad346 := (by injection e346)
        replace hx346_0 := hC HB hx346_0
        replace hx346_1 := hC HB hx346_1
        replace hx346_2 := hC HB hx346_2
        replace hx346_3 := hC HB hx346_3
        replace p346 := eq_true p346
        replace q346 := eq_true q346
        refine start_ (n := 18) (S := fun w' => w'.cell? ⟨gb344, 0, none⟩ = some (.int .i64 ((rd_T89 l0 x10_1).f0)) ∧ w'.cell? ⟨gb344, 1, none⟩ = some (.int .i64 ((rd_T89 l0 x10_1).f1)) ∧ w'.cell? ⟨gb344, 2, none⟩ = some (.int .i64 ((rd_T89 l0 x10_1).f2)) ∧ w'.cell? ⟨gb344, 3, none⟩ = some (.int .i64 ((rd_T89 l0 x10_1).f3)) ∧ w'.cell? (ad343.add (((ji9)).toNat * 4)) = some (.int .i64 ((rd_T89 l0 (ji9)).f0)) ∧ w'.cell? ⟨(ad343.add (((ji9)).toNat * 4)).block, (ad343.add (((ji9)).toNat * 4)).off + 1, none⟩ = some (.int .i64 ((rd_T89 l0 (ji9)).f1)) ∧ w'.cell? ⟨(ad343.add (((ji9)).toNat * 4)).block, (ad343.add (((ji9)).toNat * 4)).off + 2, none⟩ = some (.int .i64 ((rd_T89 l0 (ji9)).f2)) ∧ w'.cell? ⟨(ad343.add (((ji9)).toNat * 4)).block, (ad343.add (((ji9)).toNat * 4)).off + 3, none⟩ = some (.int .i64 ((rd_T89 l0 (ji9)).f3))) (ds := []) (mb 18 0) (by kernel_rfl) rfl rfl ⟨bC BK344 0, bC BK344 1, bC BK344 2, bC BK344 3, (hC HB hw346_0), (hC HB hw346_1), (hC HB hw346_2), (hC HB hw346_3)⟩ (fun hHeld => ?_); refine with_tabW impl_ArePaths.tab6 impl_ArePaths.bits6 (fun HT_ HW_ => ?_)
        generalize w20.drew = w21 at BK344 HB hx346_0 hx346_1 hx346_2 hx346_3 hHeld ⊢
        refine tA8 (i := 0) (N := some 15) (mb 18 1) HT_ HW_ hHeld ?_
        refine oA (i := 1) (N := some 16) (mb 18 3) HT_ (fun K hK => ?_)
        refine gA Try.func146 #[.agg #[.int .i64 ((rd_T89 l0 x10_1).f0), .int .i64 ((rd_T89 l0 x10_1).f1), .int .i64 ((rd_T89 l0 x10_1).f2), .int .i64 ((rd_T89 l0 x10_1).f3)]] ?_
        with_reducible refine (impl_IsPath.calls ((rd_T89 l0 x10_1).f0) ((rd_T89 l0 x10_1).f1) ((rd_T89 l0 x10_1).f2) ((rd_T89 l0 x10_1).f3) true _ A6.out).mono ?_
        rintro e w22 ⟨rfl, hb⟩
        refine ⟨_, rfl, ?_⟩
        replace BK344 := Aside0.mk (blk_below (g := gb344) (bK BK344) hb)
        replace HB := Aside0.mk (below_step bG hb)
        (try clear hb)
        (try clear hb2)
        (try clear hk)
        (try clear hi)
        refine hK.out _ _ ⟨bC BK344 0, bC BK344 1, bC BK344 2, bC BK344 3, (hC HB hw346_0), (hC HB hw346_1), (hC HB hw346_2), (hC HB hw346_3)⟩ (fun hHeld => ?_)
        clear hK K
        refine nB ?_
        refine pA (i := 2) (N := some 17) (mb 18 7) HT_ ?_
        refine pA (i := 3) (N := some 18) (mb 18 15) HT_ ?_
        refine pA (i := 4) (N := some 19) (mb 18 31) HT_ ?_
        refine pA (i := 5) (N := some 20) (mb 18 63) HT_ ?_
        refine pA (i := 6) (N := some 21) (mb 18 127) HT_ ?_
        refine pA (i := 7) (N := some 22) (mb 18 255) HT_ ?_
        refine pA (i := 9) (N := some 24) (mb 18 767) HT_ ?_
        refine pA (i := 10) (N := some 25) (mb 18 1791) HT_ ?_
        refine pA (i := 11) (N := some 26) (mb 18 3839) HT_ ?_
        refine pA (i := 12) (N := some 27) (mb 18 7935) HT_ ?_
        refine pA (i := 13) (N := some 28) (mb 18 16127) HT_ ?_
        refine tA8 (i := 8) (N := some 23) (mb 18 16383) HT_ HW_ hHeld ?_
        refine tA8 (i := 14) (N := some 29) (mb 18 32767) HT_ HW_ hHeld ?_
        refine pA (i := 15) (N := some 30) (mb 18 65535) HT_ ?_
        refine pA (i := 16) (N := some 31) (mb 18 131071) HT_ ?_
        refine pA (i := 17) (N := some 32) (mb 18 262143) HT_ ?_
        refine eA HT_ ?_
        try go_wp2
        go_roundg k1
        case measure => have := HK1.out; omega
        case rel => exact ⟨(wrap64 (x10_1 + 1)), rS, H', ⟨by have := HK1.out; omega⟩, ⟨bG⟩⟩
      ·
       rw [if_neg c8] at H
       have c8b0 := decide_eq_false c8
       clear c8
       have H' := Aside0.mk H
       clear H
       have p343 : 0 ≤ (x10_1 : Int) := dA
       have q343 : x10_1 < (l0.length : Int) := dA
       obtain ⟨ad343, e343, hx343_0, hx343_1, hx343_2, hx343_3⟩ := at_T89 HR0.out x10_1 p343 q343
       cases e343
       replace hx343_0 := hC HB hx343_0
       replace hx343_1 := hC HB hx343_1
       replace hx343_2 := hC HB hx343_2
       replace hx343_3 := hC HB hx343_3
       replace p343 := eq_true p343
       replace q343 := eq_true q343
       try go_wp2_with (first | ((with_reducible refine gate_dst (N := 4) rfl ?_); refine bE (N := 4) (cs := #[.int .i64 0, .int .i64 0, .int .i64 0, .int .i64 0]) (t := 89) ?_; intro gb344 hg w23 hbox hb; have n0_ := Aside0.mk (below_step bA hb); have n1_ := Aside0.mk (hbox); have n2_ := Aside0.mk ((by rw [hg]; exact (below_size bA) : w.heap.size ≤ gb344)); have n3_ := Aside0.mk ((by rw [hg]; exact (below_size bA) : w.heap.size ≤ gb344)); clear HB; have HB := n0_; have BK344 := n1_; have GW344 := n2_; have GE344 := n3_; clear n0_ n1_ n2_ n3_; clear hb hbox hg; obtain ⟨hcz24_0, hcz24_1, hcz24_2, hcz24_3, hfz24_0, hfz24_1, hfz24_2, hfz24_3⟩ := blkc4 BK344))
       have n0_ : Aside0 (((((w23.setCell ⟨gb344, 0, none⟩ (.int .i64 ((rd_T89 l0 x10_1).f0))).setCell ⟨gb344, 1, none⟩ (.int .i64 ((rd_T89 l0 x10_1).f1))).setCell ⟨gb344, 2, none⟩ (.int .i64 ((rd_T89 l0 x10_1).f2))).setCell ⟨gb344, 3, none⟩ (.int .i64 ((rd_T89 l0 x10_1).f3))).heap[gb344]? = some (.cells #[.int .i64 ((rd_T89 l0 x10_1).f0), .int .i64 ((rd_T89 l0 x10_1).f1), .int .i64 ((rd_T89 l0 x10_1).f2), .int .i64 ((rd_T89 l0 x10_1).f3)] 89 (0, 0))) := ⟨by (with_reducible repeat (first | refine blk_drewN ?_ _ | refine blk_drew ?_ | refine blk_alloc ?_ _)); refine blk_put (cs := #[.int .i64 ((rd_T89 l0 x10_1).f0), .int .i64 ((rd_T89 l0 x10_1).f1), .int .i64 ((rd_T89 l0 x10_1).f2), .int .i64 0]) ?_ 3 _ rfl; (with_reducible repeat (first | refine blk_drewN ?_ _ | refine blk_drew ?_ | refine blk_alloc ?_ _)); refine blk_put (cs := #[.int .i64 ((rd_T89 l0 x10_1).f0), .int .i64 ((rd_T89 l0 x10_1).f1), .int .i64 0, .int .i64 0]) ?_ 2 _ rfl; (with_reducible repeat (first | refine blk_drewN ?_ _ | refine blk_drew ?_ | refine blk_alloc ?_ _)); refine blk_put (cs := #[.int .i64 ((rd_T89 l0 x10_1).f0), .int .i64 0, .int .i64 0, .int .i64 0]) ?_ 1 _ rfl; (with_reducible repeat (first | refine blk_drewN ?_ _ | refine blk_drew ?_ | refine blk_alloc ?_ _)); refine blk_put (cs := #[.int .i64 0, .int .i64 0, .int .i64 0, .int .i64 0]) ?_ 0 _ rfl; (with_reducible repeat (first | refine blk_drewN ?_ _ | refine blk_drew ?_ | refine blk_alloc ?_ _)); exact BK344.out⟩
       have n1_ : Aside0 (Below w.heap.size w ((((w23.setCell ⟨gb344, 0, none⟩ (.int .i64 ((rd_T89 l0 x10_1).f0))).setCell ⟨gb344, 1, none⟩ (.int .i64 ((rd_T89 l0 x10_1).f1))).setCell ⟨gb344, 2, none⟩ (.int .i64 ((rd_T89 l0 x10_1).f2))).setCell ⟨gb344, 3, none⟩ (.int .i64 ((rd_T89 l0 x10_1).f3)))) := ⟨bG⟩
       (try clear BK344)
       (try clear HB)
       generalize ((((w23.setCell ⟨gb344, 0, none⟩ (.int .i64 ((rd_T89 l0 x10_1).f0))).setCell ⟨gb344, 1, none⟩ (.int .i64 ((rd_T89 l0 x10_1).f1))).setCell ⟨gb344, 2, none⟩ (.int .i64 ((rd_T89 l0 x10_1).f2))).setCell ⟨gb344, 3, none⟩ (.int .i64 ((rd_T89 l0 x10_1).f3))) = w25 at n0_ n1_ ⊢
       have BK344 := n0_
       have HB := n1_
       clear n0_ n1_
       replace BK344 := Aside0.mk (blk_drew BK344.out)
       have HBo := HB
       replace HB := Aside0.mk (below_drew1 HB.out)
       refine start_ (n := 18) (S := fun w' => w'.cell? ⟨gb344, 0, none⟩ = some (.int .i64 ((rd_T89 l0 x10_1).f0)) ∧ w'.cell? ⟨gb344, 1, none⟩ = some (.int .i64 ((rd_T89 l0 x10_1).f1)) ∧ w'.cell? ⟨gb344, 2, none⟩ = some (.int .i64 ((rd_T89 l0 x10_1).f2)) ∧ w'.cell? ⟨gb344, 3, none⟩ = some (.int .i64 ((rd_T89 l0 x10_1).f3))) (ds := []) (mb 18 0) (by kernel_rfl) rfl rfl ⟨bC BK344 0, bC BK344 1, bC BK344 2, bC BK344 3⟩ (fun hHeld => ?_); refine with_tabW impl_ArePaths.tab6 impl_ArePaths.bits6 (fun HT_ HW_ => ?_)
       generalize w25.drew = w26 at BK344 HB hHeld ⊢
       refine tA4 (i := 0) (N := some 15) (mb 18 1) HT_ HW_ hHeld ?_
       refine oA (i := 1) (N := some 16) (mb 18 3) HT_ (fun K hK => ?_)
       refine gA Try.func146 #[.agg #[.int .i64 ((rd_T89 l0 x10_1).f0), .int .i64 ((rd_T89 l0 x10_1).f1), .int .i64 ((rd_T89 l0 x10_1).f2), .int .i64 ((rd_T89 l0 x10_1).f3)]] ?_
       with_reducible refine (impl_IsPath.calls ((rd_T89 l0 x10_1).f0) ((rd_T89 l0 x10_1).f1) ((rd_T89 l0 x10_1).f2) ((rd_T89 l0 x10_1).f3) true _ A6.out).mono ?_
       rintro e w27 ⟨rfl, hb⟩
       refine ⟨_, rfl, ?_⟩
       replace BK344 := Aside0.mk (blk_below (g := gb344) (bK BK344) hb)
       replace HB := Aside0.mk (below_step bG hb)
       (try clear hb)
       (try clear hb2)
       (try clear hk)
       (try clear hi)
       refine hK.out _ _ ⟨bC BK344 0, bC BK344 1, bC BK344 2, bC BK344 3⟩ (fun hHeld => ?_)
       clear hK K
       refine nB ?_
       refine pA (i := 2) (N := some 17) (mb 18 7) HT_ ?_
       refine pA (i := 3) (N := some 18) (mb 18 15) HT_ ?_
       refine pA (i := 4) (N := some 19) (mb 18 31) HT_ ?_
       refine pA (i := 5) (N := some 20) (mb 18 63) HT_ ?_
       refine pA (i := 6) (N := some 21) (mb 18 127) HT_ ?_
       refine pU (i := 7) (N := some 22) (mb 18 255) HT_ ?_
       refine pU (i := 8) (N := some 23) (mb 18 511) HT_ ?_
       refine pU (i := 9) (N := some 24) (mb 18 1023) HT_ ?_
       refine pU (i := 10) (N := some 25) (mb 18 2047) HT_ ?_
       refine pU (i := 11) (N := some 26) (mb 18 4095) HT_ ?_
       refine pU (i := 12) (N := some 27) (mb 18 8191) HT_ ?_
       refine pU (i := 13) (N := some 28) (mb 18 16383) HT_ ?_
       refine pU (i := 14) (N := some 29) (mb 18 32767) HT_ ?_
       refine pU (i := 15) (N := some 30) (mb 18 65535) HT_ ?_
       refine pA (i := 16) (N := some 31) (mb 18 131071) HT_ ?_
       refine pA (i := 17) (N := some 32) (mb 18 262143) HT_ ?_
       refine eA HT_ ?_
       try go_wp2
       go_roundg k1
       case measure => have := HK1.out; omega
       case rel => exact ⟨(wrap64 (x10_1 + 1)), rS, H', ⟨by have := HK1.out; omega⟩, ⟨bG⟩⟩
     ·
      replace c7 := Bool.eq_false_iff.mpr c7
      subst c7
      have H1 : (some false) = some r := by rw [if_neg (show ¬ (false = true) by decide)] at H; exact H
      clear H
      have H := H1
      clear H1
      obtain rfl := Option.some.inj H
      have p343 : 0 ≤ (x10_1 : Int) := dA
      have q343 : x10_1 < (l0.length : Int) := dA
      obtain ⟨ad343, e343, hx343_0, hx343_1, hx343_2, hx343_3⟩ := at_T89 HR0.out x10_1 p343 q343
      cases e343
      replace hx343_0 := hC HB hx343_0
      replace hx343_1 := hC HB hx343_1
      replace hx343_2 := hC HB hx343_2
      replace hx343_3 := hC HB hx343_3
      replace p343 := eq_true p343
      replace q343 := eq_true q343
      try go_wp2_with (first | ((with_reducible refine gate_dst (N := 4) rfl ?_); refine bE (N := 4) (cs := #[.int .i64 0, .int .i64 0, .int .i64 0, .int .i64 0]) (t := 89) ?_; intro gb344 hg w28 hbox hb; have n0_ := Aside0.mk (below_step bA hb); have n1_ := Aside0.mk (hbox); have n2_ := Aside0.mk ((by rw [hg]; exact (below_size bA) : w.heap.size ≤ gb344)); have n3_ := Aside0.mk ((by rw [hg]; exact (below_size bA) : w.heap.size ≤ gb344)); clear HB; have HB := n0_; have BK344 := n1_; have GW344 := n2_; have GE344 := n3_; clear n0_ n1_ n2_ n3_; clear hb hbox hg; obtain ⟨hcz29_0, hcz29_1, hcz29_2, hcz29_3, hfz29_0, hfz29_1, hfz29_2, hfz29_3⟩ := blkc4 BK344))
      have n0_ : Aside0 (((((w28.setCell ⟨gb344, 0, none⟩ (.int .i64 ((rd_T89 l0 x10_1).f0))).setCell ⟨gb344, 1, none⟩ (.int .i64 ((rd_T89 l0 x10_1).f1))).setCell ⟨gb344, 2, none⟩ (.int .i64 ((rd_T89 l0 x10_1).f2))).setCell ⟨gb344, 3, none⟩ (.int .i64 ((rd_T89 l0 x10_1).f3))).heap[gb344]? = some (.cells #[.int .i64 ((rd_T89 l0 x10_1).f0), .int .i64 ((rd_T89 l0 x10_1).f1), .int .i64 ((rd_T89 l0 x10_1).f2), .int .i64 ((rd_T89 l0 x10_1).f3)] 89 (0, 0))) := ⟨by (with_reducible repeat (first | refine blk_drewN ?_ _ | refine blk_drew ?_ | refine blk_alloc ?_ _)); refine blk_put (cs := #[.int .i64 ((rd_T89 l0 x10_1).f0), .int .i64 ((rd_T89 l0 x10_1).f1), .int .i64 ((rd_T89 l0 x10_1).f2), .int .i64 0]) ?_ 3 _ rfl; (with_reducible repeat (first | refine blk_drewN ?_ _ | refine blk_drew ?_ | refine blk_alloc ?_ _)); refine blk_put (cs := #[.int .i64 ((rd_T89 l0 x10_1).f0), .int .i64 ((rd_T89 l0 x10_1).f1), .int .i64 0, .int .i64 0]) ?_ 2 _ rfl; (with_reducible repeat (first | refine blk_drewN ?_ _ | refine blk_drew ?_ | refine blk_alloc ?_ _)); refine blk_put (cs := #[.int .i64 ((rd_T89 l0 x10_1).f0), .int .i64 0, .int .i64 0, .int .i64 0]) ?_ 1 _ rfl; (with_reducible repeat (first | refine blk_drewN ?_ _ | refine blk_drew ?_ | refine blk_alloc ?_ _)); refine blk_put (cs := #[.int .i64 0, .int .i64 0, .int .i64 0, .int .i64 0]) ?_ 0 _ rfl; (with_reducible repeat (first | refine blk_drewN ?_ _ | refine blk_drew ?_ | refine blk_alloc ?_ _)); exact BK344.out⟩
      have n1_ : Aside0 (Below w.heap.size w ((((w28.setCell ⟨gb344, 0, none⟩ (.int .i64 ((rd_T89 l0 x10_1).f0))).setCell ⟨gb344, 1, none⟩ (.int .i64 ((rd_T89 l0 x10_1).f1))).setCell ⟨gb344, 2, none⟩ (.int .i64 ((rd_T89 l0 x10_1).f2))).setCell ⟨gb344, 3, none⟩ (.int .i64 ((rd_T89 l0 x10_1).f3)))) := ⟨bG⟩
      (try clear BK344)
      (try clear HB)
      generalize ((((w28.setCell ⟨gb344, 0, none⟩ (.int .i64 ((rd_T89 l0 x10_1).f0))).setCell ⟨gb344, 1, none⟩ (.int .i64 ((rd_T89 l0 x10_1).f1))).setCell ⟨gb344, 2, none⟩ (.int .i64 ((rd_T89 l0 x10_1).f2))).setCell ⟨gb344, 3, none⟩ (.int .i64 ((rd_T89 l0 x10_1).f3))) = w30 at n0_ n1_ ⊢
      have BK344 := n0_
      have HB := n1_
      clear n0_ n1_
      replace BK344 := Aside0.mk (blk_drew BK344.out)
      have HBo := HB
      replace HB := Aside0.mk (below_drew1 HB.out)
      refine start_ (n := 18) (S := fun w' => w'.cell? ⟨gb344, 0, none⟩ = some (.int .i64 ((rd_T89 l0 x10_1).f0)) ∧ w'.cell? ⟨gb344, 1, none⟩ = some (.int .i64 ((rd_T89 l0 x10_1).f1)) ∧ w'.cell? ⟨gb344, 2, none⟩ = some (.int .i64 ((rd_T89 l0 x10_1).f2)) ∧ w'.cell? ⟨gb344, 3, none⟩ = some (.int .i64 ((rd_T89 l0 x10_1).f3))) (ds := []) (mb 18 0) (by kernel_rfl) rfl rfl ⟨bC BK344 0, bC BK344 1, bC BK344 2, bC BK344 3⟩ (fun hHeld => ?_); refine with_tabW impl_ArePaths.tab6 impl_ArePaths.bits6 (fun HT_ HW_ => ?_)
      generalize w30.drew = w31 at BK344 HB hHeld ⊢
      refine tA4 (i := 0) (N := some 15) (mb 18 1) HT_ HW_ hHeld ?_
      refine oA (i := 1) (N := some 16) (mb 18 3) HT_ (fun K hK => ?_)
      refine gA Try.func146 #[.agg #[.int .i64 ((rd_T89 l0 x10_1).f0), .int .i64 ((rd_T89 l0 x10_1).f1), .int .i64 ((rd_T89 l0 x10_1).f2), .int .i64 ((rd_T89 l0 x10_1).f3)]] ?_
      with_reducible refine (impl_IsPath.calls ((rd_T89 l0 x10_1).f0) ((rd_T89 l0 x10_1).f1) ((rd_T89 l0 x10_1).f2) ((rd_T89 l0 x10_1).f3) false _ A6.out).mono ?_
      rintro e w32 ⟨rfl, hb⟩
      refine ⟨_, rfl, ?_⟩
      replace BK344 := Aside0.mk (blk_below (g := gb344) (bK BK344) hb)
      replace HB := Aside0.mk (below_step bG hb)
      (try clear hb)
      (try clear hb2)
      (try clear hk)
      (try clear hi)
      refine hK.out _ _ ⟨bC BK344 0, bC BK344 1, bC BK344 2, bC BK344 3⟩ (fun hHeld => ?_)
      clear hK K
      refine nB ?_
      refine pA (i := 2) (N := some 17) (mb 18 7) HT_ ?_
      refine pA (i := 3) (N := some 18) (mb 18 15) HT_ ?_
      refine pU (i := 4) (N := some 19) (mb 18 31) HT_ ?_
      refine pU (i := 5) (N := some 20) (mb 18 63) HT_ ?_
      refine pU (i := 6) (N := some 21) (mb 18 127) HT_ ?_
      refine pU (i := 7) (N := some 22) (mb 18 255) HT_ ?_
      refine pU (i := 8) (N := some 23) (mb 18 511) HT_ ?_
      refine pU (i := 9) (N := some 24) (mb 18 1023) HT_ ?_
      refine pU (i := 10) (N := some 25) (mb 18 2047) HT_ ?_
      refine pU (i := 11) (N := some 26) (mb 18 4095) HT_ ?_
      refine pU (i := 12) (N := some 27) (mb 18 8191) HT_ ?_
      refine pU (i := 13) (N := some 28) (mb 18 16383) HT_ ?_
      refine pU (i := 14) (N := some 29) (mb 18 32767) HT_ ?_
      refine pU (i := 15) (N := some 30) (mb 18 65535) HT_ ?_
      refine pU (i := 16) (N := some 31) (mb 18 131071) HT_ ?_
      refine pA (i := 17) (N := some 32) (mb 18 262143) HT_ ?_
      refine eA HT_ ?_
      try go_wp2
      go_ret
      exact ⟨rA, bG⟩
    ·
     rw [if_neg c3] at H
     have c3b0 := decide_eq_false c3
     clear c3
     obtain rfl := Option.some.inj H
     go_wp2
     go_ret
     exact ⟨rA, bA⟩

/-! ### impl_Interleave: function 152 -/
def impl_Interleave.l0 : Nat → Int → Int → Int → Int → List Int → Int → Int → Option (Bool)
 | 0, _, _, _, _, _, _, _ => none
 | k + 1, x0, x1, x2, x3, x16, x17, x18 => if x18 < x17 then (if 0 ≤ x18 then (if x18 < (x16.length : Int) then ((impl_InRange.f (rd x16 x18) 0 7).bind fun t351 => (if t351 = true then (impl_Interleave.l0 k x0 x1 x2 x3 x16 x17 (wrap64 (x18 + 1))) else (some false))) else (none)) else (none)) else (if x0 = x1 then (some false) else (if x0 = x2 then (some false) else (if x0 = x3 then (some false) else (if x1 = x2 then (some false) else (if x1 = x3 then (some false) else (if x2 = x3 then (some false) else (some ((decide ((Int.tmod (wrap64 ((wrap64 (x2 - x0)) + 8)) 8) < (Int.tmod (wrap64 ((wrap64 (x1 - x0)) + 8)) 8))) != (decide ((Int.tmod (wrap64 ((wrap64 (x3 - x0)) + 8)) 8) < (Int.tmod (wrap64 ((wrap64 (x1 - x0)) + 8)) 8)))))))))))
def impl_Interleave.f (k : Nat) (a0 : Int) (a1 : Int) (a2 : Int) (a3 : Int) : Option (Bool) := (some (([a0, a1, a2, a3] : List Int) : List Int)).bind fun y347 => (impl_Interleave.l0 k a0 a1 a2 a3 y347 (y347.length : Int) 0)
theorem impl_Interleave.mono_l : ∀ k, (∀ y0 y1 y2 y3 y4 y5 y6, LeO (impl_Interleave.l0 k y0 y1 y2 y3 y4 y5 y6) (impl_Interleave.l0 (k + 1) y0 y1 y2 y3 y4 y5 y6))
 | 0 => fun _ _ _ _ _ _ _ r h => by simp [impl_Interleave.l0] at h
 | k + 1 => by
  have ih0 := impl_Interleave.mono_l k
  ·
   intro y0 y1 y2 y3 y4 y5 y6
   unfold impl_Interleave.l0
   repeat' first | (with_reducible first | exact LeO.refl _ | exact LeO.none _ | refine LeO.ite ?_ ?_ | refine LeO.bind ?_ (fun _ => ?_) | exact ih0 _ _ _ _ _ _ _)
theorem impl_Interleave.mono : ∀ a0 a1 a2 a3 k, LeO (impl_Interleave.f k a0 a1 a2 a3) (impl_Interleave.f (k + 1) a0 a1 a2 a3) := by
 intro a0 a1 a2 a3 k
 have ih0 := impl_Interleave.mono_l k
 unfold impl_Interleave.f
 repeat' first | (with_reducible first | exact LeO.refl _ | exact LeO.none _ | refine LeO.ite ?_ ?_ | refine LeO.bind ?_ (fun _ => ?_) | exact ih0 _ _ _ _ _ _ _)
set_option maxHeartbeats 8000000 in
set_option maxRecDepth 100000 in
theorem impl_Interleave.calls (k : Nat) (a0 : Int) (a1 : Int) (a2 : Int) (a3 : Int) (r : Bool) (w : World) (h : impl_Interleave.f k a0 a1 a2 a3 = some r) :
  Calls Try.prog 152 #[.int .i64 a0, .int .i64 a1, .int .i64 a2, .int .i64 a3] w fun e w' => e = .returned (.bool r) ∧ Below w.heap.size w w' := by
 have HB := Aside0.mk (Below.refl w.heap.size w)
 have H : ((some (([a0, a1, a2, a3] : List Int) : List Int)).bind fun y347 => (impl_Interleave.l0 k a0 a1 a2 a3 y347 (y347.length : Int) 0)) = some r := h
 clear h
 obtain ⟨y347, hy347⟩ : ∃ y_ : List Int, y_ = (([a0, a1, a2, a3] : List Int)) := ⟨_, rfl⟩
 replace H : (impl_Interleave.l0 k a0 a1 a2 a3 y347 (y347.length : Int) 0) = some r := by first | (rw [hy347]; with_reducible exact H) | (have H2_ := (Option.bind_some _ _).symm.trans H; rw [hy347]; with_reducible exact H2_) | (have H2_ := (Option.bind_some _ _).symm.trans H; with_reducible exact H2_) | with_reducible exact H | (rw [hy347]; exact H) | exact H
 have Ny347 := Aside0.mk hy347
 clear hy347
 have H' := Aside0.mk H
 clear H
 go_enter Try.func152, Try.ntmps152
 go_wp2_with (first | ((with_reducible refine gate_dst (N := 16) rfl ?_); refine Kd.R_lit (Kd.int .i64) _ 3 ?hg (N := 16) ?hd (xs := ([a0, a1, a2, a3] : List Int)) (inner := [.int .i64 a0, .int .i64 a1, .int .i64 a2, .int .i64 a3]) (ok := fun _ => True) (okp := fun _ => True) ?hr ?hp (fun _ hk => hk) trivial (Below.refl _ _) (Nat.le_refl _) (by simp) ?_; (case hd => rfl); (case hg => rfl); (case hr => first | (go_simp; done) | (go_simp; rfl)); (case hp => exact (Reps.one (show Kd.M (Kd.int .i64) _ _ _ a0 [.int .i64 a0] from rfl) (Reps.one (show Kd.M (Kd.int .i64) _ _ _ a1 [.int .i64 a1] from rfl) (Reps.one (show Kd.M (Kd.int .i64) _ _ _ a2 [.int .i64 a2] from rfl) (Reps.one (show Kd.M (Kd.int .i64) _ _ _ a3 [.int .i64 a3] from rfl) (Reps.none _ _)))))); intro v348 w5 ho6 hb hg_ hnew_; clear hg_ hnew_; (first | rw [← Ny347.out] at ho6 | (simp only [Int.reduceToNat] at ho6; rw [← Ny347.out] at ho6)); have HO349 := Aside0.mk (Kd.R_lower ho6 (below_size bA)); replace HB := Aside0.mk (below_step bA hb); clear hb ho6; obtain ⟨Ao7, co7, eo7⟩ := Kd.R_slice HO349.out; subst eo7))
 go_loopg [18] k (fun kq v18 w' => ∃ (x18_1 : Int), v18 = .int .i64 x18_1 ∧ Aside0 (impl_Interleave.l0 kq a0 a1 a2 a3 y347 (y347.length : Int) x18_1 = some r) ∧ Aside0 (kq ≤ k) ∧ Aside0 (Kd.R (Kd.int .i64) 3 w' w.heap.size (fun _ => True) (.slice Ao7 y347.length co7) y347) ∧ Aside0 (Below w.heap.size w w'))
 case atStart => exact ⟨(0), rS, H', ⟨Nat.le_refl _⟩, ⟨rK HO349⟩, ⟨bA⟩⟩
 case round =>
  clear H'
  try clear c1
  try clear p2
  obtain ⟨x18_1, rfl, HA, HK1, HO_16, HB⟩ := hrel
  cases gk with
  | zero => exact absurd HA.out (by simp [impl_Interleave.l0])
  | succ k1 =>
   have H := HA.out
   clear HA
   simp only [impl_Interleave.l0] at H
   by_cases c8 : x18_1 < (y347.length : Int)
   ·
    rw [if_pos c8] at H
    have c8b0 := decide_eq_true c8
    clear c8
    have c9 : 0 ≤ x18_1 := ifN H
    replace H := ifT H
    have c9b0 := decide_eq_true c9
    clear c9
    have c10 : x18_1 < (y347.length : Int) := ifN H
    replace H := ifT H
    have c10b0 := decide_eq_true c10
    clear c10
    obtain ⟨t351, A11, H⟩ := bindE H
    try dsimp only at H
    by_cases c12 : t351 = true
    ·
     subst c12
     have H1 : (impl_Interleave.l0 k1 a0 a1 a2 a3 y347 (y347.length : Int) (wrap64 (x18_1 + 1))) = some r := by rw [if_pos rfl] at H; exact H
     clear H
     have H := H1
     clear H1
     have H' := Aside0.mk H
     clear H
     have p350 : 0 ≤ (x18_1 : Int) := dA
     have q350 : x18_1 < (y347.length : Int) := dA
     obtain ⟨ad350, e350, hx350_0⟩ := Kd.at_int (Kd.R_reads' HO_16.out).2.2 x18_1 p350 q350
     cases e350
     replace p350 := eq_true p350
     replace q350 := eq_true q350
     go_wp2_with (first | ((with_reducible refine gate_callee (f := 66) rfl ?_); refine gL (some 23) Try.func66 #[.int .i64 (rd y347 x18_1), .int .i64 0, .int .i64 7] ?_; (with_reducible refine (impl_InRange.calls (rd y347 x18_1) 0 7 true _ A11.out).mono ?_); rintro e w' ⟨rfl, ⟨nd, rfl⟩⟩; refine ⟨_, rfl, ?_⟩))
     go_roundg k1
     case measure => have := HK1.out; omega
     case rel => exact ⟨(wrap64 (x18_1 + 1)), rS, H', ⟨by have := HK1.out; omega⟩, ⟨rK HO_16⟩, ⟨bA⟩⟩
    ·
     replace c12 := Bool.eq_false_iff.mpr c12
     subst c12
     have H1 : (some false) = some r := by rw [if_neg (show ¬ (false = true) by decide)] at H; exact H
     clear H
     have H := H1
     clear H1
     obtain rfl := Option.some.inj H
     have p350 : 0 ≤ (x18_1 : Int) := dA
     have q350 : x18_1 < (y347.length : Int) := dA
     obtain ⟨ad350, e350, hx350_0⟩ := Kd.at_int (Kd.R_reads' HO_16.out).2.2 x18_1 p350 q350
     cases e350
     replace p350 := eq_true p350
     replace q350 := eq_true q350
     go_wp2_with (first | ((with_reducible refine gate_callee (f := 66) rfl ?_); refine gL (some 23) Try.func66 #[.int .i64 (rd y347 x18_1), .int .i64 0, .int .i64 7] ?_; (with_reducible refine (impl_InRange.calls (rd y347 x18_1) 0 7 false _ A11.out).mono ?_); rintro e w' ⟨rfl, ⟨nd, rfl⟩⟩; refine ⟨_, rfl, ?_⟩))
     go_ret
     exact ⟨rA, bA⟩
   ·
    rw [if_neg c8] at H
    have c8b0 := decide_eq_false c8
    clear c8
    by_cases c13 : a0 = a1
    ·
     rw [if_pos c13] at H
     have c13b0 : (a0 == a1) = true := beq_iff_eq.mpr c13
     have c13b1 : (a0 != a1) = false := bne_eq_false_iff_eq.mpr c13
     clear c13
     obtain rfl := Option.some.inj H
     go_wp2
     go_ret
     exact ⟨rA, bA⟩
    ·
     rw [if_neg c13] at H
     have c13b0 : (a0 == a1) = false := beq_eq_false_iff_ne.mpr c13
     have c13b1 : (a0 != a1) = true := bne_iff_ne.mpr c13
     by_cases c14 : a0 = a2
     ·
      rw [if_pos c14] at H
      have c14b0 : (a0 == a2) = true := beq_iff_eq.mpr c14
      have c14b1 : (a0 != a2) = false := bne_eq_false_iff_eq.mpr c14
      clear c14
      obtain rfl := Option.some.inj H
      go_wp2
      go_ret
      exact ⟨rA, bA⟩
     ·
      rw [if_neg c14] at H
      have c14b0 : (a0 == a2) = false := beq_eq_false_iff_ne.mpr c14
      have c14b1 : (a0 != a2) = true := bne_iff_ne.mpr c14
      by_cases c15 : a0 = a3
      ·
       rw [if_pos c15] at H
       have c15b0 : (a0 == a3) = true := beq_iff_eq.mpr c15
       have c15b1 : (a0 != a3) = false := bne_eq_false_iff_eq.mpr c15
       clear c15
       obtain rfl := Option.some.inj H
       go_wp2
       go_ret
       exact ⟨rA, bA⟩
      ·
       rw [if_neg c15] at H
       have c15b0 : (a0 == a3) = false := beq_eq_false_iff_ne.mpr c15
       have c15b1 : (a0 != a3) = true := bne_iff_ne.mpr c15
       by_cases c16 : a1 = a2
       ·
        rw [if_pos c16] at H
        have c16b0 : (a1 == a2) = true := beq_iff_eq.mpr c16
        have c16b1 : (a1 != a2) = false := bne_eq_false_iff_eq.mpr c16
        clear c16
        obtain rfl := Option.some.inj H
        go_wp2
        go_ret
        exact ⟨rA, bA⟩
       ·
        rw [if_neg c16] at H
        have c16b0 : (a1 == a2) = false := beq_eq_false_iff_ne.mpr c16
        have c16b1 : (a1 != a2) = true := bne_iff_ne.mpr c16
        by_cases c17 : a1 = a3
        ·
         rw [if_pos c17] at H
         have c17b0 : (a1 == a3) = true := beq_iff_eq.mpr c17
         have c17b1 : (a1 != a3) = false := bne_eq_false_iff_eq.mpr c17
         clear c17
         obtain rfl := Option.some.inj H
         go_wp2
         go_ret
         exact ⟨rA, bA⟩
        ·
         rw [if_neg c17] at H
         have c17b0 : (a1 == a3) = false := beq_eq_false_iff_ne.mpr c17
         have c17b1 : (a1 != a3) = true := bne_iff_ne.mpr c17
         by_cases c18 : a2 = a3
         ·
          rw [if_pos c18] at H
          have c18b0 : (a2 == a3) = true := beq_iff_eq.mpr c18
          have c18b1 : (a2 != a3) = false := bne_eq_false_iff_eq.mpr c18
          clear c18
          obtain rfl := Option.some.inj H
          go_wp2
          go_ret
          exact ⟨rA, bA⟩
         ·
          rw [if_neg c18] at H
          have c18b0 : (a2 == a3) = false := beq_eq_false_iff_ne.mpr c18
          have c18b1 : (a2 != a3) = true := bne_iff_ne.mpr c18
          obtain rfl := Option.some.inj H
          go_wp2
          go_ret
          exact ⟨rA, bA⟩

/-! ### impl_InPlace: function 153 -/
def impl_InPlace.f (a0 : Int) : Option (Int) := (impl_InRange.f a0 0 3).bind fun t352 => (if t352 = true then (some (wrap64 (2 * a0))) else (some (-1)))
set_option maxHeartbeats 8000000 in
set_option maxRecDepth 100000 in
theorem impl_InPlace.calls (a0 : Int) (r : Int) (w : World) (h : impl_InPlace.f a0 = some r) :
  Calls Try.prog 153 #[.int .i64 a0] w fun e w' => e = .returned (.int .i64 r) ∧ Drawn0 w w' := by
 have H : ((impl_InRange.f a0 0 3).bind fun t352 => (if t352 = true then (some (wrap64 (2 * a0))) else (some (-1)))) = some r := h
 clear h
 obtain ⟨t352, A2, H⟩ := bindE H
 try dsimp only at H
 by_cases c3 : t352 = true
 ·
  subst c3
  have H1 : (some (wrap64 (2 * a0))) = some r := by rw [if_pos rfl] at H; exact H
  clear H
  have H := H1
  clear H1
  obtain rfl := Option.some.inj H
  go_enter Try.func153, Try.ntmps153
  go_wp2_with (first | ((with_reducible refine gate_callee (f := 66) rfl ?_); refine gL (some 4) Try.func66 #[.int .i64 a0, .int .i64 0, .int .i64 3] ?_; (with_reducible refine (impl_InRange.calls a0 0 3 true _ A2.out).mono ?_); rintro e w' ⟨rfl, ⟨nd, rfl⟩⟩; refine ⟨_, rfl, ?_⟩))
  go_ret
  exact ⟨by first | rfl | (simp; done) | (simp [*]; done), by repeat (first | exact Drawn0.refl _ | apply Drawn0.step)⟩
 ·
  replace c3 := Bool.eq_false_iff.mpr c3
  subst c3
  have H1 : (some (-1)) = some r := by rw [if_neg (show ¬ (false = true) by decide)] at H; exact H
  clear H
  have H := H1
  clear H1
  obtain rfl := Option.some.inj H
  go_enter Try.func153, Try.ntmps153
  go_wp2_with (first | ((with_reducible refine gate_callee (f := 66) rfl ?_); refine gL (some 4) Try.func66 #[.int .i64 a0, .int .i64 0, .int .i64 3] ?_; (with_reducible refine (impl_InRange.calls a0 0 3 false _ A2.out).mono ?_); rintro e w' ⟨rfl, ⟨nd, rfl⟩⟩; refine ⟨_, rfl, ?_⟩))
  go_ret
  exact ⟨by first | rfl | (simp; done) | (simp [*]; done), by repeat (first | exact Drawn0.refl _ | apply Drawn0.step)⟩

/-! ### impl_OutPlace: function 154 -/
def impl_OutPlace.f (a0 : Int) : Option (Int) := (impl_InRange.f a0 0 3).bind fun t353 => (if t353 = true then (some (wrap64 ((wrap64 (2 * a0)) + 1))) else (some (-1)))
set_option maxHeartbeats 8000000 in
set_option maxRecDepth 100000 in
theorem impl_OutPlace.calls (a0 : Int) (r : Int) (w : World) (h : impl_OutPlace.f a0 = some r) :
  Calls Try.prog 154 #[.int .i64 a0] w fun e w' => e = .returned (.int .i64 r) ∧ Drawn0 w w' := by
 have H : ((impl_InRange.f a0 0 3).bind fun t353 => (if t353 = true then (some (wrap64 ((wrap64 (2 * a0)) + 1))) else (some (-1)))) = some r := h
 clear h
 obtain ⟨t353, A2, H⟩ := bindE H
 try dsimp only at H
 by_cases c3 : t353 = true
 ·
  subst c3
  have H1 : (some (wrap64 ((wrap64 (2 * a0)) + 1))) = some r := by rw [if_pos rfl] at H; exact H
  clear H
  have H := H1
  clear H1
  obtain rfl := Option.some.inj H
  go_enter Try.func154, Try.ntmps154
  go_wp2_with (first | ((with_reducible refine gate_callee (f := 66) rfl ?_); refine gL (some 4) Try.func66 #[.int .i64 a0, .int .i64 0, .int .i64 3] ?_; (with_reducible refine (impl_InRange.calls a0 0 3 true _ A2.out).mono ?_); rintro e w' ⟨rfl, ⟨nd, rfl⟩⟩; refine ⟨_, rfl, ?_⟩))
  go_ret
  exact ⟨by first | rfl | (simp; done) | (simp [*]; done), by repeat (first | exact Drawn0.refl _ | apply Drawn0.step)⟩
 ·
  replace c3 := Bool.eq_false_iff.mpr c3
  subst c3
  have H1 : (some (-1)) = some r := by rw [if_neg (show ¬ (false = true) by decide)] at H; exact H
  clear H
  have H := H1
  clear H1
  obtain rfl := Option.some.inj H
  go_enter Try.func154, Try.ntmps154
  go_wp2_with (first | ((with_reducible refine gate_callee (f := 66) rfl ?_); refine gL (some 4) Try.func66 #[.int .i64 a0, .int .i64 0, .int .i64 3] ?_; (with_reducible refine (impl_InRange.calls a0 0 3 false _ A2.out).mono ?_); rintro e w' ⟨rfl, ⟨nd, rfl⟩⟩; refine ⟨_, rfl, ?_⟩))
  go_ret
  exact ⟨by first | rfl | (simp; done) | (simp [*]; done), by repeat (first | exact Drawn0.refl _ | apply Drawn0.step)⟩

/-! ### impl_Conflict: function 133 -/
def impl_Conflict.j0 : Nat → Bool → Int → Int → Int → Int → Int → Int → Int → Int → Option (Bool)
 | 0, _, _, _, _, _, _, _, _, _ => none
 | k + 1, x22, x355000, x355001, x355002, x355003, x356000, x356001, x356002, x356003 => if x22 = true then (some false) else (if x355001 = 2 then (if x356002 = x355002 then (some true) else (some (x356003 == x355002))) else (if x356001 = 2 then (if x355002 = x356002 then (some true) else (some (x355003 == x356002))) else (if x355002 = x356002 then ((impl_InPlace.f x355002).bind fun t358 => ((impl_OutPlace.f x355003).bind fun t359 => ((impl_InPlace.f x356002).bind fun t360 => ((impl_OutPlace.f x356003).bind fun t361 => ((impl_Interleave.f k t358 t359 t360 t361).bind fun t362 => (some t362)))))) else (if x355003 = x356003 then (some true) else ((impl_InPlace.f x355002).bind fun t363 => ((impl_OutPlace.f x355003).bind fun t364 => ((impl_InPlace.f x356002).bind fun t365 => ((impl_OutPlace.f x356003).bind fun t366 => ((impl_Interleave.f k t363 t364 t365 t366).bind fun t367 => (some t367))))))))))
def impl_Conflict.f (k : Nat) (a0_0 : Int) (a0_1 : Int) (a0_2 : Int) (a0_3 : Int) (a1_0 : Int) (a1_1 : Int) (a1_2 : Int) (a1_3 : Int) : Option (Bool) := (impl_IsPath.f a0_0 a0_1 a0_2 a0_3).bind fun t356 => (if t356 = true then ((impl_IsPath.f a1_0 a1_1 a1_2 a1_3).bind fun t357 => (if t357 = true then (if a0_1 = 2 then (impl_Conflict.j0 k (a1_1 == 2) a0_0 a0_1 a0_2 a0_3 a1_0 a1_1 a1_2 a1_3) else (impl_Conflict.j0 k false a0_0 a0_1 a0_2 a0_3 a1_0 a1_1 a1_2 a1_3)) else (impl_Conflict.j0 k true a0_0 a0_1 a0_2 a0_3 a1_0 a1_1 a1_2 a1_3))) else (impl_Conflict.j0 k true a0_0 a0_1 a0_2 a0_3 a1_0 a1_1 a1_2 a1_3))
theorem impl_Conflict.mono_l : ∀ k, (∀ y0 y1 y2 y3 y4 y5 y6 y7 y8, LeO (impl_Conflict.j0 k y0 y1 y2 y3 y4 y5 y6 y7 y8) (impl_Conflict.j0 (k + 1) y0 y1 y2 y3 y4 y5 y6 y7 y8))
 | 0 => fun _ _ _ _ _ _ _ _ _ r h => by simp [impl_Conflict.j0] at h
 | k + 1 => by
  have ih0 := impl_Conflict.mono_l k
  ·
   intro y0 y1 y2 y3 y4 y5 y6 y7 y8
   unfold impl_Conflict.j0
   repeat' first | (with_reducible first | exact LeO.refl _ | exact LeO.none _ | refine LeO.ite ?_ ?_ | refine LeO.bind ?_ (fun _ => ?_) | exact ih0 _ _ _ _ _ _ _ _ _ | exact impl_Interleave.mono _ _ _ _ _)
theorem impl_Conflict.mono : ∀ a0 a1 a2 a3 a4 a5 a6 a7 k, LeO (impl_Conflict.f k a0 a1 a2 a3 a4 a5 a6 a7) (impl_Conflict.f (k + 1) a0 a1 a2 a3 a4 a5 a6 a7) := by
 intro a0 a1 a2 a3 a4 a5 a6 a7 k
 have ih0 := impl_Conflict.mono_l k
 unfold impl_Conflict.f
 repeat' first | (with_reducible first | exact LeO.refl _ | exact LeO.none _ | refine LeO.ite ?_ ?_ | refine LeO.bind ?_ (fun _ => ?_) | exact ih0 _ _ _ _ _ _ _ _ _ | exact impl_Interleave.mono _ _ _ _ _)
def impl_Conflict.T7 : Bool × List (List Nat × List Nat) := (true, [([], []), ([0], [0]), ([], []), ([2], [2]), ([1, 3], [1, 3]), ([4], [4]), ([5], [5]), ([6, 5], [5, 6]), ([5], [5]), ([8, 5], [5, 8]), ([7, 9, 5], [5, 7, 9]), ([5, 10], [5, 10]), ([11, 5], [11]), ([12], [12]), ([13, 12], [12, 13]), ([14, 12, 12], [12, 14]), ([12], [12]), ([16, 12], [12, 16]), ([17, 15, 12], [12, 17]), ([12], [12]), ([19, 12], [12, 19]), ([20, 18, 12], [12, 20]), ([12], [12]), ([22, 12], [12, 22]), ([23, 21, 12], [12, 23]), ([15, 18, 21, 24, 24, 12], [12, 15, 18, 21, 24]), ([12, 25], [12, 25]), ([26, 25, 0, 1, 2, 3, 4, 5, 6, 7, 8, 9, 10, 11, 12, 13, 14, 15, 16, 17, 18, 19, 20, 21, 22, 23, 24, 25, 26], [26])])
def impl_Conflict.B7 : List Nat := [0, 1, 0, 4, 15, 31, 63, 127, 63, 319, 1023, 2047, 4095, 8191, 16383, 32767, 8191, 73727, 262143, 8191, 532479, 2097151, 8191, 4202495, 16777215, 33554431, 67108863, 134217727]
theorem impl_Conflict.tab7 : rtab .any (opsOf Try.f133 7) = impl_Conflict.T7 := by kernel_rfl
theorem impl_Conflict.bits7 : waitsOk impl_Conflict.T7.2 impl_Conflict.B7 = true := by kernel_rfl
set_option maxHeartbeats 8000000 in
set_option maxRecDepth 100000 in
theorem impl_Conflict.calls (k : Nat) (a0_0 : Int) (a0_1 : Int) (a0_2 : Int) (a0_3 : Int) (a1_0 : Int) (a1_1 : Int) (a1_2 : Int) (a1_3 : Int) (r : Bool) (w : World) (h : impl_Conflict.f k a0_0 a0_1 a0_2 a0_3 a1_0 a1_1 a1_2 a1_3 = some r) :
  Calls Try.prog 133 #[.agg #[.int .i64 a0_0, .int .i64 a0_1, .int .i64 a0_2, .int .i64 a0_3], .agg #[.int .i64 a1_0, .int .i64 a1_1, .int .i64 a1_2, .int .i64 a1_3]] w fun e w' => e = .returned (.bool r) ∧ Below w.heap.size w w' := by
 have hu89 := Try.underlying89
 have HB := Aside0.mk (Below.refl w.heap.size w)
 have H : ((impl_IsPath.f a0_0 a0_1 a0_2 a0_3).bind fun t356 => (if t356 = true then ((impl_IsPath.f a1_0 a1_1 a1_2 a1_3).bind fun t357 => (if t357 = true then (if a0_1 = 2 then (impl_Conflict.j0 k (a1_1 == 2) a0_0 a0_1 a0_2 a0_3 a1_0 a1_1 a1_2 a1_3) else (impl_Conflict.j0 k false a0_0 a0_1 a0_2 a0_3 a1_0 a1_1 a1_2 a1_3)) else (impl_Conflict.j0 k true a0_0 a0_1 a0_2 a0_3 a1_0 a1_1 a1_2 a1_3))) else (impl_Conflict.j0 k true a0_0 a0_1 a0_2 a0_3 a1_0 a1_1 a1_2 a1_3))) = some r := h
 clear h
 have HC3 := Aside0.mk H
 clear H
 go_enter Try.func133, Try.ntmps133
 go_upto_region 1 with (first | ((with_reducible refine gate_dst (N := 2) rfl ?_); refine bE (N := 2) (cs := #[.int .i64 a0_0, .int .i64 a0_1, .int .i64 a0_2, .int .i64 a0_3]) (t := 89) ?_; intro gb354 hg w4 hbox hb; have n0_ := Aside0.mk (below_step bA hb); have n1_ := Aside0.mk (hbox); have n2_ := Aside0.mk ((by rw [hg]; exact (below_size bA) : w.heap.size ≤ gb354)); have n3_ := Aside0.mk ((by rw [hg]; exact (below_size bA) : w.heap.size ≤ gb354)); clear HB; have HB := n0_; have BK354 := n1_; have GW354 := n2_; have GE354 := n3_; clear n0_ n1_ n2_ n3_; clear hb hbox hg) | ((with_reducible refine gate_dst (N := 3) rfl ?_); refine bE (N := 3) (cs := #[.int .i64 a1_0, .int .i64 a1_1, .int .i64 a1_2, .int .i64 a1_3]) (t := 89) ?_; intro gb355 hg w5 hbox hb; have n0_ := Aside0.mk (blk_below (g := gb354) (bK BK354) hb); have n1_ := Aside0.mk (below_step bG hb); have n2_ := Aside0.mk (hbox); have n3_ := Aside0.mk ((by rw [hg]; exact (below_size bG) : w.heap.size ≤ gb355)); have n4_ := Aside0.mk ((by rw [hg]; exact (below_size bG) : w.heap.size ≤ gb355)); have n5_ := Aside0.mk ((by rw [hg]; exact Nat.ne_of_lt (blk_lt (g := gb354) (o := .cells #[.int .i64 a0_0, .int .i64 a0_1, .int .i64 a0_2, .int .i64 a0_3] 89 (0, 0)) (bK BK354)) : gb354 ≠ gb355)); have n6_ := Aside0.mk ((by rw [hg]; exact Nat.ne_of_gt (blk_lt (g := gb354) (o := .cells #[.int .i64 a0_0, .int .i64 a0_1, .int .i64 a0_2, .int .i64 a0_3] 89 (0, 0)) (bK BK354)) : gb355 ≠ gb354)); clear BK354; clear HB; have BK354 := n0_; have HB := n1_; have BK355 := n2_; have GW355 := n3_; have GE355 := n4_; have NB354_355 := n5_; have NB355_354 := n6_; clear n0_ n1_ n2_ n3_ n4_ n5_ n6_; clear hb hbox hg))
 (try simp only [Act.put, List.setIfInBounds_toArray, List.set_cons_zero, List.set_cons_succ])
 go_cut [22] (fun v22 wc => ∃ (kq : Nat) (x22_2 : Bool), v22 = .bool x22_2 ∧ Aside0 (impl_Conflict.j0 kq x22_2 a0_0 a0_1 a0_2 a0_3 a1_0 a1_1 a1_2 a1_3 = some r) ∧ Aside0 (kq ≤ k) ∧ Aside0 (wc.heap[gb354]? = some (.cells #[.int .i64 a0_0, .int .i64 a0_1, .int .i64 a0_2, .int .i64 a0_3] 89 (0, 0))) ∧ Aside0 (wc.heap[gb355]? = some (.cells #[.int .i64 a1_0, .int .i64 a1_1, .int .i64 a1_2, .int .i64 a1_3] 89 (0, 0))) ∧ Aside0 (Below w.heap.size w wc))
 case first =>
  have H := HC3.out
  clear HC3
  obtain ⟨t356, A6, H⟩ := bindE H
  try dsimp only at H
  by_cases c7 : t356 = true
  ·
   subst c7
   have H1 : ((impl_IsPath.f a1_0 a1_1 a1_2 a1_3).bind fun t357 => (if t357 = true then (if a0_1 = 2 then (impl_Conflict.j0 k (a1_1 == 2) a0_0 a0_1 a0_2 a0_3 a1_0 a1_1 a1_2 a1_3) else (impl_Conflict.j0 k false a0_0 a0_1 a0_2 a0_3 a1_0 a1_1 a1_2 a1_3)) else (impl_Conflict.j0 k true a0_0 a0_1 a0_2 a0_3 a1_0 a1_1 a1_2 a1_3))) = some r := by rw [if_pos rfl] at H; exact H
   clear H
   have H := H1
   clear H1
   obtain ⟨t357, A8, H⟩ := bindE H
   try dsimp only at H
   by_cases c9 : t357 = true
   ·
    subst c9
    have H1 : (if a0_1 = 2 then (impl_Conflict.j0 k (a1_1 == 2) a0_0 a0_1 a0_2 a0_3 a1_0 a1_1 a1_2 a1_3) else (impl_Conflict.j0 k false a0_0 a0_1 a0_2 a0_3 a1_0 a1_1 a1_2 a1_3)) = some r := by rw [if_pos rfl] at H; exact H
    clear H
    have H := H1
    clear H1
    by_cases c10 : a0_1 = 2
    ·
     rw [if_pos c10] at H
     have c10b0 : (a0_1 == 2) = true := beq_iff_eq.mpr c10
     have c10b1 : (a0_1 != 2) = false := bne_eq_false_iff_eq.mpr c10
     clear c10
     (first | rw [c10b0] | (simp only [i64_w, i32_w]; rw [c10b0]) | skip)
     have H' := Aside0.mk H
     clear H
     have hnb11 := NB354_355.out
     have hnc11 := NB355_354.out
     obtain ⟨hcz12_0, hcz12_1, hcz12_2, hcz12_3, hfz12_0, hfz12_1, hfz12_2, hfz12_3⟩ := blkc4 BK354
     go_wp2_with (first | ((with_reducible refine gate_callee (f := 146) rfl ?_); refine gL (some 6) Try.func146 #[.agg #[.int .i64 a0_0, .int .i64 a0_1, .int .i64 a0_2, .int .i64 a0_3]] ?_; (with_reducible refine (impl_IsPath.calls a0_0 a0_1 a0_2 a0_3 true _ A6.out).mono ?_); rintro e w13 ⟨rfl, hb⟩; refine ⟨_, rfl, ?_⟩; replace BK354 := Aside0.mk (blk_below (g := gb354) (bK BK354) hb); replace BK355 := Aside0.mk (blk_below (g := gb355) (bK BK355) hb); replace HB := Aside0.mk (below_step bG hb); (try clear hb); have hcz14_0 : w13.cell? ⟨gb355, 0, none⟩ = some (.int .i64 a1_0) := bC BK355 0; have hcz14_1 : w13.cell? ⟨gb355, 1, none⟩ = some (.int .i64 a1_1) := bC BK355 1; have hcz14_2 : w13.cell? ⟨gb355, 2, none⟩ = some (.int .i64 a1_2) := bC BK355 2; have hcz14_3 : w13.cell? ⟨gb355, 3, none⟩ = some (.int .i64 a1_3) := bC BK355 3; have hfz14_0 := blk_frozen BK355.out 0; have hfz14_1 := blk_frozen BK355.out 1; have hfz14_2 := blk_frozen BK355.out 2; have hfz14_3 := blk_frozen BK355.out 3) | (go_at_call 146; (with_reducible refine (impl_IsPath.calls a1_0 a1_1 a1_2 a1_3 true _ A8.out).mono ?_); rintro e w15 ⟨rfl, hb⟩; replace BK354 := Aside0.mk (blk_below (g := gb354) (bK BK354) hb); replace BK355 := Aside0.mk (blk_below (g := gb355) (bK BK355) hb); replace HB := Aside0.mk (below_step bG hb); (try clear hb); obtain ⟨hcz16_0, hcz16_1, hcz16_2, hcz16_3, hfz16_0, hfz16_1, hfz16_2, hfz16_3⟩ := blkc4 BK354; obtain ⟨hcz17_0, hcz17_1, hcz17_2, hcz17_3, hfz17_0, hfz17_1, hfz17_2, hfz17_3⟩ := blkc4 BK355))
     go_meet
     case rel => exact ⟨_, ((a1_1 == 2)), rS, H', ⟨by first | omega | exact Nat.le_refl _⟩, ⟨bK BK354⟩, ⟨bK BK355⟩, ⟨bG⟩⟩
    ·
     rw [if_neg c10] at H
     have c10b0 : (a0_1 == 2) = false := beq_eq_false_iff_ne.mpr c10
     have c10b1 : (a0_1 != 2) = true := bne_iff_ne.mpr c10
     (first | rw [c10b0] | (simp only [i64_w, i32_w]; rw [c10b0]) | skip)
     have H' := Aside0.mk H
     clear H
     have hnb18 := NB354_355.out
     have hnc18 := NB355_354.out
     obtain ⟨hcz19_0, hcz19_1, hcz19_2, hcz19_3, hfz19_0, hfz19_1, hfz19_2, hfz19_3⟩ := blkc4 BK354
     go_wp2_with (first | ((with_reducible refine gate_callee (f := 146) rfl ?_); refine gL (some 6) Try.func146 #[.agg #[.int .i64 a0_0, .int .i64 a0_1, .int .i64 a0_2, .int .i64 a0_3]] ?_; (with_reducible refine (impl_IsPath.calls a0_0 a0_1 a0_2 a0_3 true _ A6.out).mono ?_); rintro e w20 ⟨rfl, hb⟩; refine ⟨_, rfl, ?_⟩; replace BK354 := Aside0.mk (blk_below (g := gb354) (bK BK354) hb); replace BK355 := Aside0.mk (blk_below (g := gb355) (bK BK355) hb); replace HB := Aside0.mk (below_step bG hb); (try clear hb); have hcz21_0 : w20.cell? ⟨gb355, 0, none⟩ = some (.int .i64 a1_0) := bC BK355 0; have hcz21_1 : w20.cell? ⟨gb355, 1, none⟩ = some (.int .i64 a1_1) := bC BK355 1; have hcz21_2 : w20.cell? ⟨gb355, 2, none⟩ = some (.int .i64 a1_2) := bC BK355 2; have hcz21_3 : w20.cell? ⟨gb355, 3, none⟩ = some (.int .i64 a1_3) := bC BK355 3; have hfz21_0 := blk_frozen BK355.out 0; have hfz21_1 := blk_frozen BK355.out 1; have hfz21_2 := blk_frozen BK355.out 2; have hfz21_3 := blk_frozen BK355.out 3) | (go_at_call 146; (with_reducible refine (impl_IsPath.calls a1_0 a1_1 a1_2 a1_3 true _ A8.out).mono ?_); rintro e w22 ⟨rfl, hb⟩; replace BK354 := Aside0.mk (blk_below (g := gb354) (bK BK354) hb); replace BK355 := Aside0.mk (blk_below (g := gb355) (bK BK355) hb); replace HB := Aside0.mk (below_step bG hb); (try clear hb); obtain ⟨hcz23_0, hcz23_1, hcz23_2, hcz23_3, hfz23_0, hfz23_1, hfz23_2, hfz23_3⟩ := blkc4 BK354))
     go_meet
     case rel => exact ⟨_, (false), rS, H', ⟨by first | omega | exact Nat.le_refl _⟩, ⟨bK BK354⟩, ⟨bK BK355⟩, ⟨bG⟩⟩
   ·
    replace c9 := Bool.eq_false_iff.mpr c9
    subst c9
    have H1 : (impl_Conflict.j0 k true a0_0 a0_1 a0_2 a0_3 a1_0 a1_1 a1_2 a1_3) = some r := by rw [if_neg (show ¬ (false = true) by decide)] at H; exact H
    clear H
    have H := H1
    clear H1
    have H' := Aside0.mk H
    clear H
    have hnb24 := NB354_355.out
    have hnc24 := NB355_354.out
    obtain ⟨hcz25_0, hcz25_1, hcz25_2, hcz25_3, hfz25_0, hfz25_1, hfz25_2, hfz25_3⟩ := blkc4 BK354
    go_wp2_with (first | ((with_reducible refine gate_callee (f := 146) rfl ?_); refine gL (some 6) Try.func146 #[.agg #[.int .i64 a0_0, .int .i64 a0_1, .int .i64 a0_2, .int .i64 a0_3]] ?_; (with_reducible refine (impl_IsPath.calls a0_0 a0_1 a0_2 a0_3 true _ A6.out).mono ?_); rintro e w26 ⟨rfl, hb⟩; refine ⟨_, rfl, ?_⟩; replace BK354 := Aside0.mk (blk_below (g := gb354) (bK BK354) hb); replace BK355 := Aside0.mk (blk_below (g := gb355) (bK BK355) hb); replace HB := Aside0.mk (below_step bG hb); (try clear hb); have hcz27_0 : w26.cell? ⟨gb355, 0, none⟩ = some (.int .i64 a1_0) := bC BK355 0; have hcz27_1 : w26.cell? ⟨gb355, 1, none⟩ = some (.int .i64 a1_1) := bC BK355 1; have hcz27_2 : w26.cell? ⟨gb355, 2, none⟩ = some (.int .i64 a1_2) := bC BK355 2; have hcz27_3 : w26.cell? ⟨gb355, 3, none⟩ = some (.int .i64 a1_3) := bC BK355 3; have hfz27_0 := blk_frozen BK355.out 0; have hfz27_1 := blk_frozen BK355.out 1; have hfz27_2 := blk_frozen BK355.out 2; have hfz27_3 := blk_frozen BK355.out 3) | (go_at_call 146; (with_reducible refine (impl_IsPath.calls a1_0 a1_1 a1_2 a1_3 false _ A8.out).mono ?_); rintro e w28 ⟨rfl, hb⟩; replace BK354 := Aside0.mk (blk_below (g := gb354) (bK BK354) hb); replace BK355 := Aside0.mk (blk_below (g := gb355) (bK BK355) hb); replace HB := Aside0.mk (below_step bG hb); (try clear hb)))
    go_meet
    case rel => exact ⟨_, (true), rS, H', ⟨by first | omega | exact Nat.le_refl _⟩, ⟨bK BK354⟩, ⟨bK BK355⟩, ⟨bG⟩⟩
  ·
   replace c7 := Bool.eq_false_iff.mpr c7
   subst c7
   have H1 : (impl_Conflict.j0 k true a0_0 a0_1 a0_2 a0_3 a1_0 a1_1 a1_2 a1_3) = some r := by rw [if_neg (show ¬ (false = true) by decide)] at H; exact H
   clear H
   have H := H1
   clear H1
   have H' := Aside0.mk H
   clear H
   have hnb29 := NB354_355.out
   have hnc29 := NB355_354.out
   obtain ⟨hcz30_0, hcz30_1, hcz30_2, hcz30_3, hfz30_0, hfz30_1, hfz30_2, hfz30_3⟩ := blkc4 BK354
   go_wp2_with (first | ((with_reducible refine gate_callee (f := 146) rfl ?_); refine gL (some 6) Try.func146 #[.agg #[.int .i64 a0_0, .int .i64 a0_1, .int .i64 a0_2, .int .i64 a0_3]] ?_; (with_reducible refine (impl_IsPath.calls a0_0 a0_1 a0_2 a0_3 false _ A6.out).mono ?_); rintro e w31 ⟨rfl, hb⟩; refine ⟨_, rfl, ?_⟩; replace BK354 := Aside0.mk (blk_below (g := gb354) (bK BK354) hb); replace BK355 := Aside0.mk (blk_below (g := gb355) (bK BK355) hb); replace HB := Aside0.mk (below_step bG hb); (try clear hb)))
   go_meet
   case rel => exact ⟨_, (true), rS, H', ⟨by first | omega | exact Nat.le_refl _⟩, ⟨bK BK354⟩, ⟨bK BK355⟩, ⟨bG⟩⟩
 case rest =>
  clear HC3
  try clear c1
  try clear c2
  try clear p2
  try clear c7
  try clear c9
  try clear c10
  try clear c10b0
  try clear c10b1
  try clear c11
  try clear c13
  try clear c14
  try clear c18
  try clear c24
  try clear c29
  try clear hcz12_0
  try clear hcz12_1
  try clear hcz12_2
  try clear hcz12_3
  try clear hcz14_0
  try clear hcz14_1
  try clear hcz14_2
  try clear hcz14_3
  try clear hcz16_0
  try clear hcz16_1
  try clear hcz16_2
  try clear hcz16_3
  try clear hcz17_0
  try clear hcz17_1
  try clear hcz17_2
  try clear hcz17_3
  try clear hcz19_0
  try clear hcz19_1
  try clear hcz19_2
  try clear hcz19_3
  try clear hcz21_0
  try clear hcz21_1
  try clear hcz21_2
  try clear hcz21_3
  try clear hcz23_0
  try clear hcz23_1
  try clear hcz23_2
  try clear hcz23_3
  try clear hcz25_0
  try clear hcz25_1
  try clear hcz25_2
  try clear hcz25_3
  try clear hcz27_0
  try clear hcz27_1
  try clear hcz27_2
  try clear hcz27_3
  try clear hcz30_0
  try clear hcz30_1
  try clear hcz30_2
  try clear hcz30_3
  try clear hfz12_0
  try clear hfz12_1
  try clear hfz12_2
  try clear hfz12_3
  try clear hfz14_0
  try clear hfz14_1
  try clear hfz14_2
  try clear hfz14_3
  try clear hfz16_0
  try clear hfz16_1
  try clear hfz16_2
  try clear hfz16_3
  try clear hfz17_0
  try clear hfz17_1
  try clear hfz17_2
  try clear hfz17_3
  try clear hfz19_0
  try clear hfz19_1
  try clear hfz19_2
  try clear hfz19_3
  try clear hfz21_0
  try clear hfz21_1
  try clear hfz21_2
  try clear hfz21_3
  try clear hfz23_0
  try clear hfz23_1
  try clear hfz23_2
  try clear hfz23_3
  try clear hfz25_0
  try clear hfz25_1
  try clear hfz25_2
  try clear hfz25_3
  try clear hfz27_0
  try clear hfz27_1
  try clear hfz27_2
  try clear hfz27_3
  try clear hfz30_0
  try clear hfz30_1
  try clear hfz30_2
  try clear hfz30_3
  obtain ⟨kq, x22_2, rfl, HA, HJ2, BK354, BK355, HB⟩ := hcut
  cases kq with
  | zero => exact absurd HA.out (by simp [impl_Conflict.j0])
  | succ kj2 =>
   have H := HA.out
   clear HA
   simp only [impl_Conflict.j0] at H
   by_cases c32 : x22_2 = true
   ·
    subst c32
    have H1 : (some false) = some r := by rw [if_pos rfl] at H; exact H
    clear H
    have H := H1
    clear H1
    obtain rfl := Option.some.inj H
    go_wp2
    go_ret
    exact ⟨rA, bG⟩
   ·
    replace c32 := Bool.eq_false_iff.mpr c32
    subst c32
    have H1 : (if a0_1 = 2 then (if a1_2 = a0_2 then (some true) else (some (a1_3 == a0_2))) else (if a1_1 = 2 then (if a0_2 = a1_2 then (some true) else (some (a0_3 == a1_2))) else (if a0_2 = a1_2 then ((impl_InPlace.f a0_2).bind fun t358 => ((impl_OutPlace.f a0_3).bind fun t359 => ((impl_InPlace.f a1_2).bind fun t360 => ((impl_OutPlace.f a1_3).bind fun t361 => ((impl_Interleave.f kj2 t358 t359 t360 t361).bind fun t362 => (some t362)))))) else (if a0_3 = a1_3 then (some true) else ((impl_InPlace.f a0_2).bind fun t363 => ((impl_OutPlace.f a0_3).bind fun t364 => ((impl_InPlace.f a1_2).bind fun t365 => ((impl_OutPlace.f a1_3).bind fun t366 => ((impl_Interleave.f kj2 t363 t364 t365 t366).bind fun t367 => (some t367)))))))))) = some r := by rw [if_neg (show ¬ (false = true) by decide)] at H; exact H
    clear H
    have H := H1
    clear H1
    by_cases c33 : a0_1 = 2
    ·
     rw [if_pos c33] at H
     have c33b0 : (a0_1 == 2) = true := beq_iff_eq.mpr c33
     have c33b1 : (a0_1 != 2) = false := bne_eq_false_iff_eq.mpr c33
     clear c33
     by_cases c34 : a1_2 = a0_2
     ·
      rw [if_pos c34] at H
      have c34b0 : (a1_2 == a0_2) = true := beq_iff_eq.mpr c34
      have c34b1 : (a1_2 != a0_2) = false := bne_eq_false_iff_eq.mpr c34
      clear c34
      obtain rfl := Option.some.inj H
      have hnb35 := NB354_355.out
      have hnc35 := NB355_354.out
      obtain ⟨hcz36_0, hcz36_1, hcz36_2, hcz36_3, hfz36_0, hfz36_1, hfz36_2, hfz36_3⟩ := blkc4 BK354
      obtain ⟨hcz37_0, hcz37_1, hcz37_2, hcz37_3, hfz37_0, hfz37_1, hfz37_2, hfz37_3⟩ := blkc4 BK355
      go_wp2
      go_ret
      exact ⟨rA, bG⟩
     ·
      rw [if_neg c34] at H
      have c34b0 : (a1_2 == a0_2) = false := beq_eq_false_iff_ne.mpr c34
      have c34b1 : (a1_2 != a0_2) = true := bne_iff_ne.mpr c34
      obtain rfl := Option.some.inj H
      have hnb38 := NB354_355.out
      have hnc38 := NB355_354.out
      obtain ⟨hcz39_0, hcz39_1, hcz39_2, hcz39_3, hfz39_0, hfz39_1, hfz39_2, hfz39_3⟩ := blkc4 BK354
      obtain ⟨hcz40_0, hcz40_1, hcz40_2, hcz40_3, hfz40_0, hfz40_1, hfz40_2, hfz40_3⟩ := blkc4 BK355
      go_wp2
      go_ret
      exact ⟨rA, bG⟩
    ·
     rw [if_neg c33] at H
     have c33b0 : (a0_1 == 2) = false := beq_eq_false_iff_ne.mpr c33
     have c33b1 : (a0_1 != 2) = true := bne_iff_ne.mpr c33
     by_cases c41 : a1_1 = 2
     ·
      rw [if_pos c41] at H
      have c41b0 : (a1_1 == 2) = true := beq_iff_eq.mpr c41
      have c41b1 : (a1_1 != 2) = false := bne_eq_false_iff_eq.mpr c41
      clear c41
      by_cases c42 : a0_2 = a1_2
      ·
       rw [if_pos c42] at H
       have c42b0 : (a0_2 == a1_2) = true := beq_iff_eq.mpr c42
       have c42b1 : (a0_2 != a1_2) = false := bne_eq_false_iff_eq.mpr c42
       clear c42
       obtain rfl := Option.some.inj H
       have hnb43 := NB354_355.out
       have hnc43 := NB355_354.out
       obtain ⟨hcz44_0, hcz44_1, hcz44_2, hcz44_3, hfz44_0, hfz44_1, hfz44_2, hfz44_3⟩ := blkc4 BK354
       obtain ⟨hcz45_0, hcz45_1, hcz45_2, hcz45_3, hfz45_0, hfz45_1, hfz45_2, hfz45_3⟩ := blkc4 BK355
       go_wp2
       go_ret
       exact ⟨rA, bG⟩
      ·
       rw [if_neg c42] at H
       have c42b0 : (a0_2 == a1_2) = false := beq_eq_false_iff_ne.mpr c42
       have c42b1 : (a0_2 != a1_2) = true := bne_iff_ne.mpr c42
       obtain rfl := Option.some.inj H
       have hnb46 := NB354_355.out
       have hnc46 := NB355_354.out
       obtain ⟨hcz47_0, hcz47_1, hcz47_2, hcz47_3, hfz47_0, hfz47_1, hfz47_2, hfz47_3⟩ := blkc4 BK354
       obtain ⟨hcz48_0, hcz48_1, hcz48_2, hcz48_3, hfz48_0, hfz48_1, hfz48_2, hfz48_3⟩ := blkc4 BK355
       go_wp2
       go_ret
       exact ⟨rA, bG⟩
     ·
      rw [if_neg c41] at H
      have c41b0 : (a1_1 == 2) = false := beq_eq_false_iff_ne.mpr c41
      have c41b1 : (a1_1 != 2) = true := bne_iff_ne.mpr c41
      by_cases c49 : a0_2 = a1_2
      ·
       rw [if_pos c49] at H
       have c49b0 : (a0_2 == a1_2) = true := beq_iff_eq.mpr c49
       have c49b1 : (a0_2 != a1_2) = false := bne_eq_false_iff_eq.mpr c49
       clear c49
       obtain ⟨t358, A50, H⟩ := bindE H
       try dsimp only at H
       obtain ⟨t359, A51, H⟩ := bindE H
       try dsimp only at H
       obtain ⟨t360, A52, H⟩ := bindE H
       try dsimp only at H
       obtain ⟨t361, A53, H⟩ := bindE H
       try dsimp only at H
       obtain ⟨t362, A54, H⟩ := bindE H
       try dsimp only at H
       obtain rfl := Option.some.inj H
       have hnb55 := NB354_355.out
       have hnc55 := NB355_354.out
       obtain ⟨hcz56_0, hcz56_1, hcz56_2, hcz56_3, hfz56_0, hfz56_1, hfz56_2, hfz56_3⟩ := blkc4 BK354
       obtain ⟨hcz57_0, hcz57_1, hcz57_2, hcz57_3, hfz57_0, hfz57_1, hfz57_2, hfz57_3⟩ := blkc4 BK355
       try go_wp2
       replace BK354 := Aside0.mk (blk_drew BK354.out)
       replace BK355 := Aside0.mk (blk_drew BK355.out)
       have HBo := HB
       replace HB := Aside0.mk (below_drew1 HB.out)
       refine start_ (n := 28) (S := fun w' => w'.cell? ⟨gb354, 0, none⟩ = some (.int .i64 a0_0) ∧ w'.cell? ⟨gb354, 1, none⟩ = some (.int .i64 a0_1) ∧ w'.cell? ⟨gb354, 2, none⟩ = some (.int .i64 a0_2) ∧ w'.cell? ⟨gb354, 3, none⟩ = some (.int .i64 a0_3) ∧ w'.cell? ⟨gb355, 0, none⟩ = some (.int .i64 a1_0) ∧ w'.cell? ⟨gb355, 1, none⟩ = some (.int .i64 a1_1) ∧ w'.cell? ⟨gb355, 2, none⟩ = some (.int .i64 a1_2) ∧ w'.cell? ⟨gb355, 3, none⟩ = some (.int .i64 a1_3)) (ds := []) (mb 28 0) (by kernel_rfl) rfl rfl ⟨bC BK354 0, bC BK354 1, bC BK354 2, bC BK354 3, bC BK355 0, bC BK355 1, bC BK355 2, bC BK355 3⟩ (fun hHeld => ?_); refine with_tabW impl_Conflict.tab7 impl_Conflict.bits7 (fun HT_ HW_ => ?_)
       generalize wc.drew = w58 at BK354 BK355 HB hHeld ⊢
       refine pA (i := 0) (N := some 53) (mb 28 1) HT_ ?_
       refine pA (i := 2) (N := some 55) (mb 28 5) HT_ ?_
       refine tA8 (i := 1) (N := some 54) (mb 28 7) HT_ HW_ hHeld ?_
       refine tA8 (i := 3) (N := some 56) (mb 28 15) HT_ HW_ hHeld ?_
       refine pA (i := 4) (N := some 57) (mb 28 31) HT_ ?_
       refine pA (i := 5) (N := some 58) (mb 28 63) HT_ ?_
       refine pU (i := 6) (N := some 59) (mb 28 127) HT_ ?_
       refine pU (i := 7) (N := some 60) (mb 28 255) HT_ ?_
       refine pU (i := 8) (N := some 61) (mb 28 511) HT_ ?_
       refine pU (i := 9) (N := some 62) (mb 28 1023) HT_ ?_
       refine pU (i := 10) (N := some 63) (mb 28 2047) HT_ ?_
       refine pA (i := 11) (N := some 64) (mb 28 4095) HT_ ?_
       refine pA (i := 12) (N := some 65) (mb 28 8191) HT_ ?_
       refine pA (i := 13) (N := some 66) (mb 28 16383) HT_ ?_
       refine pA (i := 16) (N := some 69) (mb 28 81919) HT_ ?_
       refine pA (i := 19) (N := some 72) (mb 28 606207) HT_ ?_
       refine pA (i := 22) (N := some 75) (mb 28 4800511) HT_ ?_
       refine tA8 (i := 14) (N := some 67) (mb 28 4816895) HT_ HW_ hHeld ?_
       refine tA8 (i := 17) (N := some 70) (mb 28 4947967) HT_ HW_ hHeld ?_
       refine tA8 (i := 20) (N := some 73) (mb 28 5996543) HT_ HW_ hHeld ?_
       refine tA8 (i := 23) (N := some 76) (mb 28 14385151) HT_ HW_ hHeld ?_
       refine oA (i := 15) (N := some 68) (mb 28 14417919) HT_ (fun K hK => ?_)
       refine gA Try.func153 #[.int .i64 a0_2] ?_
       with_reducible refine (impl_InPlace.calls a0_2 t358 _ A50.out).mono ?_
       rintro e w' ⟨rfl, ⟨nd, rfl⟩⟩
       refine ⟨_, rfl, ?_⟩
       refine hK.out _ _ ⟨bC BK354 0, bC BK354 1, bC BK354 2, bC BK354 3, bC BK355 0, bC BK355 1, bC BK355 2, bC BK355 3⟩ (fun hHeld => ?_)
       clear hK K
       refine nB ?_
       refine oA (i := 18) (N := some 71) (mb 28 14680063) HT_ (fun K hK => ?_)
       refine gA Try.func154 #[.int .i64 a0_3] ?_
       with_reducible refine (impl_OutPlace.calls a0_3 t359 _ A51.out).mono ?_
       rintro e w' ⟨rfl, ⟨nd, rfl⟩⟩
       refine ⟨_, rfl, ?_⟩
       refine hK.out _ _ ⟨bC BK354 0, bC BK354 1, bC BK354 2, bC BK354 3, bC BK355 0, bC BK355 1, bC BK355 2, bC BK355 3⟩ (fun hHeld => ?_)
       clear hK K
       refine nB ?_
       refine oA (i := 21) (N := some 74) (mb 28 16777215) HT_ (fun K hK => ?_)
       refine gA Try.func153 #[.int .i64 a1_2] ?_
       with_reducible refine (impl_InPlace.calls a1_2 t360 _ A52.out).mono ?_
       rintro e w' ⟨rfl, ⟨nd, rfl⟩⟩
       refine ⟨_, rfl, ?_⟩
       refine hK.out _ _ ⟨bC BK354 0, bC BK354 1, bC BK354 2, bC BK354 3, bC BK355 0, bC BK355 1, bC BK355 2, bC BK355 3⟩ (fun hHeld => ?_)
       clear hK K
       refine nB ?_
       refine oA (i := 24) (N := some 77) (mb 28 33554431) HT_ (fun K hK => ?_)
       refine gA Try.func154 #[.int .i64 a1_3] ?_
       with_reducible refine (impl_OutPlace.calls a1_3 t361 _ A53.out).mono ?_
       rintro e w' ⟨rfl, ⟨nd, rfl⟩⟩
       refine ⟨_, rfl, ?_⟩
       refine hK.out _ _ ⟨bC BK354 0, bC BK354 1, bC BK354 2, bC BK354 3, bC BK355 0, bC BK355 1, bC BK355 2, bC BK355 3⟩ (fun hHeld => ?_)
       clear hK K
       refine nB ?_
       refine oA (i := 25) (N := some 78) (mb 28 67108863) HT_ (fun K hK => ?_)
       refine gA Try.func152 #[.int .i64 t358, .int .i64 t359, .int .i64 t360, .int .i64 t361] ?_
       with_reducible refine (impl_Interleave.calls kj2 t358 t359 t360 t361 t362 _ A54.out).mono ?_
       rintro e w59 ⟨rfl, hb⟩
       refine ⟨_, rfl, ?_⟩
       replace BK354 := Aside0.mk (blk_below (g := gb354) (bK BK354) hb)
       replace BK355 := Aside0.mk (blk_below (g := gb355) (bK BK355) hb)
       replace HB := Aside0.mk (below_step bG hb)
       (try clear hb)
       (try clear hb2)
       (try clear hk)
       (try clear hi)
       refine hK.out _ _ ⟨bC BK354 0, bC BK354 1, bC BK354 2, bC BK354 3, bC BK355 0, bC BK355 1, bC BK355 2, bC BK355 3⟩ (fun hHeld => ?_)
       clear hK K
       refine nB ?_
       refine pA (i := 26) (N := some 79) (mb 28 134217727) HT_ ?_
       refine pA (i := 27) (N := some 4) (mb 28 268435455) HT_ ?_
       refine eA HT_ ?_
       try go_wp2
       go_ret
       exact ⟨rA, bG⟩
      ·
       rw [if_neg c49] at H
       have c49b0 : (a0_2 == a1_2) = false := beq_eq_false_iff_ne.mpr c49
       have c49b1 : (a0_2 != a1_2) = true := bne_iff_ne.mpr c49
       by_cases c60 : a0_3 = a1_3
       ·
        rw [if_pos c60] at H
        have c60b0 : (a0_3 == a1_3) = true := beq_iff_eq.mpr c60
        have c60b1 : (a0_3 != a1_3) = false := bne_eq_false_iff_eq.mpr c60
        clear c60
        obtain rfl := Option.some.inj H
        have hnb61 := NB354_355.out
        have hnc61 := NB355_354.out
        obtain ⟨hcz62_0, hcz62_1, hcz62_2, hcz62_3, hfz62_0, hfz62_1, hfz62_2, hfz62_3⟩ := blkc4 BK354
        obtain ⟨hcz63_0, hcz63_1, hcz63_2, hcz63_3, hfz63_0, hfz63_1, hfz63_2, hfz63_3⟩ := blkc4 BK355
        try go_wp2
        replace BK354 := Aside0.mk (blk_drew BK354.out)
        replace BK355 := Aside0.mk (blk_drew BK355.out)
        have HBo := HB
        replace HB := Aside0.mk (below_drew1 HB.out)
        refine start_ (n := 28) (S := fun w' => w'.cell? ⟨gb354, 0, none⟩ = some (.int .i64 a0_0) ∧ w'.cell? ⟨gb354, 1, none⟩ = some (.int .i64 a0_1) ∧ w'.cell? ⟨gb354, 2, none⟩ = some (.int .i64 a0_2) ∧ w'.cell? ⟨gb354, 3, none⟩ = some (.int .i64 a0_3) ∧ w'.cell? ⟨gb355, 0, none⟩ = some (.int .i64 a1_0) ∧ w'.cell? ⟨gb355, 1, none⟩ = some (.int .i64 a1_1) ∧ w'.cell? ⟨gb355, 2, none⟩ = some (.int .i64 a1_2) ∧ w'.cell? ⟨gb355, 3, none⟩ = some (.int .i64 a1_3)) (ds := []) (mb 28 0) (by kernel_rfl) rfl rfl ⟨bC BK354 0, bC BK354 1, bC BK354 2, bC BK354 3, bC BK355 0, bC BK355 1, bC BK355 2, bC BK355 3⟩ (fun hHeld => ?_); refine with_tabW impl_Conflict.tab7 impl_Conflict.bits7 (fun HT_ HW_ => ?_)
        generalize wc.drew = w64 at BK354 BK355 HB hHeld ⊢
        refine pA (i := 0) (N := some 53) (mb 28 1) HT_ ?_
        refine pA (i := 2) (N := some 55) (mb 28 5) HT_ ?_
        refine tA8 (i := 1) (N := some 54) (mb 28 7) HT_ HW_ hHeld ?_
        refine tA8 (i := 3) (N := some 56) (mb 28 15) HT_ HW_ hHeld ?_
        refine pA (i := 4) (N := some 57) (mb 28 31) HT_ ?_
        refine pA (i := 5) (N := some 58) (mb 28 63) HT_ ?_
        refine pA (i := 6) (N := some 59) (mb 28 127) HT_ ?_
        refine pA (i := 8) (N := some 61) (mb 28 383) HT_ ?_
        refine tA8 (i := 7) (N := some 60) (mb 28 511) HT_ HW_ hHeld ?_
        refine tA8 (i := 9) (N := some 62) (mb 28 1023) HT_ HW_ hHeld ?_
        refine pA (i := 10) (N := some 63) (mb 28 2047) HT_ ?_
        refine pA (i := 11) (N := some 64) (mb 28 4095) HT_ ?_
        refine pA (i := 12) (N := some 65) (mb 28 8191) HT_ ?_
        refine pU (i := 13) (N := some 66) (mb 28 16383) HT_ ?_
        refine pU (i := 14) (N := some 67) (mb 28 32767) HT_ ?_
        refine pU (i := 15) (N := some 68) (mb 28 65535) HT_ ?_
        refine pU (i := 16) (N := some 69) (mb 28 131071) HT_ ?_
        refine pU (i := 17) (N := some 70) (mb 28 262143) HT_ ?_
        refine pU (i := 18) (N := some 71) (mb 28 524287) HT_ ?_
        refine pU (i := 19) (N := some 72) (mb 28 1048575) HT_ ?_
        refine pU (i := 20) (N := some 73) (mb 28 2097151) HT_ ?_
        refine pU (i := 21) (N := some 74) (mb 28 4194303) HT_ ?_
        refine pU (i := 22) (N := some 75) (mb 28 8388607) HT_ ?_
        refine pU (i := 23) (N := some 76) (mb 28 16777215) HT_ ?_
        refine pU (i := 24) (N := some 77) (mb 28 33554431) HT_ ?_
        refine pU (i := 25) (N := some 78) (mb 28 67108863) HT_ ?_
        refine pA (i := 26) (N := some 79) (mb 28 134217727) HT_ ?_
        refine pA (i := 27) (N := some 4) (mb 28 268435455) HT_ ?_
        refine eA HT_ ?_
        try go_wp2
        go_ret
        exact ⟨rA, bG⟩
       ·
        rw [if_neg c60] at H
        have c60b0 : (a0_3 == a1_3) = false := beq_eq_false_iff_ne.mpr c60
        have c60b1 : (a0_3 != a1_3) = true := bne_iff_ne.mpr c60
        obtain ⟨t363, A65, H⟩ := bindE H
        try dsimp only at H
        obtain ⟨t364, A66, H⟩ := bindE H
        try dsimp only at H
        obtain ⟨t365, A67, H⟩ := bindE H
        try dsimp only at H
        obtain ⟨t366, A68, H⟩ := bindE H
        try dsimp only at H
        obtain ⟨t367, A69, H⟩ := bindE H
        try dsimp only at H
        obtain rfl := Option.some.inj H
        have hnb70 := NB354_355.out
        have hnc70 := NB355_354.out
        obtain ⟨hcz71_0, hcz71_1, hcz71_2, hcz71_3, hfz71_0, hfz71_1, hfz71_2, hfz71_3⟩ := blkc4 BK354
        obtain ⟨hcz72_0, hcz72_1, hcz72_2, hcz72_3, hfz72_0, hfz72_1, hfz72_2, hfz72_3⟩ := blkc4 BK355
        try go_wp2
        replace BK354 := Aside0.mk (blk_drew BK354.out)
        replace BK355 := Aside0.mk (blk_drew BK355.out)
        have HBo := HB
        replace HB := Aside0.mk (below_drew1 HB.out)
        refine start_ (n := 28) (S := fun w' => w'.cell? ⟨gb354, 0, none⟩ = some (.int .i64 a0_0) ∧ w'.cell? ⟨gb354, 1, none⟩ = some (.int .i64 a0_1) ∧ w'.cell? ⟨gb354, 2, none⟩ = some (.int .i64 a0_2) ∧ w'.cell? ⟨gb354, 3, none⟩ = some (.int .i64 a0_3) ∧ w'.cell? ⟨gb355, 0, none⟩ = some (.int .i64 a1_0) ∧ w'.cell? ⟨gb355, 1, none⟩ = some (.int .i64 a1_1) ∧ w'.cell? ⟨gb355, 2, none⟩ = some (.int .i64 a1_2) ∧ w'.cell? ⟨gb355, 3, none⟩ = some (.int .i64 a1_3)) (ds := []) (mb 28 0) (by kernel_rfl) rfl rfl ⟨bC BK354 0, bC BK354 1, bC BK354 2, bC BK354 3, bC BK355 0, bC BK355 1, bC BK355 2, bC BK355 3⟩ (fun hHeld => ?_); refine with_tabW impl_Conflict.tab7 impl_Conflict.bits7 (fun HT_ HW_ => ?_)
        generalize wc.drew = w73 at BK354 BK355 HB hHeld ⊢
        refine pA (i := 0) (N := some 53) (mb 28 1) HT_ ?_
        refine pA (i := 2) (N := some 55) (mb 28 5) HT_ ?_
        refine tA8 (i := 1) (N := some 54) (mb 28 7) HT_ HW_ hHeld ?_
        refine tA8 (i := 3) (N := some 56) (mb 28 15) HT_ HW_ hHeld ?_
        refine pA (i := 4) (N := some 57) (mb 28 31) HT_ ?_
        refine pA (i := 5) (N := some 58) (mb 28 63) HT_ ?_
        refine pA (i := 6) (N := some 59) (mb 28 127) HT_ ?_
        refine pA (i := 8) (N := some 61) (mb 28 383) HT_ ?_
        refine tA8 (i := 7) (N := some 60) (mb 28 511) HT_ HW_ hHeld ?_
        refine tA8 (i := 9) (N := some 62) (mb 28 1023) HT_ HW_ hHeld ?_
        refine pA (i := 10) (N := some 63) (mb 28 2047) HT_ ?_
        refine pA (i := 11) (N := some 64) (mb 28 4095) HT_ ?_
        refine pA (i := 12) (N := some 65) (mb 28 8191) HT_ ?_
        refine pA (i := 13) (N := some 66) (mb 28 16383) HT_ ?_
        refine pA (i := 16) (N := some 69) (mb 28 81919) HT_ ?_
        refine pA (i := 19) (N := some 72) (mb 28 606207) HT_ ?_
        refine pA (i := 22) (N := some 75) (mb 28 4800511) HT_ ?_
        refine tA8 (i := 14) (N := some 67) (mb 28 4816895) HT_ HW_ hHeld ?_
        refine tA8 (i := 17) (N := some 70) (mb 28 4947967) HT_ HW_ hHeld ?_
        refine tA8 (i := 20) (N := some 73) (mb 28 5996543) HT_ HW_ hHeld ?_
        refine tA8 (i := 23) (N := some 76) (mb 28 14385151) HT_ HW_ hHeld ?_
        refine oA (i := 15) (N := some 68) (mb 28 14417919) HT_ (fun K hK => ?_)
        refine gA Try.func153 #[.int .i64 a0_2] ?_
        with_reducible refine (impl_InPlace.calls a0_2 t363 _ A65.out).mono ?_
        rintro e w' ⟨rfl, ⟨nd, rfl⟩⟩
        refine ⟨_, rfl, ?_⟩
        refine hK.out _ _ ⟨bC BK354 0, bC BK354 1, bC BK354 2, bC BK354 3, bC BK355 0, bC BK355 1, bC BK355 2, bC BK355 3⟩ (fun hHeld => ?_)
        clear hK K
        refine nB ?_
        refine oA (i := 18) (N := some 71) (mb 28 14680063) HT_ (fun K hK => ?_)
        refine gA Try.func154 #[.int .i64 a0_3] ?_
        with_reducible refine (impl_OutPlace.calls a0_3 t364 _ A66.out).mono ?_
        rintro e w' ⟨rfl, ⟨nd, rfl⟩⟩
        refine ⟨_, rfl, ?_⟩
        refine hK.out _ _ ⟨bC BK354 0, bC BK354 1, bC BK354 2, bC BK354 3, bC BK355 0, bC BK355 1, bC BK355 2, bC BK355 3⟩ (fun hHeld => ?_)
        clear hK K
        refine nB ?_
        refine oA (i := 21) (N := some 74) (mb 28 16777215) HT_ (fun K hK => ?_)
        refine gA Try.func153 #[.int .i64 a1_2] ?_
        with_reducible refine (impl_InPlace.calls a1_2 t365 _ A67.out).mono ?_
        rintro e w' ⟨rfl, ⟨nd, rfl⟩⟩
        refine ⟨_, rfl, ?_⟩
        refine hK.out _ _ ⟨bC BK354 0, bC BK354 1, bC BK354 2, bC BK354 3, bC BK355 0, bC BK355 1, bC BK355 2, bC BK355 3⟩ (fun hHeld => ?_)
        clear hK K
        refine nB ?_
        refine oA (i := 24) (N := some 77) (mb 28 33554431) HT_ (fun K hK => ?_)
        refine gA Try.func154 #[.int .i64 a1_3] ?_
        with_reducible refine (impl_OutPlace.calls a1_3 t366 _ A68.out).mono ?_
        rintro e w' ⟨rfl, ⟨nd, rfl⟩⟩
        refine ⟨_, rfl, ?_⟩
        refine hK.out _ _ ⟨bC BK354 0, bC BK354 1, bC BK354 2, bC BK354 3, bC BK355 0, bC BK355 1, bC BK355 2, bC BK355 3⟩ (fun hHeld => ?_)
        clear hK K
        refine nB ?_
        refine oA (i := 25) (N := some 78) (mb 28 67108863) HT_ (fun K hK => ?_)
        refine gA Try.func152 #[.int .i64 t363, .int .i64 t364, .int .i64 t365, .int .i64 t366] ?_
        with_reducible refine (impl_Interleave.calls kj2 t363 t364 t365 t366 t367 _ A69.out).mono ?_
        rintro e w74 ⟨rfl, hb⟩
        refine ⟨_, rfl, ?_⟩
        replace BK354 := Aside0.mk (blk_below (g := gb354) (bK BK354) hb)
        replace BK355 := Aside0.mk (blk_below (g := gb355) (bK BK355) hb)
        replace HB := Aside0.mk (below_step bG hb)
        (try clear hb)
        (try clear hb2)
        (try clear hk)
        (try clear hi)
        refine hK.out _ _ ⟨bC BK354 0, bC BK354 1, bC BK354 2, bC BK354 3, bC BK355 0, bC BK355 1, bC BK355 2, bC BK355 3⟩ (fun hHeld => ?_)
        clear hK K
        refine nB ?_
        refine pA (i := 26) (N := some 79) (mb 28 134217727) HT_ ?_
        refine pA (i := 27) (N := some 4) (mb 28 268435455) HT_ ?_
        refine eA HT_ ?_
        try go_wp2
        go_ret
        exact ⟨rA, bG⟩

/-! ### impl_IsTogether: function 87 -/
mutual
def impl_IsTogether.l0 : Nat → List (S89) → List Int → List Int → Int → Int → Option (Bool)
 | 0, _, _, _, _, _ => none
 | k + 1, x0, x1, x13, x14, x15 => if x15 < x14 then (if 0 ≤ x15 then (if x15 < (x13.length : Int) then ((impl_FindPath.f x0 (rd x13 x15)).bind fun t370 => (if t370 < 0 then (impl_IsTogether.j1 k x0 x1 x15 t370 x13 x14 x15 true) else (if x15 > 0 then (if 0 ≤ (wrap64 (x15 - 1)) then (if (wrap64 (x15 - 1)) < (x1.length : Int) then (impl_IsTogether.j1 k x0 x1 x15 t370 x13 x14 x15 (decide ((rd x13 x15) ≤ (rd x1 (wrap64 (x15 - 1)))))) else (none)) else (none)) else (impl_IsTogether.j1 k x0 x1 x15 t370 x13 x14 x15 false)))) else (none)) else (none)) else (some true)
def impl_IsTogether.j1 : Nat → List (S89) → List Int → Int → Int → List Int → Int → Int → Bool → Option (Bool)
 | 0, _, _, _, _, _, _, _, _ => none
 | k + 1, x0, x1, x5, x7, x13, x14, x15, x37 => if x37 = true then (some false) else (if 0 ≤ x5 then (if x5 ≤ (x1.length : Int) then (impl_IsTogether.l1 k x0 x1 x7 x13 x14 x15 (x1.take (x5 : Int).toNat) ((x1.take (x5 : Int).toNat).length : Int) 0) else (none)) else (none))
def impl_IsTogether.l1 : Nat → List (S89) → List Int → Int → List Int → Int → Int → List Int → Int → Int → Option (Bool)
 | 0, _, _, _, _, _, _, _, _, _ => none
 | k + 1, x0, x1, x7, x13, x14, x15, x40, x41, x42 => if x42 < x41 then (if 0 ≤ x42 then (if x42 < (x40.length : Int) then (if 0 ≤ x7 then (if x7 < (x0.length : Int) then ((impl_FindPath.f x0 (rd x40 x42)).bind fun t375 => (if 0 ≤ t375 then (if t375 < (x0.length : Int) then ((impl_Conflict.f k ((rd_T89 x0 x7).f0) ((rd_T89 x0 x7).f1) ((rd_T89 x0 x7).f2) ((rd_T89 x0 x7).f3) ((rd_T89 x0 t375).f0) ((rd_T89 x0 t375).f1) ((rd_T89 x0 t375).f2) ((rd_T89 x0 t375).f3)).bind fun t377 => (if t377 = true then (some false) else (impl_IsTogether.l1 k x0 x1 x7 x13 x14 x15 x40 x41 (wrap64 (x42 + 1))))) else (none)) else (none))) else (none)) else (none)) else (none)) else (none)) else (impl_IsTogether.l0 k x0 x1 x13 x14 (wrap64 (x15 + 1)))
end
def impl_IsTogether.f (k : Nat) (l0 : List (S89)) (l1 : List Int) : Option (Bool) := (impl_ArePaths.f k l0).bind fun t368 => (if t368 = true then (impl_IsTogether.l0 k l0 l1 l1 (l1.length : Int) 0) else (some false))
theorem impl_IsTogether.mono_l : ∀ k, (∀ y0 y1 y2 y3 y4, LeO (impl_IsTogether.l0 k y0 y1 y2 y3 y4) (impl_IsTogether.l0 (k + 1) y0 y1 y2 y3 y4)) ∧ (∀ y0 y1 y2 y3 y4 y5 y6 y7, LeO (impl_IsTogether.j1 k y0 y1 y2 y3 y4 y5 y6 y7) (impl_IsTogether.j1 (k + 1) y0 y1 y2 y3 y4 y5 y6 y7)) ∧ (∀ y0 y1 y2 y3 y4 y5 y6 y7 y8, LeO (impl_IsTogether.l1 k y0 y1 y2 y3 y4 y5 y6 y7 y8) (impl_IsTogether.l1 (k + 1) y0 y1 y2 y3 y4 y5 y6 y7 y8))
 | 0 => ⟨fun _ _ _ _ _ r h => by simp [impl_IsTogether.l0] at h, fun _ _ _ _ _ _ _ _ r h => by simp [impl_IsTogether.j1] at h, fun _ _ _ _ _ _ _ _ _ r h => by simp [impl_IsTogether.l1] at h⟩
 | k + 1 => by
  obtain ⟨ih0, ih1, ih2⟩ := impl_IsTogether.mono_l k
  refine ⟨?_, ?_, ?_⟩
  ·
   intro y0 y1 y2 y3 y4
   unfold impl_IsTogether.l0
   repeat' first | (with_reducible first | exact LeO.refl _ | exact LeO.none _ | refine LeO.ite ?_ ?_ | refine LeO.bind ?_ (fun _ => ?_) | exact ih0 _ _ _ _ _ | exact ih1 _ _ _ _ _ _ _ _ | exact ih2 _ _ _ _ _ _ _ _ _ | exact impl_ArePaths.mono _ _ | exact impl_Conflict.mono _ _ _ _ _ _ _ _ _)
  ·
   intro y0 y1 y2 y3 y4 y5 y6 y7
   unfold impl_IsTogether.j1
   repeat' first | (with_reducible first | exact LeO.refl _ | exact LeO.none _ | refine LeO.ite ?_ ?_ | refine LeO.bind ?_ (fun _ => ?_) | exact ih0 _ _ _ _ _ | exact ih1 _ _ _ _ _ _ _ _ | exact ih2 _ _ _ _ _ _ _ _ _ | exact impl_ArePaths.mono _ _ | exact impl_Conflict.mono _ _ _ _ _ _ _ _ _)
  ·
   intro y0 y1 y2 y3 y4 y5 y6 y7 y8
   unfold impl_IsTogether.l1
   repeat' first | (with_reducible first | exact LeO.refl _ | exact LeO.none _ | refine LeO.ite ?_ ?_ | refine LeO.bind ?_ (fun _ => ?_) | exact ih0 _ _ _ _ _ | exact ih1 _ _ _ _ _ _ _ _ | exact ih2 _ _ _ _ _ _ _ _ _ | exact impl_ArePaths.mono _ _ | exact impl_Conflict.mono _ _ _ _ _ _ _ _ _)
theorem impl_IsTogether.mono : ∀ a0 a1 k, LeO (impl_IsTogether.f k a0 a1) (impl_IsTogether.f (k + 1) a0 a1) := by
 intro a0 a1 k
 obtain ⟨ih0, ih1, ih2⟩ := impl_IsTogether.mono_l k
 unfold impl_IsTogether.f
 repeat' first | (with_reducible first | exact LeO.refl _ | exact LeO.none _ | refine LeO.ite ?_ ?_ | refine LeO.bind ?_ (fun _ => ?_) | exact ih0 _ _ _ _ _ | exact ih1 _ _ _ _ _ _ _ _ | exact ih2 _ _ _ _ _ _ _ _ _ | exact impl_ArePaths.mono _ _ | exact impl_Conflict.mono _ _ _ _ _ _ _ _ _)
def impl_IsTogether.T12 : Bool × List (List Nat × List Nat) := (true, [([], []), ([], []), ([0, 1], [0, 1]), ([2], [2]), ([], []), ([], []), ([], []), ([5, 6], [5, 6]), ([4, 7], [4, 7]), ([8], [8]), ([3, 9, 7], [3, 9])])
def impl_IsTogether.B12 : List Nat := [0, 0, 3, 7, 0, 0, 0, 96, 240, 496, 1023]
theorem impl_IsTogether.tab12 : rtab .any (opsOf Try.f87 12) = impl_IsTogether.T12 := by kernel_rfl
theorem impl_IsTogether.bits12 : waitsOk impl_IsTogether.T12.2 impl_IsTogether.B12 = true := by kernel_rfl
set_option maxHeartbeats 8000000 in
set_option maxRecDepth 100000 in
theorem impl_IsTogether.calls (k : Nat) (A0 : Option Addr) (c0 : Nat) (l0 : List (S89)) (A1 : Option Addr) (c1 : Nat) (l1 : List Int) (r : Bool) (w : World) (hr0 : Kd.C k89 w A0 l0.length l0) (hc0 : l0.length ≤ c0) (hr1 : Kd.C (Kd.int .i64) w A1 l1.length l1) (hc1 : l1.length ≤ c1) (h : impl_IsTogether.f k l0 l1 = some r) :
  Calls Try.prog 87 #[.slice A0 l0.length c0, .slice A1 l1.length c1] w fun e w' => e = .returned (.bool r) ∧ Below w.heap.size w w' := by
 have hu89 := Try.underlying89
 have HR0 := Aside0.mk hr0
 have HC0 := Aside0.mk hc0
 clear hr0 hc0
 have HR1 := Aside0.mk hr1
 have HC1 := Aside0.mk hc1
 clear hr1 hc1
 have HB := Aside0.mk (Below.refl w.heap.size w)
 have H : ((impl_ArePaths.f k l0).bind fun t368 => (if t368 = true then (impl_IsTogether.l0 k l0 l1 l1 (l1.length : Int) 0) else (some false))) = some r := h
 clear h
 obtain ⟨t368, A3, H⟩ := bindE H
 try dsimp only at H
 by_cases c4 : t368 = true
 ·
  subst c4
  have H1 : (impl_IsTogether.l0 k l0 l1 l1 (l1.length : Int) 0) = some r := by rw [if_pos rfl] at H; exact H
  clear H
  have H := H1
  clear H1
  have H' := Aside0.mk H
  clear H
  go_enter Try.func87, Try.ntmps87
  go_wp2_with (first | ((with_reducible refine gate_callee (f := 126) rfl ?_); refine gL (some 11) Try.func126 #[.slice A0 l0.length c0] ?_; (with_reducible refine (impl_ArePaths.calls k _ _ l0 true _ ?side1 ?side2 A3.out).mono ?_); (case side1 => exact cO HR0); (case side2 => exact HC0.out); rintro e w5 ⟨rfl, hb⟩; refine ⟨_, rfl, ?_⟩; replace HB := Aside0.mk (below_step bA hb); (try clear hb)))
  go_loopg [15] k (fun kq v15 w' => ∃ (x15_1 : Int), v15 = .int .i64 x15_1 ∧ Aside0 (impl_IsTogether.l0 kq l0 l1 l1 (l1.length : Int) x15_1 = some r) ∧ Aside0 (kq ≤ k) ∧ Aside0 (Below w.heap.size w w'))
  case atStart => exact ⟨(0), rS, H', ⟨Nat.le_refl _⟩, ⟨bA⟩⟩
  case round =>
   clear H'
   try clear c1
   try clear p2
   try clear c4
   obtain ⟨x15_1, rfl, HA, HK1, HB⟩ := hrel
   cases gk with
   | zero => exact absurd HA.out (by simp [impl_IsTogether.l0])
   | succ k1 =>
    have H := HA.out
    clear HA
    simp only [impl_IsTogether.l0] at H
    by_cases c6 : x15_1 < (l1.length : Int)
    ·
     rw [if_pos c6] at H
     have c6b0 := decide_eq_true c6
     clear c6
     have c7 : 0 ≤ x15_1 := ifN H
     replace H := ifT H
     have c7b0 := decide_eq_true c7
     clear c7
     have c8 : x15_1 < (l1.length : Int) := ifN H
     replace H := ifT H
     have c8b0 := decide_eq_true c8
     clear c8
     obtain ⟨t370, A9, H⟩ := bindE H
     try dsimp only at H
     have HC10 := Aside0.mk H
     clear H
     have p369 : 0 ≤ (x15_1 : Int) := dA
     have q369 : x15_1 < (l1.length : Int) := dA
     obtain ⟨ad369, e369, hx369_0⟩ := Kd.at_int HR1.out x15_1 p369 q369
     cases e369
     replace hx369_0 := hC HB hx369_0
     replace p369 := eq_true p369
     replace q369 := eq_true q369
     go_upto_region 7 with (first | ((with_reducible refine gate_callee (f := 119) rfl ?_); refine gL (some 22) Try.func119 #[.slice A0 l0.length c0, .int .i64 (rd l1 x15_1)] ?_; (with_reducible refine (impl_FindPath.calls _ _ l0 (rd l1 x15_1) t370 _ ?side1 ?side2 A9.out).mono ?_); (case side1 => exact cB HR0); (case side2 => exact HC0.out); rintro e w11 ⟨rfl, hb⟩; refine ⟨_, rfl, ?_⟩; replace HB := Aside0.mk (below_step bA hb); (try clear hb)))
     (try simp only [Act.put, List.setIfInBounds_toArray, List.set_cons_zero, List.set_cons_succ])
     go_cut [37] (fun v37 wc => ∃ (kq : Nat) (x37_9 : Bool), v37 = .bool x37_9 ∧ Aside0 (impl_IsTogether.j1 kq l0 l1 x15_1 t370 l1 (l1.length : Int) x15_1 x37_9 = some r) ∧ Aside0 (kq ≤ k1) ∧ Aside0 (Below w.heap.size w wc))
     case first =>
      have H := HC10.out
      clear HC10
      by_cases c12 : t370 < 0
      ·
       rw [if_pos c12] at H
       have c12b0 := decide_eq_true c12
       clear c12
       (first | rw [c12b0] | (simp only [i64_w, i32_w]; rw [c12b0]) | skip)
       have H' := Aside0.mk H
       clear H
       go_wp2
       go_meet
       case rel => exact ⟨_, (true), rS, H', ⟨by have := HK1.out; first | omega | exact Nat.le_refl _⟩, ⟨bA⟩⟩
      ·
       rw [if_neg c12] at H
       have c12b0 := decide_eq_false c12
       clear c12
       (first | rw [c12b0] | (simp only [i64_w, i32_w]; rw [c12b0]) | skip)
       by_cases c13 : x15_1 > 0
       ·
        rw [if_pos c13] at H
        have c13b0 := decide_eq_true c13
        clear c13
        obtain ⟨ji14, hji14⟩ : ∃ j_ : Int, (wrap64 (x15_1 - 1)) = j_ := ⟨_, rfl⟩
        replace H : (if 0 ≤ (ji14) then (if (ji14) < (l1.length : Int) then (impl_IsTogether.j1 k1 l0 l1 x15_1 t370 l1 (l1.length : Int) x15_1 (decide ((rd l1 x15_1) ≤ (rd l1 (ji14))))) else (none)) else (none)) = some r := by first | (rw [hji14] at H; exact H) | (simp only [hji14] at H ⊢; exact H)
        have hji14w : (IntKind.i64.wrap (x15_1 - 1)) = ji14 := (i64_w _).trans hji14
        have c15 : 0 ≤ (ji14) := ifN H
        replace H := ifT H
        have c15b0 := decide_eq_true c15
        clear c15
        have c16 : (ji14) < (l1.length : Int) := ifN H
        replace H := ifT H
        have c16b0 := decide_eq_true c16
        clear c16
        have H' := Aside0.mk H
        clear H
        have p371 : 0 ≤ ((ji14) : Int) := dA
        have q371 : (ji14) < (l1.length : Int) := dA
        obtain ⟨ad371, e371, hx371_0⟩ := Kd.at_int HR1.out (ji14) p371 q371
        obtain rfl : ad369 = ad371 := (by injection e371)
        replace hx371_0 := hC HB hx371_0
        replace p371 := eq_true p371
        replace q371 := eq_true q371
        go_wp2
        go_meet
        case rel => exact ⟨_, (decide ((rd l1 x15_1) ≤ (rd l1 (ji14)))), (by first | rfl | (simp; done) | (simp only [← hji14] <;> (first | rfl | simp)) | (simp [*]; done)), H', ⟨by have := HK1.out; first | omega | exact Nat.le_refl _⟩, ⟨bA⟩⟩
       ·
        rw [if_neg c13] at H
        have c13b0 := decide_eq_false c13
        clear c13
        have H' := Aside0.mk H
        clear H
        go_wp2
        go_meet
        case rel => exact ⟨_, (false), rS, H', ⟨by have := HK1.out; first | omega | exact Nat.le_refl _⟩, ⟨bA⟩⟩
     case rest =>
      clear HC10
      try clear c1
      try clear p2
      try clear p3
      try clear q3
      try clear hx3
      try clear c4
      try clear c6
      try clear c6b0
      try clear p6
      try clear c7
      try clear c7b0
      try clear c8
      try clear c8b0
      try clear c11
      try clear c12
      try clear c12b0
      try clear c13
      try clear c13b0
      try clear c15
      try clear c15b0
      try clear c16
      try clear c16b0
      try clear hx369_0
      try clear hx371_0
      try clear p2
      try clear p369
      try clear p371
      try clear q369
      try clear q371
      obtain ⟨kq, x37_9, rfl, HA, HJ9, HB⟩ := hcut
      cases kq with
      | zero => exact absurd HA.out (by simp [impl_IsTogether.j1])
      | succ kj9 =>
       have H := HA.out
       clear HA
       simp only [impl_IsTogether.j1] at H
       by_cases c17 : x37_9 = true
       ·
        subst c17
        have H1 : (some false) = some r := by rw [if_pos rfl] at H; exact H
        clear H
        have H := H1
        clear H1
        obtain rfl := Option.some.inj H
        go_wp2
        go_ret
        exact ⟨rA, bA⟩
       ·
        replace c17 := Bool.eq_false_iff.mpr c17
        subst c17
        have H1 : (if 0 ≤ x15_1 then (if x15_1 ≤ (l1.length : Int) then (impl_IsTogether.l1 kj9 l0 l1 t370 l1 (l1.length : Int) x15_1 (l1.take (x15_1 : Int).toNat) ((l1.take (x15_1 : Int).toNat).length : Int) 0) else (none)) else (none)) = some r := by rw [if_neg (show ¬ (false = true) by decide)] at H; exact H
        clear H
        have H := H1
        clear H1
        have c18 : 0 ≤ x15_1 := ifN H
        replace H := ifT H
        have c18b0 := eq_true c18
        have c18b1 := decide_eq_true c18
        clear c18
        have c19 : x15_1 ≤ (l1.length : Int) := ifN H
        replace H := ifT H
        have c19b0 := eq_true c19
        have c19b1 := decide_eq_true c19
        clear c19
        have H' := Aside0.mk H
        clear H
        obtain ⟨i020, hi020, _, hsz20, _⟩ := info_parts info3
        obtain ⟨hcut20, hA20, hC20⟩ := print_take_of (P := Try.prog) (Value.int .i64) 0 41 3 .i64 Try.underlying41 hi020 hsz20 (some ad369) c1 l1 x15_1 (dA) (dA) HC1.out
        have HR372 := Aside0.mk (Kd.C_of_reads (h1 := fun _ => rfl) (hA20 _ (Kd.reads_of_C HR1.out)))
        have HC372 := Aside0.mk hC20
        clear hA20 hC20 hi020 hsz20
        have HL372 := Aside0.mk (show (x15_1 : Int) ≤ (l1.length : Int) from (dA))
        go_wp2
        go_loopg [42] kj9 (fun kq v42 w' => ∃ (x42_3 : Int), v42 = .int .i64 x42_3 ∧ Aside0 (impl_IsTogether.l1 kq l0 l1 t370 l1 (l1.length : Int) x15_1 (l1.take (x15_1 : Int).toNat) ((l1.take (x15_1 : Int).toNat).length : Int) x42_3 = some r) ∧ Aside0 (kq ≤ kj9) ∧ Aside0 (Below w.heap.size w w'))
        case atStart => exact ⟨(0), rS, H', ⟨Nat.le_refl _⟩, ⟨bA⟩⟩
        case round =>
         clear H'
         try clear c1
         try clear p2
         try clear p3
         try clear q3
         try clear hx3
         try clear c4
         try clear c6
         try clear c6b0
         try clear p6
         try clear c7
         try clear c7b0
         try clear c8
         try clear c8b0
         try clear c11
         try clear c12
         try clear c12b0
         try clear c13
         try clear c13b0
         try clear c15
         try clear c15b0
         try clear c16
         try clear c16b0
         try clear c17
         try clear c18
         try clear c18b0
         try clear c18b1
         try clear c19
         try clear c19b0
         try clear c19b1
         try clear hx369_0
         try clear hx371_0
         try clear p2
         try clear p3
         try clear p369
         try clear p371
         try clear p6
         try clear q3
         try clear q369
         try clear q371
         obtain ⟨x42_3, rfl, HA, HK3, HB⟩ := hrel
         cases gk with
         | zero => exact absurd HA.out (by simp [impl_IsTogether.l1])
         | succ k3 =>
          have H := HA.out
          clear HA
          simp only [impl_IsTogether.l1] at H
          by_cases c21 : x42_3 < ((l1.take (x15_1 : Int).toNat).length : Int)
          ·
           rw [if_pos c21] at H
           have c21b0 := decide_eq_true c21
           (try (have c21b1 : decide (x42_3 < max x15_1 0) = true := decide_eq_true (by rw [List.length_take] at c21; omega)))
           clear c21
           have c22 : 0 ≤ x42_3 := ifN H
           replace H := ifT H
           have c22b0 := decide_eq_true c22
           clear c22
           have c23 : x42_3 < ((l1.take (x15_1 : Int).toNat).length : Int) := ifN H
           replace H := ifT H
           have c23b0 := decide_eq_true c23
           (try (have c23b1 : decide (x42_3 < max x15_1 0) = true := decide_eq_true (by rw [List.length_take] at c23; omega)))
           clear c23
           have c24 : 0 ≤ t370 := ifN H
           replace H := ifT H
           have c24b0 := decide_eq_true c24
           clear c24
           have c25 : t370 < (l0.length : Int) := ifN H
           replace H := ifT H
           have c25b0 := decide_eq_true c25
           clear c25
           obtain ⟨t375, A26, H⟩ := bindE H
           try dsimp only at H
           have c27 : 0 ≤ t375 := ifN H
           replace H := ifT H
           have c27b0 := decide_eq_true c27
           clear c27
           have c28 : t375 < (l0.length : Int) := ifN H
           replace H := ifT H
           have c28b0 := decide_eq_true c28
           clear c28
           obtain ⟨t377, A29, H⟩ := bindE H
           try dsimp only at H
           by_cases c30 : t377 = true
           ·
            subst c30
            have H1 : (some false) = some r := by rw [if_pos rfl] at H; exact H
            clear H
            have H := H1
            clear H1
            obtain rfl := Option.some.inj H
            have p373 : 0 ≤ (x42_3 : Int) := dA
            have q373 : x42_3 < ((l1.take (x15_1 : Int).toNat).length : Int) := dA
            (try have q373m : (x42_3 < max x15_1 0) = True := eq_true (of_decide_eq_true (by assumption)))
            obtain ⟨ad373, e373, hx373_0⟩ := Kd.at_int HR372.out x42_3 p373 q373
            obtain rfl : ad369 = ad373 := (by injection e373)
            replace hx373_0 := hC HB hx373_0
            replace p373 := eq_true p373
            replace q373 := eq_true q373
            try go_wp2
            have HBo := HB
            replace HB := Aside0.mk (below_drew1 HB.out)
            have p374 : 0 ≤ (t370 : Int) := dA
            have q374 : t370 < (l0.length : Int) := dA
            obtain ⟨ad374, e374, hx374_0, hx374_1, hx374_2, hx374_3⟩ := at_T89 HR0.out t370 p374 q374
            have hw374_3 := hx374_3
            have hw374_2 := hx374_2
            have hw374_1 := hx374_1
            have hw374_0 := hx374_0
            cases e374
            replace hx374_0 := hC HB hx374_0
            replace hx374_1 := hC HB hx374_1
            replace hx374_2 := hC HB hx374_2
            replace hx374_3 := hC HB hx374_3
            replace p374 := eq_true p374
            replace q374 := eq_true q374
            have p376 : 0 ≤ (t375 : Int) := dA
            have q376 : t375 < (l0.length : Int) := dA
            obtain ⟨ad376, e376, hx376_0, hx376_1, hx376_2, hx376_3⟩ := at_T89 HR0.out t375 p376 q376
            have hw376_3 := hx376_3
            have hw376_2 := hx376_2
            have hw376_1 := hx376_1
            have hw376_0 := hx376_0
            obtain rfl : ad374 = ad376 := (by injection e376)
            replace hx376_0 := hC HB hx376_0
            replace hx376_1 := hC HB hx376_1
            replace hx376_2 := hC HB hx376_2
            replace hx376_3 := hC HB hx376_3
            replace p376 := eq_true p376
            replace q376 := eq_true q376
            refine start_ (n := 11) (S := fun w' => w'.cell? (ad374.add ((t370).toNat * 4)) = some (.int .i64 ((rd_T89 l0 t370).f0)) ∧ w'.cell? ⟨(ad374.add ((t370).toNat * 4)).block, (ad374.add ((t370).toNat * 4)).off + 1, none⟩ = some (.int .i64 ((rd_T89 l0 t370).f1)) ∧ w'.cell? ⟨(ad374.add ((t370).toNat * 4)).block, (ad374.add ((t370).toNat * 4)).off + 2, none⟩ = some (.int .i64 ((rd_T89 l0 t370).f2)) ∧ w'.cell? ⟨(ad374.add ((t370).toNat * 4)).block, (ad374.add ((t370).toNat * 4)).off + 3, none⟩ = some (.int .i64 ((rd_T89 l0 t370).f3)) ∧ w'.cell? (ad374.add ((t375).toNat * 4)) = some (.int .i64 ((rd_T89 l0 t375).f0)) ∧ w'.cell? ⟨(ad374.add ((t375).toNat * 4)).block, (ad374.add ((t375).toNat * 4)).off + 1, none⟩ = some (.int .i64 ((rd_T89 l0 t375).f1)) ∧ w'.cell? ⟨(ad374.add ((t375).toNat * 4)).block, (ad374.add ((t375).toNat * 4)).off + 2, none⟩ = some (.int .i64 ((rd_T89 l0 t375).f2)) ∧ w'.cell? ⟨(ad374.add ((t375).toNat * 4)).block, (ad374.add ((t375).toNat * 4)).off + 3, none⟩ = some (.int .i64 ((rd_T89 l0 t375).f3))) (ds := []) (mb 11 0) (by kernel_rfl) rfl rfl ⟨(hC HB hw374_0), (hC HB hw374_1), (hC HB hw374_2), (hC HB hw374_3), (hC HB hw376_0), (hC HB hw376_1), (hC HB hw376_2), (hC HB hw376_3)⟩ (fun hHeld => ?_); refine with_tabW impl_IsTogether.tab12 impl_IsTogether.bits12 (fun HT_ HW_ => ?_)
            generalize wr.drew = w31 at HB hx374_0 hx374_1 hx374_2 hx374_3 hx376_0 hx376_1 hx376_2 hx376_3 hHeld ⊢
            refine pA (i := 0) (N := some 46) (mb 11 1) HT_ ?_
            refine pA (i := 1) (N := some 47) (mb 11 3) HT_ ?_
            refine pA (i := 2) (N := some 48) (mb 11 7) HT_ ?_
            refine pA (i := 4) (N := some 50) (mb 11 23) HT_ ?_
            refine pA (i := 5) (N := some 51) (mb 11 55) HT_ ?_
            refine pA (i := 6) (N := some 52) (mb 11 119) HT_ ?_
            refine tA8 (i := 3) (N := some 49) (mb 11 127) HT_ HW_ hHeld ?_
            refine oA (i := 7) (N := some 53) (mb 11 255) HT_ (fun K hK => ?_)
            refine gA Try.func119 #[.slice (some ad374) l0.length c0, .int .i64 (rd (l1.take (x15_1 : Int).toNat) x42_3)] ?_
            with_reducible refine (impl_FindPath.calls _ _ l0 (rd (l1.take (x15_1 : Int).toNat) x42_3) t375 _ ?side1 ?side2 A26.out).mono ?_
            (case side1 => exact cB HR0)
            (case side2 => exact HC0.out)
            rintro e w32 ⟨rfl, hb⟩
            refine ⟨_, rfl, ?_⟩
            replace HB := Aside0.mk (below_step bA hb)
            (try clear hb)
            (try clear hb2)
            (try clear hk)
            (try clear hi)
            refine hK.out _ _ ⟨(hC HB hw374_0), (hC HB hw374_1), (hC HB hw374_2), (hC HB hw374_3), (hC HB hw376_0), (hC HB hw376_1), (hC HB hw376_2), (hC HB hw376_3)⟩ (fun hHeld => ?_)
            clear hK K
            refine nB ?_
            refine pA (i := 8) (N := some 54) (mb 11 511) HT_ ?_
            refine tA8 (i := 9) (N := some 55) (mb 11 1023) HT_ HW_ hHeld ?_
            refine oA (i := 10) (N := some 56) (mb 11 2047) HT_ (fun K hK => ?_)
            refine gA Try.func133 #[.agg #[.int .i64 ((rd_T89 l0 t370).f0), .int .i64 ((rd_T89 l0 t370).f1), .int .i64 ((rd_T89 l0 t370).f2), .int .i64 ((rd_T89 l0 t370).f3)], .agg #[.int .i64 ((rd_T89 l0 t375).f0), .int .i64 ((rd_T89 l0 t375).f1), .int .i64 ((rd_T89 l0 t375).f2), .int .i64 ((rd_T89 l0 t375).f3)]] ?_
            with_reducible refine (impl_Conflict.calls k3 ((rd_T89 l0 t370).f0) ((rd_T89 l0 t370).f1) ((rd_T89 l0 t370).f2) ((rd_T89 l0 t370).f3) ((rd_T89 l0 t375).f0) ((rd_T89 l0 t375).f1) ((rd_T89 l0 t375).f2) ((rd_T89 l0 t375).f3) true _ A29.out).mono ?_
            rintro e w33 ⟨rfl, hb⟩
            refine ⟨_, rfl, ?_⟩
            replace HB := Aside0.mk (below_step bA hb)
            (try clear hb)
            (try clear hb2)
            (try clear hk)
            (try clear hi)
            refine hK.out _ _ ⟨(hC HB hw374_0), (hC HB hw374_1), (hC HB hw374_2), (hC HB hw374_3), (hC HB hw376_0), (hC HB hw376_1), (hC HB hw376_2), (hC HB hw376_3)⟩ (fun hHeld => ?_)
            clear hK K
            refine nB ?_
            refine eA HT_ ?_
            try go_wp2
            go_ret
            exact ⟨rA, bA⟩
           ·
            replace c30 := Bool.eq_false_iff.mpr c30
            subst c30
            have H1 : (impl_IsTogether.l1 k3 l0 l1 t370 l1 (l1.length : Int) x15_1 (l1.take (x15_1 : Int).toNat) ((l1.take (x15_1 : Int).toNat).length : Int) (wrap64 (x42_3 + 1))) = some r := by rw [if_neg (show ¬ (false = true) by decide)] at H; exact H
            clear H
            have H := H1
            clear H1
            have H' := Aside0.mk H
            clear H
            have p373 : 0 ≤ (x42_3 : Int) := dA
            have q373 : x42_3 < ((l1.take (x15_1 : Int).toNat).length : Int) := dA
            (try have q373m : (x42_3 < max x15_1 0) = True := eq_true (of_decide_eq_true (by assumption)))
            obtain ⟨ad373, e373, hx373_0⟩ := Kd.at_int HR372.out x42_3 p373 q373
            obtain rfl : ad369 = ad373 := (by injection e373)
            replace hx373_0 := hC HB hx373_0
            replace p373 := eq_true p373
            replace q373 := eq_true q373
            try go_wp2
            have HBo := HB
            replace HB := Aside0.mk (below_drew1 HB.out)
            have p374 : 0 ≤ (t370 : Int) := dA
            have q374 : t370 < (l0.length : Int) := dA
            obtain ⟨ad374, e374, hx374_0, hx374_1, hx374_2, hx374_3⟩ := at_T89 HR0.out t370 p374 q374
            have hw374_3 := hx374_3
            have hw374_2 := hx374_2
            have hw374_1 := hx374_1
            have hw374_0 := hx374_0
            cases e374
            replace hx374_0 := hC HB hx374_0
            replace hx374_1 := hC HB hx374_1
            replace hx374_2 := hC HB hx374_2
            replace hx374_3 := hC HB hx374_3
            replace p374 := eq_true p374
            replace q374 := eq_true q374
            have p376 : 0 ≤ (t375 : Int) := dA
            have q376 : t375 < (l0.length : Int) := dA
            obtain ⟨ad376, e376, hx376_0, hx376_1, hx376_2, hx376_3⟩ := at_T89 HR0.out t375 p376 q376
            have hw376_3 := hx376_3
            have hw376_2 := hx376_2
            have hw376_1 := hx376_1
            have hw376_0 := hx376_0
            obtain rfl : ad374 = ad376 := (by injection e376)
            replace hx376_0 := hC HB hx376_0
            replace hx376_1 := hC HB hx376_1
            replace hx376_2 := hC HB hx376_2
            replace hx376_3 := hC HB hx376_3
            replace p376 := eq_true p376
            replace q376 := eq_true q376
            refine start_ (n := 11) (S := fun w' => w'.cell? (ad374.add ((t370).toNat * 4)) = some (.int .i64 ((rd_T89 l0 t370).f0)) ∧ w'.cell? ⟨(ad374.add ((t370).toNat * 4)).block, (ad374.add ((t370).toNat * 4)).off + 1, none⟩ = some (.int .i64 ((rd_T89 l0 t370).f1)) ∧ w'.cell? ⟨(ad374.add ((t370).toNat * 4)).block, (ad374.add ((t370).toNat * 4)).off + 2, none⟩ = some (.int .i64 ((rd_T89 l0 t370).f2)) ∧ w'.cell? ⟨(ad374.add ((t370).toNat * 4)).block, (ad374.add ((t370).toNat * 4)).off + 3, none⟩ = some (.int .i64 ((rd_T89 l0 t370).f3)) ∧ w'.cell? (ad374.add ((t375).toNat * 4)) = some (.int .i64 ((rd_T89 l0 t375).f0)) ∧ w'.cell? ⟨(ad374.add ((t375).toNat * 4)).block, (ad374.add ((t375).toNat * 4)).off + 1, none⟩ = some (.int .i64 ((rd_T89 l0 t375).f1)) ∧ w'.cell? ⟨(ad374.add ((t375).toNat * 4)).block, (ad374.add ((t375).toNat * 4)).off + 2, none⟩ = some (.int .i64 ((rd_T89 l0 t375).f2)) ∧ w'.cell? ⟨(ad374.add ((t375).toNat * 4)).block, (ad374.add ((t375).toNat * 4)).off + 3, none⟩ = some (.int .i64 ((rd_T89 l0 t375).f3))) (ds := []) (mb 11 0) (by kernel_rfl) rfl rfl ⟨(hC HB hw374_0), (hC HB hw374_1), (hC HB hw374_2), (hC HB hw374_3), (hC HB hw376_0), (hC HB hw376_1), (hC HB hw376_2), (hC HB hw376_3)⟩ (fun hHeld => ?_); refine with_tabW impl_IsTogether.tab12 impl_IsTogether.bits12 (fun HT_ HW_ => ?_)
            generalize wr.drew = w34 at HB hx374_0 hx374_1 hx374_2 hx374_3 hx376_0 hx376_1 hx376_2 hx376_3 hHeld ⊢
            refine pA (i := 0) (N := some 46) (mb 11 1) HT_ ?_
            refine pA (i := 1) (N := some 47) (mb 11 3) HT_ ?_
            refine pA (i := 2) (N := some 48) (mb 11 7) HT_ ?_
            refine pA (i := 4) (N := some 50) (mb 11 23) HT_ ?_
            refine pA (i := 5) (N := some 51) (mb 11 55) HT_ ?_
            refine pA (i := 6) (N := some 52) (mb 11 119) HT_ ?_
            refine tA8 (i := 3) (N := some 49) (mb 11 127) HT_ HW_ hHeld ?_
            refine oA (i := 7) (N := some 53) (mb 11 255) HT_ (fun K hK => ?_)
            refine gA Try.func119 #[.slice (some ad374) l0.length c0, .int .i64 (rd (l1.take (x15_1 : Int).toNat) x42_3)] ?_
            with_reducible refine (impl_FindPath.calls _ _ l0 (rd (l1.take (x15_1 : Int).toNat) x42_3) t375 _ ?side1 ?side2 A26.out).mono ?_
            (case side1 => exact cB HR0)
            (case side2 => exact HC0.out)
            rintro e w35 ⟨rfl, hb⟩
            refine ⟨_, rfl, ?_⟩
            replace HB := Aside0.mk (below_step bA hb)
            (try clear hb)
            (try clear hb2)
            (try clear hk)
            (try clear hi)
            refine hK.out _ _ ⟨(hC HB hw374_0), (hC HB hw374_1), (hC HB hw374_2), (hC HB hw374_3), (hC HB hw376_0), (hC HB hw376_1), (hC HB hw376_2), (hC HB hw376_3)⟩ (fun hHeld => ?_)
            clear hK K
            refine nB ?_
            refine pA (i := 8) (N := some 54) (mb 11 511) HT_ ?_
            refine tA8 (i := 9) (N := some 55) (mb 11 1023) HT_ HW_ hHeld ?_
            refine oA (i := 10) (N := some 56) (mb 11 2047) HT_ (fun K hK => ?_)
            refine gA Try.func133 #[.agg #[.int .i64 ((rd_T89 l0 t370).f0), .int .i64 ((rd_T89 l0 t370).f1), .int .i64 ((rd_T89 l0 t370).f2), .int .i64 ((rd_T89 l0 t370).f3)], .agg #[.int .i64 ((rd_T89 l0 t375).f0), .int .i64 ((rd_T89 l0 t375).f1), .int .i64 ((rd_T89 l0 t375).f2), .int .i64 ((rd_T89 l0 t375).f3)]] ?_
            with_reducible refine (impl_Conflict.calls k3 ((rd_T89 l0 t370).f0) ((rd_T89 l0 t370).f1) ((rd_T89 l0 t370).f2) ((rd_T89 l0 t370).f3) ((rd_T89 l0 t375).f0) ((rd_T89 l0 t375).f1) ((rd_T89 l0 t375).f2) ((rd_T89 l0 t375).f3) false _ A29.out).mono ?_
            rintro e w36 ⟨rfl, hb⟩
            refine ⟨_, rfl, ?_⟩
            replace HB := Aside0.mk (below_step bA hb)
            (try clear hb)
            (try clear hb2)
            (try clear hk)
            (try clear hi)
            refine hK.out _ _ ⟨(hC HB hw374_0), (hC HB hw374_1), (hC HB hw374_2), (hC HB hw374_3), (hC HB hw376_0), (hC HB hw376_1), (hC HB hw376_2), (hC HB hw376_3)⟩ (fun hHeld => ?_)
            clear hK K
            refine nB ?_
            refine eA HT_ ?_
            try go_wp2
            go_roundg k3
            case measure => have := HK1.out; have := HJ9.out; have := HK3.out; omega
            case rel => exact ⟨(wrap64 (x42_3 + 1)), rS, H', ⟨by have := HK1.out; have := HJ9.out; have := HK3.out; omega⟩, ⟨bA⟩⟩
          ·
           rw [if_neg c21] at H
           have c21b0 := decide_eq_false c21
           (try (have c21b1 : decide (x42_3 < max x15_1 0) = false := decide_eq_false (by have g_ : x15_1 ≤ (l1.length : Int) := (by first | exact dA | exact Int.le_of_lt dA | exact (show Aside0 (x15_1 ≤ (l1.length : Int)) by assumption).out); rw [List.length_take] at c21; omega)))
           clear c21
           have H' := Aside0.mk H
           clear H
           go_wp2
           go_roundg k3
           case measure => have := HK1.out; have := HJ9.out; have := HK3.out; omega
           case rel => exact ⟨(wrap64 (x15_1 + 1)), rS, H', ⟨by have := HK1.out; have := HJ9.out; have := HK3.out; omega⟩, ⟨bA⟩⟩
    ·
     rw [if_neg c6] at H
     have c6b0 := decide_eq_false c6
     clear c6
     obtain rfl := Option.some.inj H
     go_wp2
     go_ret
     exact ⟨rA, bA⟩
 ·
  replace c4 := Bool.eq_false_iff.mpr c4
  subst c4
  have H1 : (some false) = some r := by rw [if_neg (show ¬ (false = true) by decide)] at H; exact H
  clear H
  have H := H1
  clear H1
  obtain rfl := Option.some.inj H
  go_enter Try.func87, Try.ntmps87
  go_wp2_with (first | ((with_reducible refine gate_callee (f := 126) rfl ?_); refine gL (some 11) Try.func126 #[.slice A0 l0.length c0] ?_; (with_reducible refine (impl_ArePaths.calls k _ _ l0 false _ ?side1 ?side2 A3.out).mono ?_); (case side1 => exact cO HR0); (case side2 => exact HC0.out); rintro e w37 ⟨rfl, hb⟩; refine ⟨_, rfl, ?_⟩; replace HB := Aside0.mk (below_step bA hb); (try clear hb)))
  go_ret
  exact ⟨rA, bA⟩

/-! ### impl_sieve: function 155 -/
def impl_sieve.l0 : Nat → List Int → Bool → List Int → List Int → Int → Int → Option (List Int)
 | 0, _, _, _, _, _, _ => none
 | k + 1, x1, x2, x7, x11, x12, x13 => if x13 < x12 then (if 0 ≤ x13 then (if x13 < (x11.length : Int) then ((slices_Contains_int_int.f k x1 (rd x11 x13)).bind fun t382 => (if (t382 == x2) = true then (if x7.length < 17592186044416 then (impl_sieve.l0 k x1 x2 (x7 ++ [rd x11 x13]) x11 x12 (wrap64 (x13 + 1))) else (none)) else (impl_sieve.l0 k x1 x2 x7 x11 x12 (wrap64 (x13 + 1))))) else (none)) else (none)) else (some x7)
def impl_sieve.f (k : Nat) (l0 : List Int) (l1 : List Int) (a2 : Bool) : Option (List Int) := impl_sieve.l0 k l1 a2 (([] : List Int)) l0 (l0.length : Int) 0
theorem impl_sieve.mono_l : ∀ k, (∀ y0 y1 y2 y3 y4 y5, LeO (impl_sieve.l0 k y0 y1 y2 y3 y4 y5) (impl_sieve.l0 (k + 1) y0 y1 y2 y3 y4 y5))
 | 0 => fun _ _ _ _ _ _ r h => by simp [impl_sieve.l0] at h
 | k + 1 => by
  have ih0 := impl_sieve.mono_l k
  ·
   intro y0 y1 y2 y3 y4 y5
   unfold impl_sieve.l0
   repeat' first | (with_reducible first | exact LeO.refl _ | exact LeO.none _ | refine LeO.ite ?_ ?_ | refine LeO.bind ?_ (fun _ => ?_) | exact ih0 _ _ _ _ _ _ | exact slices_Contains_int_int.mono _ _ _)
theorem impl_sieve.mono : ∀ a0 a1 a2 k, LeO (impl_sieve.f k a0 a1 a2) (impl_sieve.f (k + 1) a0 a1 a2) := by
 intro a0 a1 a2 k
 have ih0 := impl_sieve.mono_l k
 unfold impl_sieve.f
 repeat' first | (with_reducible first | exact LeO.refl _ | exact LeO.none _ | refine LeO.ite ?_ ?_ | refine LeO.bind ?_ (fun _ => ?_) | exact ih0 _ _ _ _ _ _ | exact slices_Contains_int_int.mono _ _ _)
set_option maxHeartbeats 8000000 in
set_option maxRecDepth 100000 in
theorem impl_sieve.calls (k : Nat) (A0 : Option Addr) (c0 : Nat) (l0 : List Int) (A1 : Option Addr) (c1 : Nat) (l1 : List Int) (a2 : Bool) (r : List Int) (w : World) (hr0 : Kd.C (Kd.int .i64) w A0 l0.length l0) (hc0 : l0.length ≤ c0) (hr1 : Kd.C (Kd.int .i64) w A1 l1.length l1) (hc1 : l1.length ≤ c1) (h : impl_sieve.f k l0 l1 a2 = some r) :
  Calls Try.prog 155 #[.slice A0 l0.length c0, .slice A1 l1.length c1, .bool a2] w fun e w' => ∃ v0_ : Value, e = .returned (v0_) ∧ Kd.R (Kd.int .i64) 3 w' w.heap.size (fun _ => True) v0_ r ∧ Below w.heap.size w w' := by
 have HR0 := Aside0.mk hr0
 have HC0 := Aside0.mk hc0
 clear hr0 hc0
 have HR1 := Aside0.mk hr1
 have HC1 := Aside0.mk hc1
 clear hr1 hc1
 have HB := Aside0.mk (Below.refl w.heap.size w)
 have H : (impl_sieve.l0 k l1 a2 (([] : List Int)) l0 (l0.length : Int) 0) = some r := h
 clear h
 obtain ⟨y378, hy378⟩ : ∃ y_ : List Int, y_ = (([] : List Int)) := ⟨_, rfl⟩
 replace H : (impl_sieve.l0 k l1 a2 y378 l0 (l0.length : Int) 0) = some r := by first | (rw [hy378]; with_reducible exact H) | (have H2_ := (Option.bind_some _ _).symm.trans H; rw [hy378]; with_reducible exact H2_) | (have H2_ := (Option.bind_some _ _).symm.trans H; with_reducible exact H2_) | with_reducible exact H | (rw [hy378]; exact H) | exact H
 have Ny378 := Aside0.mk hy378
 clear hy378
 have H' := Aside0.mk H
 clear H
 go_enter Try.func155, Try.ntmps155
 go_wp2_with (first | ((with_reducible refine gate_dst (N := 10) rfl ?_); refine Kd.R_lit (Kd.int .i64) _ 3 ?hg (N := 10) ?hd (xs := ([] : List Int)) (inner := []) (ok := fun _ => True) (okp := fun _ => True) ?hr ?hp (fun _ hk => hk) trivial (Below.refl _ _) (Nat.le_refl _) (by simp) ?_; (case hd => rfl); (case hg => rfl); (case hr => first | (go_simp; done) | (go_simp; rfl)); (case hp => exact (Reps.none _ _)); intro v379 w4 ho5 hb hg_ hnew_; clear hg_ hnew_; (first | rw [← Ny378.out] at ho5 | (simp only [Int.reduceToNat] at ho5; rw [← Ny378.out] at ho5)); have HO380 := Aside0.mk (Kd.R_lower ho5 (below_size bA)); replace HB := Aside0.mk (below_step bA hb); clear hb ho5))
 go_loopg [7, 13] k (fun kq v7 v13 w' => ∃ (x7_1 : List Int) (x13_1 : Int), v13 = .int .i64 x13_1 ∧ Aside0 (impl_sieve.l0 kq l1 a2 x7_1 l0 (l0.length : Int) x13_1 = some r) ∧ Aside0 (kq ≤ k) ∧ Aside0 (Kd.R (Kd.int .i64) 3 w' w.heap.size (fun _ => True) v7 x7_1) ∧ Aside0 (Below w.heap.size w w'))
 case atStart => exact ⟨(y378), (0), rS, H', ⟨Nat.le_refl _⟩, ⟨rK HO380⟩, ⟨bA⟩⟩
 case round =>
  clear H'
  try clear c1
  try clear p2
  obtain ⟨x7_1, x13_1, rfl, HA, HK1, HO_7, HB⟩ := hrel
  cases gk with
  | zero => exact absurd HA.out (by simp [impl_sieve.l0])
  | succ k1 =>
   have H := HA.out
   clear HA
   simp only [impl_sieve.l0] at H
   by_cases c6 : x13_1 < (l0.length : Int)
   ·
    rw [if_pos c6] at H
    have c6b0 := decide_eq_true c6
    clear c6
    have c7 : 0 ≤ x13_1 := ifN H
    replace H := ifT H
    have c7b0 := decide_eq_true c7
    clear c7
    have c8 : x13_1 < (l0.length : Int) := ifN H
    replace H := ifT H
    have c8b0 := decide_eq_true c8
    clear c8
    obtain ⟨t382, A9, H⟩ := bindE H
    try dsimp only at H
    by_cases c10 : (t382 == a2) = true
    ·
     rw [if_pos c10] at H
     have c10b0 : (t382 == a2) = true := c10
     (try (have c10b1 : decide (t382 = a2) = true := by simpa using c10))
     (try (have c10b2 : (t382 == a2) = true := by simpa using c10))
     clear c10
     have c11 : x7_1.length < 17592186044416 := ifN H
     replace H := ifT H
     have LMc11 := Aside0.mk c11
     clear c11
     obtain ⟨y383, hy383⟩ : ∃ y_ : List Int, y_ = (x7_1 ++ [rd l0 x13_1]) := ⟨_, rfl⟩
     replace H : (impl_sieve.l0 k1 l1 a2 y383 l0 (l0.length : Int) (wrap64 (x13_1 + 1))) = some r := by first | (rw [hy383]; with_reducible exact H) | (have H2_ := (Option.bind_some _ _).symm.trans H; rw [hy383]; with_reducible exact H2_) | (have H2_ := (Option.bind_some _ _).symm.trans H; with_reducible exact H2_) | with_reducible exact H | (rw [hy383]; exact H) | exact H
     have Ny383 := Aside0.mk hy383
     clear hy383
     have H' := Aside0.mk H
     clear H
     have p381 : 0 ≤ (x13_1 : Int) := dA
     have q381 : x13_1 < (l0.length : Int) := dA
     obtain ⟨ad381, e381, hx381_0⟩ := Kd.at_int HR0.out x13_1 p381 q381
     cases e381
     replace hx381_0 := hC HB hx381_0
     replace p381 := eq_true p381
     replace q381 := eq_true q381
     go_wp2_with (first | ((with_reducible refine gate_callee (f := 104) rfl ?_); refine gL (some 19) Try.func104 #[.slice A1 l1.length c1, .int .i64 (rd l0 x13_1)] ?_; (with_reducible refine (slices_Contains_int_int.calls k1 _ _ l1 (rd l0 x13_1) t382 _ ?side1 ?side2 A9.out).mono ?_); (case side1 => exact cB HR1); (case side2 => exact HC1.out); rintro e w' ⟨rfl, ⟨nd, rfl⟩⟩; refine ⟨_, rfl, ?_⟩) | ((with_reducible refine gate_builtin (b := .append) (xs := #[.tmp 22, .tmp 24]) rfl ?_); at_builtin; refine Kd.R_append (Kd.int .i64) (w0 := w) w.heap.size rfl (.tmp 22) (.tmp 24) 41 3 (.int .i64 0) 8 rfl Try.underlying41 info3 rfl (by decide) (by omega) u7 x7_1 (rd l0 x13_1) [.int .i64 (rd l0 x13_1)] (fun _ => True) (fun _ => False) rfl rfl ?aP (fun _ hk => hk.elim) ?aF ?aO ?aB ?aS ?aL ?_; (case aP => exact rfl); (case aB => exact bA); (case aF => exact (fun _ _ => trivial)); (case aO => exact (rK HO_7)); (case aS => exact (below_size bA)); (case aL => have := LMc11.out; omega); intro v384 w12 ho hb hg hat; rw [← Ny383.out] at ho; have n0_ := Aside0.mk (hb); have n1_ := Aside0.mk (ho); clear HB; clear HO_7; have HB := n0_; have HO385 := n1_; clear n0_ n1_; clear ho hb hg hat))
     go_roundg k1
     case measure => have := HK1.out; omega
     case rel => exact ⟨(y383), (wrap64 (x13_1 + 1)), rS, H', ⟨by have := HK1.out; omega⟩, ⟨rK HO385⟩, ⟨bA⟩⟩
    ·
     rw [if_neg c10] at H
     have c10b0 : (t382 == a2) = false := by simpa using c10
     (try (have c10b1 : decide (t382 = a2) = false := by simpa using c10))
     (try (have c10b2 : (t382 == a2) = false := by simpa using c10))
     (try (have c10b3 : ¬ (t382 = a2) := by simpa using c10))
     clear c10
     have H' := Aside0.mk H
     clear H
     have p381 : 0 ≤ (x13_1 : Int) := dA
     have q381 : x13_1 < (l0.length : Int) := dA
     obtain ⟨ad381, e381, hx381_0⟩ := Kd.at_int HR0.out x13_1 p381 q381
     cases e381
     replace hx381_0 := hC HB hx381_0
     replace p381 := eq_true p381
     replace q381 := eq_true q381
     go_wp2_with (first | ((with_reducible refine gate_callee (f := 104) rfl ?_); refine gL (some 19) Try.func104 #[.slice A1 l1.length c1, .int .i64 (rd l0 x13_1)] ?_; (with_reducible refine (slices_Contains_int_int.calls k1 _ _ l1 (rd l0 x13_1) t382 _ ?side1 ?side2 A9.out).mono ?_); (case side1 => exact cB HR1); (case side2 => exact HC1.out); rintro e w' ⟨rfl, ⟨nd, rfl⟩⟩; refine ⟨_, rfl, ?_⟩))
     go_roundg k1
     case measure => have := HK1.out; omega
     case rel => exact ⟨(x7_1), (wrap64 (x13_1 + 1)), rS, H', ⟨by have := HK1.out; omega⟩, ⟨rK HO_7⟩, ⟨bA⟩⟩
   ·
    rw [if_neg c6] at H
    have c6b0 := decide_eq_false c6
    clear c6
    obtain rfl := Option.some.inj H
    go_wp2
    go_ret
    exact ⟨_, by first | rfl | (simp [errW_none, errW_some] <;> rfl) | (simp [*, errW_none, errW_some] <;> rfl), by (with_reducible repeat (first | apply Kd.R_alloc | apply Kd.R_drewN | apply Kd.R_drew)); exact HO_7.out, bA⟩

/-! ### impl_Closes: function 134 -/
def impl_Closes.f (k : Nat) (l0 : List Int) (l1 : List Int) : Option (List Int) := (impl_sieve.f k l0 l1 false).bind fun t386 => (some t386)
theorem impl_Closes.mono : ∀ a0 a1 k, LeO (impl_Closes.f k a0 a1) (impl_Closes.f (k + 1) a0 a1) := by
 intro a0 a1 k
 unfold impl_Closes.f
 repeat' first | (with_reducible first | exact LeO.refl _ | exact LeO.none _ | refine LeO.ite ?_ ?_ | refine LeO.bind ?_ (fun _ => ?_) | exact impl_sieve.mono _ _ _ _)
set_option maxHeartbeats 8000000 in
set_option maxRecDepth 100000 in
theorem impl_Closes.calls (k : Nat) (A0 : Option Addr) (c0 : Nat) (l0 : List Int) (A1 : Option Addr) (c1 : Nat) (l1 : List Int) (r : List Int) (w : World) (hr0 : Kd.C (Kd.int .i64) w A0 l0.length l0) (hc0 : l0.length ≤ c0) (hr1 : Kd.C (Kd.int .i64) w A1 l1.length l1) (hc1 : l1.length ≤ c1) (h : impl_Closes.f k l0 l1 = some r) :
  Calls Try.prog 134 #[.slice A0 l0.length c0, .slice A1 l1.length c1] w fun e w' => ∃ v0_ : Value, e = .returned (v0_) ∧ Kd.R (Kd.int .i64) 3 w' w.heap.size (fun _ => True) v0_ r ∧ Below w.heap.size w w' := by
 have HR0 := Aside0.mk hr0
 have HC0 := Aside0.mk hc0
 clear hr0 hc0
 have HR1 := Aside0.mk hr1
 have HC1 := Aside0.mk hc1
 clear hr1 hc1
 have HB := Aside0.mk (Below.refl w.heap.size w)
 have H : ((impl_sieve.f k l0 l1 false).bind fun t386 => (some t386)) = some r := h
 clear h
 obtain ⟨t386, A3, H⟩ := bindE H
 try dsimp only at H
 obtain rfl := Option.some.inj H
 go_enter Try.func134, Try.ntmps134
 go_wp2_with (first | ((with_reducible refine gate_callee (f := 155) rfl ?_); refine gL (some 7) Try.func155 #[.slice A0 l0.length c0, .slice A1 l1.length c1, .bool false] ?_; (with_reducible refine (impl_sieve.calls k _ _ l0 _ _ l1 false t386 _ ?side1 ?side2 ?side3 ?side4 A3.out).mono ?_); (case side1 => exact cO HR0); (case side2 => exact HC0.out); (case side3 => exact cO HR1); (case side4 => exact HC1.out); rintro e w4 ⟨v387, rfl, ho0, hb⟩; refine ⟨_, rfl, ?_⟩; have HO388 := Aside0.mk (Kd.R_lower ho0 (below_size bA)); replace HB := Aside0.mk (below_step bA hb); (try clear hb); (try clear ho0)))
 go_ret
 exact ⟨_, by first | rfl | (simp [errW_none, errW_some] <;> rfl) | (simp [*, errW_none, errW_some] <;> rfl), by (with_reducible repeat (first | apply Kd.R_alloc | apply Kd.R_drewN | apply Kd.R_drew)); exact HO388.out, bA⟩

end Go.Proofs.Ytdkmmefmhfbgkaa.P
