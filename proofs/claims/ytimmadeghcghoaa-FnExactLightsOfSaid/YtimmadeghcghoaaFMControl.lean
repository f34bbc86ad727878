/- Printed by myprint.py (wip/tools) over the kit's print: what Go's functions compute, and that they do. Lean checks it. -/
import Derived.Test.YtimmadeghcghoaaF0
import Derived.Test.YtimmadeghcghoaaFMInt
namespace Go.Proofs.Ytimmadeghcghoaa.P
open Go.RowKit Go.Proofs.YtimmadeghcghoaaW.PrintWords Go.Proofs.YtimmadeghcghoaaW.PrintLast Go.Proofs.YtimmadeghcghoaaW.PrintMore Go.Proofs.Ytimmadeghcghoaa.Sq
attribute [local go_sem] max2_int min2_int max_two min_two max_three min_three max_four min_four
set_option linter.unusedVariables false
set_option linter.unusedSimpArgs false

/-! ### laws_markControl: function 63 -/
def laws_markControl.f (k : Nat) (l0_0 : List Int) (a0_1 : Int) (l0_2 : List Int) (a0_3 : Int) (a1 : Int) : Option (Int × List Int × List Int) := (laws_markIntS.f k l0_0 a1).bind fun bt927 => ((laws_markIntS.f k l0_2 bt927.1).bind fun bt929 => (some (bt929.1, bt927.2, bt929.2)))
theorem laws_markControl.mono : ∀ a0 a1 a2 a3 a4 k, LeO (laws_markControl.f k a0 a1 a2 a3 a4) (laws_markControl.f (k + 1) a0 a1 a2 a3 a4) := by
  intro a0 a1 a2 a3 a4 k
  unfold laws_markControl.f
  repeat' first | (with_reducible first | exact LeO.refl _ | exact LeO.none _ | refine LeO.ite ?_ ?_ | refine LeO.bind ?_ (fun _ => ?_) | exact laws_markIntS.mono _ _ _) | exact LeO.none _ | refine LeO.ite ?_ ?_ | refine LeO.bind ?_ (fun _ => ?_) | exact laws_markIntS.mono _ _ _
set_option maxHeartbeats 8000000 in
set_option maxRecDepth 100000 in
theorem laws_markControl.calls (k : Nat) (P0_0_ : Nat → Prop) (u9000_ : Value) (l0_0 : List Int) (a0_1 : Int) (P0_2_ : Nat → Prop) (u9001_ : Value) (l0_2 : List Int) (a0_3 : Int) (a1 : Int) (r1 : Int) (r2 : List Int) (r3 : List Int) (w0 w : World) (hB : Below w0.heap.size w0 w) (ho0_0 : Kd.R (Kd.int .i64) 3 w w0.heap.size P0_0_ u9000_ l0_0) (hp0_0_0_2 : ∀ k_, P0_0_ k_ → ¬ P0_2_ k_) (ho0_2 : Kd.R (Kd.int .i64) 3 w w0.heap.size P0_2_ u9001_ l0_2) (hp0_2_0_0 : ∀ k_, P0_2_ k_ → ¬ P0_0_ k_) (h : laws_markControl.f k l0_0 a0_1 l0_2 a0_3 a1 = some (r1, r2, r3)) :
    Calls Try.prog 63 #[.agg #[u9000_, .int .i64 a0_1, u9001_, .int .i64 a0_3], .int .i64 a1] w fun e w' => e = .returned (.int .i64 r1) ∧ Kd.R (Kd.int .i64) 3 w' w0.heap.size (fun k_ => ((P0_0_ k_ ∨ P0_2_ k_) ∨ w.heap.size ≤ k_)) u9000_ r2 ∧ Kd.R (Kd.int .i64) 3 w' w0.heap.size (fun k_ => ((P0_0_ k_ ∨ P0_2_ k_) ∨ w.heap.size ≤ k_)) u9001_ r3 ∧ Below w0.heap.size w0 w' ∧ Kept w w' (fun k_ => P0_0_ k_ ∨ P0_2_ k_) := by
  have hu70 := Try.underlying70
  have HO0_0 := Aside0.mk (show Kd.R (Kd.int .i64) 3 w w0.heap.size (fun k_ => ((P0_0_ k_ ∨ P0_2_ k_) ∨ w.heap.size ≤ k_) ∧ some k_ ≠ (u9001_ : Value).ownBlock) u9000_ l0_0 from Kd.R_mono ho0_0 (fun k_ hk => ⟨(.inl (.inl hk)), fun e_ => hp0_0_0_2 k_ hk (ho0_2.1 k_ e_.symm)⟩))
  have HO0_2 := Aside0.mk (show Kd.R (Kd.int .i64) 3 w w0.heap.size (fun k_ => ((P0_0_ k_ ∨ P0_2_ k_) ∨ w.heap.size ≤ k_) ∧ some k_ ≠ (u9000_ : Value).ownBlock) u9001_ l0_2 from Kd.R_mono ho0_2 (fun k_ hk => ⟨(.inl (.inr hk)), fun e_ => hp0_2_0_0 k_ hk (ho0_0.1 k_ e_.symm)⟩))
  have HK := Aside0.mk (Kept.refl w (fun k_ => P0_0_ k_ ∨ P0_2_ k_))
  have HW0 := Aside0.mk hB.size
  have HB := Aside0.mk hB
  clear hB
  have H : ((laws_markIntS.f k l0_0 a1).bind fun bt927 => ((laws_markIntS.f k l0_2 bt927.1).bind fun bt929 => (some (bt929.1, bt927.2, bt929.2)))) = some (r1, r2, r3) := h
  clear h
  obtain ⟨⟨t927, t928⟩, A3, H⟩ := bindE H
  try dsimp only at H
  obtain ⟨⟨t929, t930⟩, A4, H⟩ := bindE H
  try dsimp only at H
  simp only [Option.some.injEq, Prod.mk.injEq] at H
  obtain ⟨rfl, rfl, rfl⟩ := H
  obtain ⟨Ao5, co5, eo5⟩ := Kd.R_slice HO0_0.out
  subst eo5
  obtain ⟨Ao6, co6, eo6⟩ := Kd.R_slice HO0_2.out
  subst eo6
  go_enter Try.func63, Try.ntmps63
  go_wp2_with (first | ((with_reducible refine gate_dst (N := 2) rfl ?_); refine bE (N := 2) (cs := #[.slice Ao5 l0_0.length co5, .int .i64 a0_1, .slice Ao6 l0_2.length co6, .int .i64 a0_3]) (t := 70) ?_; intro gb926 hg w7 hbox hb; have n0_ := Aside0.mk (Kd.R_below (by (with_reducible repeat (first | apply Kd.R_alloc | apply Kd.R_drewN | apply Kd.R_drew)); exact HO0_0.out) hb); have n1_ := Aside0.mk (Kd.R_below (by (with_reducible repeat (first | apply Kd.R_alloc | apply Kd.R_drewN | apply Kd.R_drew)); exact HO0_2.out) hb); have n2_ := Aside0.mk (Kept.below (S := (fun k_ => P0_0_ k_ ∨ P0_2_ k_)) (by repeat (first | (with_reducible first | exact HK.out | apply Kept.alloc | apply Kept.drewN | apply Kept.drew) | exact HK.out)) hb); have n3_ := Aside0.mk (below_step bA hb); have n4_ := Aside0.mk (hbox); have n5_ := Aside0.mk ((by rw [hg]; exact (by first | exact HK.out.1 | exact (show Kept w _ (fun k_ => P0_0_ k_ ∨ P0_2_ k_) from by repeat (first | (with_reducible first | exact HK.out | apply Kept.alloc | apply Kept.drewN | apply Kept.drew) | exact HK.out)).1) : w.heap.size ≤ gb926)); have n6_ := Aside0.mk ((by rw [hg]; exact (below_size bA) : w0.heap.size ≤ gb926)); clear HO0_0; clear HO0_2; clear HK; clear HB; have HO0_0 := n0_; have HO0_2 := n1_; have HK := n2_; have HB := n3_; have BK926 := n4_; have GW926 := n5_; have GE926 := n6_; clear n0_ n1_ n2_ n3_ n4_ n5_ n6_; clear hb hbox hg; have hcz8_0 : w7.cell? ⟨gb926, 0, none⟩ = some (.slice Ao5 l0_0.length co5) := (blk_cell BK926.out 0).trans rfl; have hcz8_1 : w7.cell? ⟨gb926, 1, none⟩ = some (.int .i64 a0_1) := (blk_cell BK926.out 1).trans rfl; have hcz8_2 : w7.cell? ⟨gb926, 2, none⟩ = some (.slice Ao6 l0_2.length co6) := (blk_cell BK926.out 2).trans rfl; have hcz8_3 : w7.cell? ⟨gb926, 3, none⟩ = some (.int .i64 a0_3) := (blk_cell BK926.out 3).trans rfl; have hfz8_0 := blk_frozen BK926.out 0; have hfz8_1 := blk_frozen BK926.out 1; have hfz8_2 := blk_frozen BK926.out 2; have hfz8_3 := blk_frozen BK926.out 3) | ((with_reducible refine gate_callee (f := 21) rfl ?_); refine gL (some 8) Try.func21 #[.slice Ao5 l0_0.length co5, .int .i64 a1] ?_; (with_reducible refine (laws_markIntS.calls k (fun k_ => some k_ = (.slice Ao5 l0_0.length co5 : Value).ownBlock) (.slice Ao5 l0_0.length co5) l0_0 a1 t927 t928 w0 _ ?side1 ?side2 A3.out).mono ?_); (case side1 => repeat (first | (with_reducible first | exact HB.out | apply below_alloc | apply pw_below_drewN | apply below_drew1 | refine below_set ?_ GE926.out) | exact HB.out)); (case side2 => exact Kd.R_tight rfl HO0_0.out); rintro e w9 ⟨rfl, hy0, hb, hkp⟩; refine ⟨_, rfl, ?_⟩; replace HO0_2 := Aside0.mk (Kd.R_mono (ok' := fun k_ => ((P0_0_ k_ ∨ P0_2_ k_) ∨ w.heap.size ≤ k_) ∧ some k_ ≠ (.slice Ao5 l0_0.length co5 : Value).ownBlock) (Kd.R_keptB (HO0_2.out) hkp (fun k_ hk_ hs_ => (hk_.2) hs_)) (fun k_ hk_ => ⟨hk_.1.1, hk_.1.2⟩)); replace BK926 := Aside0.mk (blk_kept (bK BK926) hkp (fun hs_ => (fun e_ => (Kd.R_ne HO0_0.out BK926.out (by decide)) e_) hs_)); replace HK := Aside0.mk (Kept.then_ (S := (fun k_ => P0_0_ k_ ∨ P0_2_ k_)) (by repeat (first | (with_reducible first | exact HK.out | apply Kept.alloc | apply Kept.drewN | apply Kept.drew | refine Kept.setCell ?_ (.inr GW926.out) _) | exact HK.out)) hkp (fun k_ hs_ => (fun e_ => (HO0_0.out.1 k_ e_.symm).1) hs_)); replace HO0_0 := Aside0.mk (Kd.R_reok rfl hy0 (fun k_ e_ => HO0_0.out.1 k_ e_)); replace HB := Aside0.mk (hb); (try clear hb); (try clear hkp); (try clear hy0); have hcz10_0 : w9.cell? ⟨gb926, 0, none⟩ = some (.slice Ao5 l0_0.length co5) := (blk_cell BK926.out 0).trans rfl; have hcz10_1 : w9.cell? ⟨gb926, 1, none⟩ = some (.int .i64 a0_1) := (blk_cell BK926.out 1).trans rfl; have hcz10_2 : w9.cell? ⟨gb926, 2, none⟩ = some (.slice Ao6 l0_2.length co6) := (blk_cell BK926.out 2).trans rfl; have hcz10_3 : w9.cell? ⟨gb926, 3, none⟩ = some (.int .i64 a0_3) := (blk_cell BK926.out 3).trans rfl; have hfz10_0 := blk_frozen BK926.out 0; have hfz10_1 := blk_frozen BK926.out 1; have hfz10_2 := blk_frozen BK926.out 2; have hfz10_3 := blk_frozen BK926.out 3) | ((with_reducible refine gate_callee (f := 21) rfl ?_); refine gL (some 12) Try.func21 #[.slice Ao6 l0_2.length co6, .int .i64 t927] ?_; (with_reducible refine (laws_markIntS.calls k (fun k_ => some k_ = (.slice Ao6 l0_2.length co6 : Value).ownBlock) (.slice Ao6 l0_2.length co6) l0_2 t927 t929 t930 w0 _ ?side1 ?side2 A4.out).mono ?_); (case side1 => repeat (first | (with_reducible first | exact HB.out | apply below_alloc | apply pw_below_drewN | apply below_drew1 | refine below_set ?_ GE926.out) | exact HB.out)); (case side2 => exact Kd.R_tight rfl HO0_2.out); rintro e w11 ⟨rfl, hy0, hb, hkp⟩; refine ⟨_, rfl, ?_⟩; replace HO0_0 := Aside0.mk (Kd.R_mono (ok' := fun k_ => ((P0_0_ k_ ∨ P0_2_ k_) ∨ w.heap.size ≤ k_) ∧ some k_ ≠ (.slice Ao6 l0_2.length co6 : Value).ownBlock) (Kd.R_keptB (HO0_0.out) hkp (fun k_ hk_ hs_ => (hk_.2) hs_)) (fun k_ hk_ => ⟨hk_.1.1, hk_.1.2⟩)); replace BK926 := Aside0.mk (blk_kept (bK BK926) hkp (fun hs_ => (fun e_ => (Kd.R_ne HO0_2.out BK926.out (by decide)) e_) hs_)); replace HK := Aside0.mk (Kept.then_ (S := (fun k_ => P0_0_ k_ ∨ P0_2_ k_)) (by repeat (first | (with_reducible first | exact HK.out | apply Kept.alloc | apply Kept.drewN | apply Kept.drew | refine Kept.setCell ?_ (.inr GW926.out) _) | exact HK.out)) hkp (fun k_ hs_ => (fun e_ => (HO0_2.out.1 k_ e_.symm).1) hs_)); replace HO0_2 := Aside0.mk (Kd.R_reok rfl hy0 (fun k_ e_ => HO0_2.out.1 k_ e_)); replace HB := Aside0.mk (hb); (try clear hb); (try clear hkp); (try clear hy0)))
  go_ret
  exact ⟨rA, by (with_reducible repeat (first | apply Kd.R_alloc | apply Kd.R_drewN | apply Kd.R_drew)); exact Kd.R_mono HO0_0.out (fun _ hk => hk.1), by (with_reducible repeat (first | apply Kd.R_alloc | apply Kd.R_drewN | apply Kd.R_drew)); exact Kd.R_mono HO0_2.out (fun _ hk => hk.1), bG, by repeat (first | (with_reducible first | exact HK.out | apply Kept.alloc | apply Kept.drewN | apply Kept.drew | refine Kept.setCell ?_ (.inr GW926.out) _) | exact HK.out)⟩

/-! ### laws_heldControl: function 66 -/
def laws_heldControl.f (k : Nat) (l0_0 : List Int) (a0_1 : Int) (l0_2 : List Int) (a0_3 : Int) (a1 : Int) : Option (Int) := (laws_heldIntS.f k l0_0 a1).bind fun t1034 => (if t1034 < 0 then (some (-1)) else ((laws_heldIntS.f k l0_2 t1034).bind fun t1035 => (if t1035 < 0 then (some (-1)) else (some t1035))))
theorem laws_heldControl.mono : ∀ a0 a1 a2 a3 a4 k, LeO (laws_heldControl.f k a0 a1 a2 a3 a4) (laws_heldControl.f (k + 1) a0 a1 a2 a3 a4) := by
  intro a0 a1 a2 a3 a4 k
  unfold laws_heldControl.f
  repeat' first | (with_reducible first | exact LeO.refl _ | exact LeO.none _ | refine LeO.ite ?_ ?_ | refine LeO.bind ?_ (fun _ => ?_) | exact laws_heldIntS.mono _ _ _) | exact LeO.none _ | refine LeO.ite ?_ ?_ | refine LeO.bind ?_ (fun _ => ?_) | exact laws_heldIntS.mono _ _ _
set_option maxHeartbeats 8000000 in
set_option maxRecDepth 100000 in
theorem laws_heldControl.calls (k : Nat) (A0_0 : Option Addr) (c0_0 : Nat) (l0_0 : List Int) (a0_1 : Int) (A0_2 : Option Addr) (c0_2 : Nat) (l0_2 : List Int) (a0_3 : Int) (a1 : Int) (r : Int) (w : World) (hr0_0 : Kd.C (Kd.int .i64) w A0_0 l0_0.length l0_0) (hc0_0 : l0_0.length ≤ c0_0) (hr0_2 : Kd.C (Kd.int .i64) w A0_2 l0_2.length l0_2) (hc0_2 : l0_2.length ≤ c0_2) (h : laws_heldControl.f k l0_0 a0_1 l0_2 a0_3 a1 = some r) :
    Calls Try.prog 66 #[.agg #[.slice A0_0 l0_0.length c0_0, .int .i64 a0_1, .slice A0_2 l0_2.length c0_2, .int .i64 a0_3], .int .i64 a1] w fun e w' => e = .returned (.int .i64 r) ∧ Below w.heap.size w w' := by
  have hu70 := Try.underlying70
  have HR0_0 := Aside0.mk hr0_0
  have HC0_0 := Aside0.mk hc0_0
  clear hr0_0 hc0_0
  have HR0_2 := Aside0.mk hr0_2
  have HC0_2 := Aside0.mk hc0_2
  clear hr0_2 hc0_2
  have HB := Aside0.mk (Below.refl w.heap.size w)
  have H : ((laws_heldIntS.f k l0_0 a1).bind fun t1034 => (if t1034 < 0 then (some (-1)) else ((laws_heldIntS.f k l0_2 t1034).bind fun t1035 => (if t1035 < 0 then (some (-1)) else (some t1035))))) = some r := h
  clear h
  obtain ⟨t1034, A3, H⟩ := bindE H
  try dsimp only at H
  by_cases c4 : t1034 < 0
  · rw [if_pos c4] at H
    have c4b0 : decide (t1034 < 0) = true := decide_eq_true c4
    clear c4
    obtain rfl := Option.some.inj H
    go_enter Try.func66, Try.ntmps66
    go_wp2_with (first | ((with_reducible refine gate_dst (N := 2) rfl ?_); refine bE (N := 2) (cs := #[.slice A0_0 l0_0.length c0_0, .int .i64 a0_1, .slice A0_2 l0_2.length c0_2, .int .i64 a0_3]) (t := 70) ?_; intro gb1033 hg w5 hbox hb; have n0_ := Aside0.mk (below_step bA hb); have n1_ := Aside0.mk (hbox); have n2_ := Aside0.mk ((by rw [hg]; exact (below_size bA) : w.heap.size ≤ gb1033)); have n3_ := Aside0.mk ((by rw [hg]; exact (below_size bA) : w.heap.size ≤ gb1033)); clear HB; have HB := n0_; have BK1033 := n1_; have GW1033 := n2_; have GE1033 := n3_; clear n0_ n1_ n2_ n3_; clear hb hbox hg; have hcz6_0 : w5.cell? ⟨gb1033, 0, none⟩ = some (.slice A0_0 l0_0.length c0_0) := (blk_cell BK1033.out 0).trans rfl; have hcz6_1 : w5.cell? ⟨gb1033, 1, none⟩ = some (.int .i64 a0_1) := (blk_cell BK1033.out 1).trans rfl; have hcz6_2 : w5.cell? ⟨gb1033, 2, none⟩ = some (.slice A0_2 l0_2.length c0_2) := (blk_cell BK1033.out 2).trans rfl; have hcz6_3 : w5.cell? ⟨gb1033, 3, none⟩ = some (.int .i64 a0_3) := (blk_cell BK1033.out 3).trans rfl; have hfz6_0 := blk_frozen BK1033.out 0; have hfz6_1 := blk_frozen BK1033.out 1; have hfz6_2 := blk_frozen BK1033.out 2; have hfz6_3 := blk_frozen BK1033.out 3) | ((with_reducible refine gate_callee (f := 23) rfl ?_); refine gL (some 8) Try.func23 #[.slice A0_0 l0_0.length c0_0, .int .i64 a1] ?_; (with_reducible refine (laws_heldIntS.calls k _ _ l0_0 a1 t1034 _ ?side1 ?side2 A3.out).mono ?_); (case side1 => exact cB HR0_0); (case side2 => exact HC0_0.out); rintro e w' ⟨rfl, ⟨nd, rfl⟩⟩; refine ⟨_, rfl, ?_⟩))
    go_ret
    exact ⟨rA, bG⟩
  · rw [if_neg c4] at H
    have c4b0 : decide (t1034 < 0) = false := decide_eq_false c4
    clear c4
    obtain ⟨t1035, A7, H⟩ := bindE H
    try dsimp only at H
    by_cases c8 : t1035 < 0
    · rw [if_pos c8] at H
      have c8b0 : decide (t1035 < 0) = true := decide_eq_true c8
      clear c8
      obtain rfl := Option.some.inj H
      go_enter Try.func66, Try.ntmps66
      go_wp2_with (first | ((with_reducible refine gate_dst (N := 2) rfl ?_); refine bE (N := 2) (cs := #[.slice A0_0 l0_0.length c0_0, .int .i64 a0_1, .slice A0_2 l0_2.length c0_2, .int .i64 a0_3]) (t := 70) ?_; intro gb1033 hg w9 hbox hb; have n0_ := Aside0.mk (below_step bA hb); have n1_ := Aside0.mk (hbox); have n2_ := Aside0.mk ((by rw [hg]; exact (below_size bA) : w.heap.size ≤ gb1033)); have n3_ := Aside0.mk ((by rw [hg]; exact (below_size bA) : w.heap.size ≤ gb1033)); clear HB; have HB := n0_; have BK1033 := n1_; have GW1033 := n2_; have GE1033 := n3_; clear n0_ n1_ n2_ n3_; clear hb hbox hg; have hcz10_0 : w9.cell? ⟨gb1033, 0, none⟩ = some (.slice A0_0 l0_0.length c0_0) := (blk_cell BK1033.out 0).trans rfl; have hcz10_1 : w9.cell? ⟨gb1033, 1, none⟩ = some (.int .i64 a0_1) := (blk_cell BK1033.out 1).trans rfl; have hcz10_2 : w9.cell? ⟨gb1033, 2, none⟩ = some (.slice A0_2 l0_2.length c0_2) := (blk_cell BK1033.out 2).trans rfl; have hcz10_3 : w9.cell? ⟨gb1033, 3, none⟩ = some (.int .i64 a0_3) := (blk_cell BK1033.out 3).trans rfl; have hfz10_0 := blk_frozen BK1033.out 0; have hfz10_1 := blk_frozen BK1033.out 1; have hfz10_2 := blk_frozen BK1033.out 2; have hfz10_3 := blk_frozen BK1033.out 3) | ((with_reducible refine gate_callee (f := 23) rfl ?_); refine gL (some 8) Try.func23 #[.slice A0_0 l0_0.length c0_0, .int .i64 a1] ?_; (with_reducible refine (laws_heldIntS.calls k _ _ l0_0 a1 t1034 _ ?side1 ?side2 A3.out).mono ?_); (case side1 => exact cB HR0_0); (case side2 => exact HC0_0.out); rintro e w' ⟨rfl, ⟨nd, rfl⟩⟩; refine ⟨_, rfl, ?_⟩) | ((with_reducible refine gate_callee (f := 23) rfl ?_); refine gL (some 14) Try.func23 #[.slice A0_2 l0_2.length c0_2, .int .i64 t1034] ?_; (with_reducible refine (laws_heldIntS.calls k _ _ l0_2 t1034 t1035 _ ?side1 ?side2 A7.out).mono ?_); (case side1 => exact cG HR0_2); (case side2 => exact HC0_2.out); rintro e w' ⟨rfl, ⟨nd, rfl⟩⟩; refine ⟨_, rfl, ?_⟩))
      go_ret
      exact ⟨rA, bG⟩
    · rw [if_neg c8] at H
      have c8b0 : decide (t1035 < 0) = false := decide_eq_false c8
      clear c8
      obtain rfl := Option.some.inj H
      go_enter Try.func66, Try.ntmps66
      go_wp2_with (first | ((with_reducible refine gate_dst (N := 2) rfl ?_); refine bE (N := 2) (cs := #[.slice A0_0 l0_0.length c0_0, .int .i64 a0_1, .slice A0_2 l0_2.length c0_2, .int .i64 a0_3]) (t := 70) ?_; intro gb1033 hg w11 hbox hb; have n0_ := Aside0.mk (below_step bA hb); have n1_ := Aside0.mk (hbox); have n2_ := Aside0.mk ((by rw [hg]; exact (below_size bA) : w.heap.size ≤ gb1033)); have n3_ := Aside0.mk ((by rw [hg]; exact (below_size bA) : w.heap.size ≤ gb1033)); clear HB; have HB := n0_; have BK1033 := n1_; have GW1033 := n2_; have GE1033 := n3_; clear n0_ n1_ n2_ n3_; clear hb hbox hg; have hcz12_0 : w11.cell? ⟨gb1033, 0, none⟩ = some (.slice A0_0 l0_0.length c0_0) := (blk_cell BK1033.out 0).trans rfl; have hcz12_1 : w11.cell? ⟨gb1033, 1, none⟩ = some (.int .i64 a0_1) := (blk_cell BK1033.out 1).trans rfl; have hcz12_2 : w11.cell? ⟨gb1033, 2, none⟩ = some (.slice A0_2 l0_2.length c0_2) := (blk_cell BK1033.out 2).trans rfl; have hcz12_3 : w11.cell? ⟨gb1033, 3, none⟩ = some (.int .i64 a0_3) := (blk_cell BK1033.out 3).trans rfl; have hfz12_0 := blk_frozen BK1033.out 0; have hfz12_1 := blk_frozen BK1033.out 1; have hfz12_2 := blk_frozen BK1033.out 2; have hfz12_3 := blk_frozen BK1033.out 3) | ((with_reducible refine gate_callee (f := 23) rfl ?_); refine gL (some 8) Try.func23 #[.slice A0_0 l0_0.length c0_0, .int .i64 a1] ?_; (with_reducible refine (laws_heldIntS.calls k _ _ l0_0 a1 t1034 _ ?side1 ?side2 A3.out).mono ?_); (case side1 => exact cB HR0_0); (case side2 => exact HC0_0.out); rintro e w' ⟨rfl, ⟨nd, rfl⟩⟩; refine ⟨_, rfl, ?_⟩) | ((with_reducible refine gate_callee (f := 23) rfl ?_); refine gL (some 14) Try.func23 #[.slice A0_2 l0_2.length c0_2, .int .i64 t1034] ?_; (with_reducible refine (laws_heldIntS.calls k _ _ l0_2 t1034 t1035 _ ?side1 ?side2 A7.out).mono ?_); (case side1 => exact cG HR0_2); (case side2 => exact HC0_2.out); rintro e w' ⟨rfl, ⟨nd, rfl⟩⟩; refine ⟨_, rfl, ?_⟩))
      go_ret
      exact ⟨rA, bG⟩

end Go.Proofs.Ytimmadeghcghoaa.P
