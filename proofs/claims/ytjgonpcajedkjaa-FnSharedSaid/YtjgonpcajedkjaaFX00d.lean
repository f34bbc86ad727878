/- Printed by myprint.py (wip/tools) over the kit's print: what Go's functions compute, and that they do. Lean checks it. -/
import Derived.Test.YtjgonpcajedkjaaF0
import Derived.Test.YtjgonpcajedkjaaFX00
import Derived.Test.YtjgonpcajedkjaaFX00b
import Derived.Test.YtjgonpcajedkjaaFX00c
namespace Go.Proofs.Ytjgonpcajedkjaa.P
open Go.RowKit Go.Proofs.YtjgonpcajedkjaaW.PrintWords Go.Proofs.YtjgonpcajedkjaaW.PrintLast Go.Proofs.YtjgonpcajedkjaaW.PrintMore Go.Proofs.Ytjgonpcajedkjaa.Sq
attribute [local go_sem] max2_int min2_int max_two min_two max_three min_three max_four min_four
set_option linter.unusedVariables false
set_option linter.unusedSimpArgs false

/-! ### spec_DrawShareGreen: function 51 -/
def spec_DrawShareGreen.f (k : Nat) (l0 : List Int) : Option ((List (S50)) × (List (S85)) × (List (S120)) × Int) := (spec_DrawSpareGreen.f k l0).bind fun bt539 => ((spec_l1New.f k l0).bind fun bt546 => ((spec_l10Draw.f k bt546.1 bt546.2.1 bt546.2.2 bt539.1).bind fun bt550 => ((spec_l1Once.f bt546.1 bt550.2.1 bt550.2.2 8).bind fun bt555 => (if bt555.1 = true then (if bt550.1.length < 4398046511104 then (some (bt539.1, bt539.2.1, (bt550.1 ++ [(⟨99, 0, 0, false⟩ : S120)]), bt539.2.2)) else (none)) else (some (bt539.1, bt539.2.1, bt550.1, bt539.2.2))))))
theorem spec_DrawShareGreen.mono : ∀ a0 k, LeO (spec_DrawShareGreen.f k a0) (spec_DrawShareGreen.f (k + 1) a0) := by
 intro a0 k
 unfold spec_DrawShareGreen.f
 exact mz3 spec_DrawSpareGreen.mono spec_l10Draw.mono spec_l1New.mono
set_option maxHeartbeats 8000000 in
set_option maxRecDepth 100000 in
theorem spec_DrawShareGreen.calls (k : Nat) (A0 : Option Addr) (c0 : Nat) (l0 : List Int) (r1 : List (S50)) (r2 : List (S85)) (r3 : List (S120)) (r4 : Int) (w : World) (hr0 : Kd.C (Kd.int .u8) w A0 l0.length l0) (hc0 : l0.length ≤ c0) (h : spec_DrawShareGreen.f k l0 = some (r1, r2, r3, r4)) :
  Calls Try.prog 51 #[.slice A0 l0.length c0] w fun e w' => ∃ v0_ v1_ v2_ : Value, e = .returned (.tuple #[v0_, v1_, v2_, .int .i64 r4]) ∧ Kd.R k50 50 w' w.heap.size (fun k_ => (w.heap.size ≤ k_)) v0_ r1 ∧ Kd.V k85 85 w' w.heap.size (fun k_ => (w.heap.size ≤ k_) ∧ some k_ ≠ (v0_ : Value).ownBlock ∧ some k_ ≠ (v2_ : Value).ownBlock) v1_ r2 ∧ Kd.R k120 120 w' w.heap.size (fun k_ => (w.heap.size ≤ k_)) v2_ r3 ∧ Below w.heap.size w w' := by
 have hu120 := Try.underlying120
 have HR0 := Aside0.mk hr0
 have HC0 := Aside0.mk hc0
 clear hr0 hc0
 have HB := Aside0.mk (Below.refl w.heap.size w)
 have H : ((spec_DrawSpareGreen.f k l0).bind fun bt539 => ((spec_l1New.f k l0).bind fun bt546 => ((spec_l10Draw.f k bt546.1 bt546.2.1 bt546.2.2 bt539.1).bind fun bt550 => ((spec_l1Once.f bt546.1 bt550.2.1 bt550.2.2 8).bind fun bt555 => (if bt555.1 = true then (if bt550.1.length < 4398046511104 then (some (bt539.1, bt539.2.1, (bt550.1 ++ [(⟨99, 0, 0, false⟩ : S120)]), bt539.2.2)) else (none)) else (some (bt539.1, bt539.2.1, bt550.1, bt539.2.2))))))) = some (r1, r2, r3, r4) := h
 clear h
 obtain ⟨⟨t539, t542, t545⟩, A2, H⟩ := bindE H
 try dsimp only at H
 obtain ⟨⟨t546, t547, t548⟩, A3, H⟩ := bindE H
 try dsimp only at H
 obtain ⟨⟨t550, t553, t554⟩, A4, H⟩ := bindE H
 try dsimp only at H
 obtain ⟨⟨t555, t556, t557⟩, A5, H⟩ := bindE H
 try dsimp only at H
 by_cases c6 : t555 = true
 ·
  subst c6
  have H1 : (if t550.length < 4398046511104 then (some (t539, t542, (t550 ++ [(⟨99, 0, 0, false⟩ : S120)]), t545)) else (none)) = some (r1, r2, r3, r4) := by rw [if_pos rfl] at H; exact H
  clear H
  have H := H1
  clear H1
  have c7 : t550.length < 4398046511104 := ifN H
  replace H := ifT H
  have LMc7 := Aside0.mk c7
  clear c7
  obtain ⟨y558, hy558⟩ : ∃ y_ : List (S120), y_ = (t550 ++ [(⟨99, 0, 0, false⟩ : S120)]) := ⟨_, rfl⟩
  replace H : (some (t539, t542, y558, t545)) = some (r1, r2, r3, r4) := rH H hy558
  have Ny558 := Aside0.mk hy558
  clear hy558
  simp only [Option.some.injEq, Prod.mk.injEq] at H
  obtain ⟨rfl, rfl, rfl, rfl⟩ := H
  go_enter Try.func51, Try.ntmps51
  go_wp2_with (first | ((with_reducible refine gate_callee (f := 103) rfl ?_); refine gL (some 13) Try.func103 #[.slice A0 l0.length c0] ?_; (with_reducible refine (spec_DrawSpareGreen.calls k _ _ l0 t539 t542 t545 _ ?_ ?_ A2.out).mono ?_); exact cO HR0; exact HC0.out; rintro e w8 ⟨v540, v543, rfl, ho0, ho1, hb⟩; refine ⟨_, rfl, ?_⟩; have HO541 := rl w (Kd.R_newM (M := fun k_ => (w.heap.size ≤ k_)) (Kd.R_mono (ok' := fun k_ => True) ho0 (fun _ hk_ => trivial)) (below_size bA) (fun k_ h_ => h_)); have HO544 := Aside0.mk (Kd.V_lower (Kd.V_mono (ok' := fun k_ => (w.heap.size ≤ k_) ∧ some k_ ≠ (v540 : Value).ownBlock) ho1 (fun k_ hk_ => ⟨(Nat.le_trans (below_size bA) hk_.1), hk_.2⟩)) (below_size bA)); replace HB := bs HB hb; (try clear hb); (try clear ho0); (try clear ho1)) | ((with_reducible refine gate_callee (f := 81) rfl ?_); refine gL (some 18) Try.func81 #[.slice A0 l0.length c0] ?_; (with_reducible refine (spec_l1New.calls k _ _ l0 t546 t547 t548 w _ ?_ ?_ ?_ A3.out).mono ?_); exact sB0 HB.out; exact HR0.out; exact HC0.out; rintro e w9 ⟨g549, rfl, hi, hb, hb2, hge_⟩; refine ⟨_, rfl, ?_⟩; have n0_ := rb HO541 hb2; have n1_ := Aside0.mk (Kd.V_below (Kd.V_elderB (by (with_reducible repeat (first | apply Kd.V_alloc | apply Kd.V_drewN | apply Kd.V_drew)); exact HO544.out) g549 hge_) hb2); have n2_ := Aside0.mk (hb); have n3_ := Aside0.mk (hi); clear HO541; clear HO544; clear HB; have HO541 := n0_; have HO544 := n1_; have HB := n2_; have HI549 := n3_; clear n0_ n1_ n2_ n3_; (try clear hb); (try clear hb2); (try clear hi); (try clear hge_); obtain ⟨Ao10, co10, eo10⟩ := Kd.R_slice HO541.out; subst eo10) | ((with_reducible refine gate_callee (f := 104) rfl ?_); refine gL (some 21) Try.func104 #[.pointer (some ⟨g549, 0, none⟩), .slice Ao10 t539.length co10] ?_; (with_reducible refine (spec_l10Draw.calls k g549 t546 t547 t548 _ _ t539 t550 t553 t554 w _ ?_ ?_ ?_ ?_ A4.out).mono ?_); exact sI1380 HI549.out; exact sB1 HB.out (IsS138.ge HI549.out); exact Kd.C_foot_own (IsS138.apart (show IsS138 w _ g549 t546 t547 t548 from by exact sI1380 HI549.out) (rK HO541) (by decide)) (fun _ h_ => h_.2); exact (Kd.R_reads' HO541.out).2.1; rintro e w11 ⟨v551, rfl, ho0, hi, hb, hk⟩; refine ⟨_, rfl, ?_⟩; have n0_ := Aside0.mk (Kd.R_mono (Kd.R_keep (IsS138.apart (show IsS138 w _ g549 t546 t547 t548 from by exact sI1380 HI549.out) (rK HO541) (by decide)) hk (fun _ h => h.2)) (fun _ h => h.1)); have n1_ := Aside0.mk (Kd.V_mono (Kd.V_told (Kd.V_oldK (Kd.V_mono (ok := fun k_ => ((((w.heap.size ≤ k_)) ∧ some k_ ≠ (.slice Ao10 t539.length co10 : Value).ownBlock) ∧ k_ ≠ g549)) (by (with_reducible repeat (first | apply Kd.V_alloc | apply Kd.V_drewN | apply Kd.V_drew)); exact HO544.out) (fun k_ hk_ => (⟨hk_, hk_.2⟩ : _ ∧ k_ ≠ g549))) hk) (Kd.R_base ho0)) (fun _ h_ => h_.1)); have n2_ := Aside0.mk (Kd.R_lower (Kd.R_newM (M := fun k_ => (w.heap.size ≤ k_)) ho0 (below_size (by exact sB1 HB.out (IsS138.ge HI549.out))) (fun k_ h_ => h_)) (below_size (by exact sB1 HB.out (IsS138.ge HI549.out)))); have n3_ := Aside0.mk (hb); have n4_ := Aside0.mk (hi); clear HO541; clear HO544; clear HB; clear HI549; have HO541 := n0_; have HO544 := n1_; have HO552 := n2_; have HB := n3_; have HI549 := n4_; clear n0_ n1_ n2_ n3_ n4_; (try clear hb); (try clear hk); (try clear hi); (try clear ho0)) | ((with_reducible refine gate_callee (f := 93) rfl ?_); refine gL (some 23) Try.func93 #[.pointer (some ⟨g549, 0, none⟩), .int .i64 8] ?_; (with_reducible refine (spec_l1Once.calls g549 t546 t553 t554 8 true t556 t557 w _ ?_ ?_ A5.out).mono ?_); exact sI1380 HI549.out; exact sB1 HB.out (IsS138.ge HI549.out); rintro e w12 ⟨rfl, hi, hb, hk⟩; refine ⟨_, rfl, ?_⟩; have n0_ := Aside0.mk (Kd.R_mono (Kd.R_keep (IsS138.apart (show IsS138 w _ g549 t546 t553 t554 from by exact sI1380 HI549.out) (rK HO541) (by decide)) hk (fun _ h => h.2)) (fun _ h => h.1)); have n1_ := Aside0.mk (Kd.V_mono (Kd.V_keep (Kd.V_mono (ok := fun k_ => (((((w.heap.size ≤ k_)) ∧ some k_ ≠ (.slice Ao10 t539.length co10 : Value).ownBlock) ∧ k_ ≠ g549) ∧ some k_ ≠ (v551 : Value).ownBlock)) (by (with_reducible repeat (first | apply Kd.V_alloc | apply Kd.V_drewN | apply Kd.V_drew)); exact HO544.out) (fun k_ hk_ => (⟨hk_, hk_.1.2⟩ : _ ∧ k_ ≠ g549))) hk (fun _ h => h.2)) (fun _ h => h.1)); have n2_ := Aside0.mk (Kd.R_mono (Kd.R_keep (IsS138.apart (show IsS138 w _ g549 t546 t553 t554 from by exact sI1380 HI549.out) (rK HO552) (by decide)) hk (fun _ h => h.2)) (fun _ h => h.1)); have n3_ := Aside0.mk (hb); have n4_ := Aside0.mk (hi); clear HO541; clear HO544; clear HO552; clear HB; clear HI549; have HO541 := n0_; have HO544 := n1_; have HO552 := n2_; have HB := n3_; have HI549 := n4_; clear n0_ n1_ n2_ n3_ n4_; (try clear hb); (try clear hk); (try clear hi)) | ((with_reducible refine gate_builtin (b := .append) (xs := #[.tmp 24, .tmp 26]) rfl ?_); at_builtin; refine Kd.R_append k120 (w0 := w) w.heap.size rfl (.tmp 24) (.tmp 26) 43 120 (.agg #[(.int .i64 0), (.int .i64 0), (.int .i64 0), (.bool false)]) 32 rfl Try.underlying43 info120 rfl (by decide) (by omega) v551 t550 (⟨99, 0, 0, false⟩ : S120) [.int .i64 99, .int .i64 0, .int .i64 0, .bool false] (fun k_ => (w.heap.size ≤ k_)) (fun _ => False) rfl rfl ?aP (fun _ hk => hk.elim) ?aF ?aO ?aB ?aS ?aL ?_; (case aP => exact k120_mkM _ _ _ (⟨99, 0, 0, false⟩ : S120)); (case aB => exact (by exact sB1 HB.out (IsS138.ge HI549.out))); (case aF => exact (fun k_ hk => (Nat.le_trans (below_size (by exact sB1 HB.out (IsS138.ge HI549.out))) hk))); (case aO => exact (rm HO552 (fun _ hk => hk.1))); (case aS => exact (below_size (by exact sB1 HB.out (IsS138.ge HI549.out)))); (case aL => have := LMc7.out; omega); intro v559 w13 ho hb hg hat; rw [← Ny558.out] at ho; have n0_ := Aside0.mk (Kd.R_over' (rK HO541) (Kd.R_typed (rK HO552)) (by decide) hg); have n1_ := Aside0.mk (Kd.V_afterv (ok := (fun k_ => (w.heap.size ≤ k_) ∧ some k_ ≠ (.slice Ao10 t539.length co10 : Value).ownBlock ∧ k_ ≠ g549)) (by (with_reducible repeat (first | apply Kd.V_alloc | apply Kd.V_drewN | apply Kd.V_drew)); exact Kd.V_mono HO544.out (fun _ hk => ⟨⟨hk.1.1.1, ⟨hk.1.1.2, hk.1.2⟩⟩, hk.2⟩)) hg hat); have n2_ := Aside0.mk (IsS138.grown (by exact sI1380 HI549.out) hg (IsS138.own_ne HI549.out HO552.out (by decide))); have n3_ := Aside0.mk (hb); have n4_ := Aside0.mk (ho); clear HO541; clear HO544; clear HI549; clear HB; clear HO552; have HO541 := n0_; have HO544 := n1_; have HI549 := n2_; have HB := n3_; have HO560 := n4_; clear n0_ n1_ n2_ n3_ n4_; clear ho hb hg hat))
  refine bodyPost_ret (results_list (rs := [.tmp 2, .tmp 3, .tmp 4, .tmp 5]) rfl (by simp) (.tmp (.tmp (.tmp (.tmp .nil))))) rfl ?_
  exact ⟨_, _, _, rA, rm HO541 (fun _ hk => hk.1), by (with_reducible repeat (first | apply Kd.V_alloc | apply Kd.V_drewN | apply Kd.V_drew)); exact Kd.V_mono HO544.out (fun _ hk => ⟨hk.1.1, ⟨hk.1.2.1, hk.2⟩⟩), rK HO560, by exact sB1 HB.out (IsS138.ge HI549.out)⟩
 replace c6 := Bool.eq_false_iff.mpr c6
 subst c6
 have H1 : (some (t539, t542, t550, t545)) = some (r1, r2, r3, r4) := by rw [if_neg (show ¬ (false = true) by decide)] at H; exact H
 clear H
 have H := H1
 clear H1
 simp only [Option.some.injEq, Prod.mk.injEq] at H
 obtain ⟨rfl, rfl, rfl, rfl⟩ := H
 go_enter Try.func51, Try.ntmps51
 go_wp2_with (first | ((with_reducible refine gate_callee (f := 103) rfl ?_); refine gL (some 13) Try.func103 #[.slice A0 l0.length c0] ?_; (with_reducible refine (spec_DrawSpareGreen.calls k _ _ l0 t539 t542 t545 _ ?_ ?_ A2.out).mono ?_); exact cO HR0; exact HC0.out; rintro e w14 ⟨v540, v543, rfl, ho0, ho1, hb⟩; refine ⟨_, rfl, ?_⟩; have HO541 := rl w (Kd.R_newM (M := fun k_ => (w.heap.size ≤ k_)) (Kd.R_mono (ok' := fun k_ => True) ho0 (fun _ hk_ => trivial)) (below_size bA) (fun k_ h_ => h_)); have HO544 := Aside0.mk (Kd.V_lower (Kd.V_mono (ok' := fun k_ => (w.heap.size ≤ k_) ∧ some k_ ≠ (v540 : Value).ownBlock) ho1 (fun k_ hk_ => ⟨(Nat.le_trans (below_size bA) hk_.1), hk_.2⟩)) (below_size bA)); replace HB := bs HB hb; (try clear hb); (try clear ho0); (try clear ho1)) | ((with_reducible refine gate_callee (f := 81) rfl ?_); refine gL (some 18) Try.func81 #[.slice A0 l0.length c0] ?_; (with_reducible refine (spec_l1New.calls k _ _ l0 t546 t547 t548 w _ ?_ ?_ ?_ A3.out).mono ?_); exact sB0 HB.out; exact HR0.out; exact HC0.out; rintro e w15 ⟨g549, rfl, hi, hb, hb2, hge_⟩; refine ⟨_, rfl, ?_⟩; have n0_ := rb HO541 hb2; have n1_ := Aside0.mk (Kd.V_below (Kd.V_elderB (by (with_reducible repeat (first | apply Kd.V_alloc | apply Kd.V_drewN | apply Kd.V_drew)); exact HO544.out) g549 hge_) hb2); have n2_ := Aside0.mk (hb); have n3_ := Aside0.mk (hi); clear HO541; clear HO544; clear HB; have HO541 := n0_; have HO544 := n1_; have HB := n2_; have HI549 := n3_; clear n0_ n1_ n2_ n3_; (try clear hb); (try clear hb2); (try clear hi); (try clear hge_); obtain ⟨Ao16, co16, eo16⟩ := Kd.R_slice HO541.out; subst eo16) | ((with_reducible refine gate_callee (f := 104) rfl ?_); refine gL (some 21) Try.func104 #[.pointer (some ⟨g549, 0, none⟩), .slice Ao16 t539.length co16] ?_; (with_reducible refine (spec_l10Draw.calls k g549 t546 t547 t548 _ _ t539 t550 t553 t554 w _ ?_ ?_ ?_ ?_ A4.out).mono ?_); exact sI1380 HI549.out; exact sB1 HB.out (IsS138.ge HI549.out); exact Kd.C_foot_own (IsS138.apart (show IsS138 w _ g549 t546 t547 t548 from by exact sI1380 HI549.out) (rK HO541) (by decide)) (fun _ h_ => h_.2); exact (Kd.R_reads' HO541.out).2.1; rintro e w17 ⟨v551, rfl, ho0, hi, hb, hk⟩; refine ⟨_, rfl, ?_⟩; have n0_ := Aside0.mk (Kd.R_mono (Kd.R_keep (IsS138.apart (show IsS138 w _ g549 t546 t547 t548 from by exact sI1380 HI549.out) (rK HO541) (by decide)) hk (fun _ h => h.2)) (fun _ h => h.1)); have n1_ := Aside0.mk (Kd.V_mono (Kd.V_told (Kd.V_oldK (Kd.V_mono (ok := fun k_ => ((((w.heap.size ≤ k_)) ∧ some k_ ≠ (.slice Ao16 t539.length co16 : Value).ownBlock) ∧ k_ ≠ g549)) (by (with_reducible repeat (first | apply Kd.V_alloc | apply Kd.V_drewN | apply Kd.V_drew)); exact HO544.out) (fun k_ hk_ => (⟨hk_, hk_.2⟩ : _ ∧ k_ ≠ g549))) hk) (Kd.R_base ho0)) (fun _ h_ => h_.1)); have n2_ := Aside0.mk (Kd.R_lower (Kd.R_newM (M := fun k_ => (w.heap.size ≤ k_)) ho0 (below_size (by exact sB1 HB.out (IsS138.ge HI549.out))) (fun k_ h_ => h_)) (below_size (by exact sB1 HB.out (IsS138.ge HI549.out)))); have n3_ := Aside0.mk (hb); have n4_ := Aside0.mk (hi); clear HO541; clear HO544; clear HB; clear HI549; have HO541 := n0_; have HO544 := n1_; have HO552 := n2_; have HB := n3_; have HI549 := n4_; clear n0_ n1_ n2_ n3_ n4_; (try clear hb); (try clear hk); (try clear hi); (try clear ho0)) | ((with_reducible refine gate_callee (f := 93) rfl ?_); refine gL (some 23) Try.func93 #[.pointer (some ⟨g549, 0, none⟩), .int .i64 8] ?_; (with_reducible refine (spec_l1Once.calls g549 t546 t553 t554 8 false t556 t557 w _ ?_ ?_ A5.out).mono ?_); exact sI1380 HI549.out; exact sB1 HB.out (IsS138.ge HI549.out); rintro e w18 ⟨rfl, hi, hb, hk⟩; refine ⟨_, rfl, ?_⟩; have n0_ := Aside0.mk (Kd.R_mono (Kd.R_keep (IsS138.apart (show IsS138 w _ g549 t546 t553 t554 from by exact sI1380 HI549.out) (rK HO541) (by decide)) hk (fun _ h => h.2)) (fun _ h => h.1)); have n1_ := Aside0.mk (Kd.V_mono (Kd.V_keep (Kd.V_mono (ok := fun k_ => (((((w.heap.size ≤ k_)) ∧ some k_ ≠ (.slice Ao16 t539.length co16 : Value).ownBlock) ∧ k_ ≠ g549) ∧ some k_ ≠ (v551 : Value).ownBlock)) (by (with_reducible repeat (first | apply Kd.V_alloc | apply Kd.V_drewN | apply Kd.V_drew)); exact HO544.out) (fun k_ hk_ => (⟨hk_, hk_.1.2⟩ : _ ∧ k_ ≠ g549))) hk (fun _ h => h.2)) (fun _ h => h.1)); have n2_ := Aside0.mk (Kd.R_mono (Kd.R_keep (IsS138.apart (show IsS138 w _ g549 t546 t553 t554 from by exact sI1380 HI549.out) (rK HO552) (by decide)) hk (fun _ h => h.2)) (fun _ h => h.1)); have n3_ := Aside0.mk (hb); have n4_ := Aside0.mk (hi); clear HO541; clear HO544; clear HO552; clear HB; clear HI549; have HO541 := n0_; have HO544 := n1_; have HO552 := n2_; have HB := n3_; have HI549 := n4_; clear n0_ n1_ n2_ n3_ n4_; (try clear hb); (try clear hk); (try clear hi)))
 refine bodyPost_ret (results_list (rs := [.tmp 2, .tmp 3, .tmp 4, .tmp 5]) rfl (by simp) (.tmp (.tmp (.tmp (.tmp .nil))))) rfl ?_
 exact ⟨_, _, _, rA, rm HO541 (fun _ hk => hk.1), by (with_reducible repeat (first | apply Kd.V_alloc | apply Kd.V_drewN | apply Kd.V_drew)); exact Kd.V_mono HO544.out (fun _ hk => ⟨hk.1.1.1, ⟨hk.1.1.2, hk.2⟩⟩), rm HO552 (fun _ hk => hk.1), by exact sB1 HB.out (IsS138.ge HI549.out)⟩

/-! ### impl_trusted: function 88 -/
set_option maxHeartbeats 8000000 in
set_option maxRecDepth 100000 in
theorem impl_trusted.isT (a b c : Int) (d : Bool) (w : World) :
  Calls Try.prog 132 #[.agg #[.int .i64 a, .int .i64 b, .int .i64 c, .bool d]] w fun e w' => e = .returned (.bool (!d && decide (c ≤ 900))) ∧ Below w.heap.size w w' := by
 have hu := Try.underlying120
 cases d with
 | true =>
  go_enter Try.func132, Try.ntmps132
  go_wp2
  go_ret
  exact ⟨rfl, (Below.refl _ _).alloc (Nat.le_refl _) _⟩
 | false =>
  go_enter Try.func132, Try.ntmps132
  go_wp2
  go_ret
  exact ⟨by simp, (Below.refl _ _).alloc (Nat.le_refl _) _⟩
def impl_trusted.q (id : Int) (x : S120) : Bool := decide (x.f0 = id) && (!x.f3 && decide (x.f2 ≤ 900))
set_option maxHeartbeats 400000 in
set_option maxRecDepth 100000 in
theorem impl_trusted.clo (id : Int) (g : Nat) (x : S120) (w : World) (hc : w.cell? ⟨g, 0, none⟩ = some (.int .i64 id)) :
  Calls Try.prog 131 #[.agg #[.int .i64 x.f0, .int .i64 x.f1, .int .i64 x.f2, .bool x.f3], .pointer (some ⟨g, 0, none⟩)] w fun e w' => e = .returned (.bool (impl_trusted.q id x)) ∧ Below w.heap.size w w' := by
 have hu := Try.underlying120
 have hg : g < w.heap.size := World.block_lt_of_cell? w _ hc
 by_cases h0 : x.f0 = id
 ·
  have h0b : (x.f0 == id) = true := beq_iff_eq.mpr h0
  have h0c : decide (x.f0 = id) = true := decide_eq_true h0
  have HQ := Aside0.mk h0
  clear h0
  go_enter Try.func131, Try.ntmps131
  go_wp2_with (go_at_call 132; refine (impl_trusted.isT _ _ _ _ _).mono ?_; rintro e w1 ⟨rfl, hb1⟩)
  go_ret
  exact ⟨by simp [impl_trusted.q, HQ.out], below_step (below_alloc (Below.refl _ _) _) hb1⟩
 ·
  have h0b : (x.f0 == id) = false := beq_eq_false_iff_ne.mpr h0
  have h0c : decide (x.f0 = id) = false := decide_eq_false h0
  have HQ := Aside0.mk h0
  clear h0
  go_enter Try.func131, Try.ntmps131
  go_wp2
  go_ret
  exact ⟨by simp [impl_trusted.q, HQ.out], (Below.refl _ _).alloc (Nat.le_refl _) _⟩
def impl_trusted.ix (id : Int) : List S120 → Int → Int
 | [], _ => -1
 | x :: l, i => if impl_trusted.q id x = true then i else impl_trusted.ix id l (i + 1)
theorem impl_trusted.ix_hit (id : Int) : ∀ (l : List S120) (i : Int) (m : Nat) (hm : m < l.length), (∀ j (hj : j < m), impl_trusted.q id (l[j]'(by omega)) = false) → impl_trusted.q id l[m] = true → impl_trusted.ix id l i = i + m
 | [], i, m, hm, _, _ => absurd hm (by simp)
 | p :: l, i, 0, hm, _, h => by
  unfold impl_trusted.ix
  rw [if_pos (show impl_trusted.q id p = true from h)]
  simp
 | p :: l, i, m + 1, hm, hne, h => by
  unfold impl_trusted.ix
  have h2 : impl_trusted.q id p = false := hne 0 (by omega)
  rw [if_neg (by rw [h2]; decide), impl_trusted.ix_hit id l (i + 1) m (by simpa using hm) (fun j hj => hne (j + 1) (by omega)) h]
  omega
theorem impl_trusted.ix_miss (id : Int) : ∀ (l : List S120) (i : Int), (∀ j (hj : j < l.length), impl_trusted.q id l[j] = false) → impl_trusted.ix id l i = -1
 | [], i, _ => rfl
 | p :: l, i, h => by
  unfold impl_trusted.ix
  have h2 : impl_trusted.q id p = false := h 0 (by simp)
  rw [if_neg (by rw [h2]; decide), impl_trusted.ix_miss id l (i + 1) (fun j hj => h (j + 1) (by simpa using hj))]
theorem impl_trusted.rd_ (l : List S120) (j : Nat) (hj : j < l.length) : rd_T120 l (j : Int) = l[j] := by
 unfold rd_T120; simp [List.getD_eq_getElem?_getD, List.getElem?_eq_getElem hj]
set_option maxHeartbeats 4000000 in
set_option maxRecDepth 100000 in
theorem impl_trusted.idx (id : Int) (g : Nat) (A0 : Option Addr) (c0 : Nat) (l0 : List S120) (w : World) (hr0 : Kd.C k120 w A0 l0.length l0) (hc0 : l0.length ≤ c0) (hc : w.cell? ⟨g, 0, none⟩ = some (.int .i64 id)) :
  Calls Try.prog 130 #[.slice A0 l0.length c0, .func (.func 131) #[] #[.pointer (some ⟨g, 0, none⟩)]] w fun e w' => e = .returned (.int .i64 (impl_trusted.ix id l0 0)) ∧ Below w.heap.size w w' := by
 have hu := Try.underlying120
 have HC := Aside0.mk hc
 clear hc
 have HR0 := Aside0.mk hr0
 have HC0 := Aside0.mk hc0
 have hlen : l0.length ≤ 9223372036854775807 := hr0.2.1
 clear hr0 hc0
 have HB := Aside0.mk (Below.refl w.heap.size w)
 go_enter Try.func130, Try.ntmps130
 go_wp2
 go_loopg [5, 8] l0.length (fun gg v5 v8 w' => ∃ kk : Nat, v8 = .int .i64 kk ∧ Aside0 (kk ≤ l0.length) ∧ Aside0 (l0.length - kk ≤ gg) ∧ Aside0 (Below w.heap.size w w') ∧ Aside0 (∀ j (hj : j < kk) (hl : j < l0.length), impl_trusted.q id l0[j] = false))
 case atStart => exact ⟨0, rfl, ⟨Nat.zero_le _⟩, ⟨by omega⟩, HB, ⟨fun j hj => absurd hj (Nat.not_lt_zero _)⟩⟩
 case round =>
  clear HB
  obtain ⟨kk, rfl, hk, hg, HB, HA⟩ := hrel
  by_cases hlt : kk < l0.length
  ·
   have hltz : decide ((kk : Int) < (l0.length : Int)) = true := decide_eq_true (by omega)
   have hltn : decide (kk < l0.length) = true := decide_eq_true hlt
   have p0 : (0 : Int) ≤ (kk : Int) := by omega
   have q0 : (kk : Int) < (l0.length : Int) := by omega
   have HE := Aside0.mk (impl_trusted.rd_ l0 kk hlt)
   obtain ⟨ad, e1, hx0, hx1, hx2, hx3⟩ := at_T120 HR0.out (kk : Int) p0 q0
   cases e1
   rw [Int.toNat_natCast] at hx0 hx1 hx2 hx3
   replace hx0 := hC HB hx0
   replace hx1 := hC HB hx1
   replace hx2 := hC HB hx2
   replace hx3 := hC HB hx3
   replace p0 := eq_true p0
   replace q0 := eq_true q0
   have hcl := fun (w' : World) (hb : Below w.heap.size w w') => impl_trusted.clo id g (rd_T120 l0 (kk : Int)) w' ((hb.cell (World.block_lt_of_cell? w _ HC.out)).trans HC.out)
   cases hq : impl_trusted.q id (rd_T120 l0 (kk : Int)) with
   | true =>
    rw [hq] at hcl
    have HCL := Aside0.mk hcl
    have HQ := Aside0.mk hq
    clear hcl hq
    go_wp2_with (go_at_call 131; refine (HCL.out _ HB.out).mono ?_; rintro e w1 ⟨rfl, hb1⟩)
    go_ret
    refine ⟨?_, below_step HB.out hb1⟩
    have hq := HQ.out
    rw [HE.out] at hq
    rw [impl_trusted.ix_hit id l0 0 kk hlt (fun j hj => HA.out j hj (by omega)) hq, Int.zero_add]
    rfl
   | false =>
    rw [hq] at hcl
    have HCL := Aside0.mk hcl
    have HQ := Aside0.mk hq
    clear hcl hq
    go_wp2_with (go_at_call 131; refine (HCL.out _ HB.out).mono ?_; rintro e w1 ⟨rfl, hb1⟩)
    go_roundg (l0.length - (kk + 1))
    case measure => have := hg.out; omega
    case rel =>
     refine ⟨kk + 1, by go_num, ⟨by omega⟩, ⟨by omega⟩, ⟨below_step HB.out hb1⟩, ⟨fun j hj hl => ?_⟩⟩
     rcases Nat.lt_or_ge j kk with h3 | h3
     ·
      exact HA.out j h3 hl
     ·
      have h4 : j = kk := by omega
      subst h4
      rw [← HE.out]
      exact HQ.out
  ·
   have hge : decide ((kk : Int) < (l0.length : Int)) = false := decide_eq_false (by omega)
   have hgen : decide (kk < l0.length) = false := decide_eq_false hlt
   go_wp2
   go_ret
   refine ⟨?_, HB.out⟩
   rw [impl_trusted.ix_miss id l0 0 (fun j hj => HA.out j (by omega) hj)]
   rfl

def impl_trusted.f (l0 : List S120) (a1 : Int) : Option Int := some (impl_trusted.ix a1 l0 0)
set_option maxHeartbeats 400000 in
set_option maxRecDepth 100000 in
theorem impl_trusted.calls (A0 : Option Addr) (c0 : Nat) (l0 : List S120) (a1 : Int) (r : Int) (w : World) (hr0 : Kd.C k120 w A0 l0.length l0) (hc0 : l0.length ≤ c0) (h : impl_trusted.f l0 a1 = some r) :
  Calls Try.prog 88 #[.slice A0 l0.length c0, .int .i64 a1] w fun e w' => e = .returned (.int .i64 r) ∧ Below w.heap.size w w' := by
 obtain rfl := Option.some.inj h
 have HR0 := Aside0.mk hr0
 have HC0 := Aside0.mk hc0
 clear hr0 hc0 h
 go_enter Try.func88, Try.ntmps88
 go_wp2_with (go_at_call 130; refine (impl_trusted.idx a1 w.heap.size A0 c0 l0 _ ?s1 HC0.out ?s2).mono ?_; (case s1 => exact Kd.C_alloc HR0.out _); (case s2 => simp); rintro e w1 ⟨rfl, hb1⟩)
 go_ret
 exact ⟨rfl, below_step (below_alloc (Below.refl _ _) _) hb1⟩

/-! ### impl_LowDemand: function 27 -/
def impl_LowDemand.f (l0 : List (S120)) (a1 : Int) : Option (Int) := (impl_trusted.f l0 a1).bind fun t561 => (if t561 < 0 then (some 0) else (if 0 ≤ t561 then (if t561 < (l0.length : Int) then (some ((rd_T120 l0 t561).f1)) else (none)) else (none)))
set_option maxHeartbeats 8000000 in
set_option maxRecDepth 100000 in
theorem impl_LowDemand.calls (A0 : Option Addr) (c0 : Nat) (l0 : List (S120)) (a1 : Int) (r : Int) (w : World) (hr0 : Kd.C k120 w A0 l0.length l0) (hc0 : l0.length ≤ c0) (h : impl_LowDemand.f l0 a1 = some r) :
  Calls Try.prog 27 #[.slice A0 l0.length c0, .int .i64 a1] w fun e w' => e = .returned (.int .i64 r) ∧ Below w.heap.size w w' := by
 have HR0 := Aside0.mk hr0
 have HC0 := Aside0.mk hc0
 clear hr0 hc0
 have HB := Aside0.mk (Below.refl w.heap.size w)
 have H : ((impl_trusted.f l0 a1).bind fun t561 => (if t561 < 0 then (some 0) else (if 0 ≤ t561 then (if t561 < (l0.length : Int) then (some ((rd_T120 l0 t561).f1)) else (none)) else (none)))) = some r := h
 clear h
 obtain ⟨t561, A3, H⟩ := bindE H
 try dsimp only at H
 by_cases c4 : t561 < 0
 ·
  rw [if_pos c4] at H
  have c4b0 := decide_eq_true c4
  clear c4
  obtain rfl := Option.some.inj H
  go_enter Try.func27, Try.ntmps27
  go_wp2_with (first | ((with_reducible refine gate_callee (f := 88) rfl ?_); refine gL (some 8) Try.func88 #[.slice A0 l0.length c0, .int .i64 a1] ?_; (with_reducible refine (impl_trusted.calls _ _ l0 a1 t561 _ ?_ ?_ A3.out).mono ?_); exact cO HR0; exact HC0.out; rintro e w5 ⟨rfl, hb⟩; refine ⟨_, rfl, ?_⟩; replace HB := bs HB hb; (try clear hb)))
  go_ret
  exact ⟨rA, bA⟩
 rw [if_neg c4] at H
 have c4b0 := decide_eq_false c4
 clear c4
 have c6 : 0 ≤ t561 := ifN H
 replace H := ifT H
 have c6b0 := decide_eq_true c6
 clear c6
 have c7 : t561 < (l0.length : Int) := ifN H
 replace H := ifT H
 have c7b0 := decide_eq_true c7
 clear c7
 obtain rfl := Option.some.inj H
 go_enter Try.func27, Try.ntmps27
 go_wp2_with (first | ((with_reducible refine gate_callee (f := 88) rfl ?_); refine gL (some 8) Try.func88 #[.slice A0 l0.length c0, .int .i64 a1] ?_; (with_reducible refine (impl_trusted.calls _ _ l0 a1 t561 _ ?_ ?_ A3.out).mono ?_); exact cO HR0; exact HC0.out; rintro e w8 ⟨rfl, hb⟩; refine ⟨_, rfl, ?_⟩; replace HB := bs HB hb; (try clear hb); have p562 : 0 ≤ (t561 : Int) := dA; have q562 : t561 < (l0.length : Int) := dA; obtain ⟨ad562, e562, hx562_0, hx562_1, hx562_2, hx562_3⟩ := at_T120 HR0.out t561 p562 q562; cases e562; replace hx562_0 := hC HB hx562_0; replace hx562_1 := hC HB hx562_1; replace hx562_2 := hC HB hx562_2; replace hx562_3 := hC HB hx562_3; replace p562 := eq_true p562; replace q562 := eq_true q562))
 go_ret
 exact ⟨rA, bA⟩

/-! ### impl_StageDemand: function 31 -/
def impl_StageDemand.l0 : Nat → List (S120) → Int → List Int → Int → Int → Option (Int)
 | 0, _, _, _, _, _ => none
 | k + 1, x0, x5, x16, x17, x18 => if x18 < x17 then (if 0 ≤ x18 then (if x18 < (x16.length : Int) then ((impl_LowDemand.f x0 (rd x16 x18)).bind fun t566 => (impl_StageDemand.l0 k x0 (mx x5 t566) x16 x17 (wrap64 (x18 + 1)))) else (none)) else (none)) else (some x5)
def impl_StageDemand.f (k : Nat) (l0 : List (S120)) (l1 : List Int) : Option (Int) := if (l1.length : Int) = 0 then (some 0) else (if 0 < (l1.length : Int) then ((impl_LowDemand.f l0 (rd l1 0)).bind fun t564 => (impl_StageDemand.l0 k l0 t564 l1 (l1.length : Int) 0)) else (none))
theorem impl_StageDemand.mono_l : ∀ k, (∀ y0 y1 y2 y3 y4, LeO (impl_StageDemand.l0 k y0 y1 y2 y3 y4) (impl_StageDemand.l0 (k + 1) y0 y1 y2 y3 y4))
 | 0 => fun _ _ _ _ _ r h => by simp [impl_StageDemand.l0] at h
 | k + 1 => by
  have ih0 := impl_StageDemand.mono_l k
  ·
   intro y0 y1 y2 y3 y4
   unfold impl_StageDemand.l0
   exact mz1 ih0
theorem impl_StageDemand.mono : ∀ a0 a1 k, LeO (impl_StageDemand.f k a0 a1) (impl_StageDemand.f (k + 1) a0 a1) := by
 intro a0 a1 k
 have ih0 := impl_StageDemand.mono_l k
 unfold impl_StageDemand.f
 exact mz1 ih0
set_option maxHeartbeats 8000000 in
set_option maxRecDepth 100000 in
theorem impl_StageDemand.calls (k : Nat) (A0 : Option Addr) (c0 : Nat) (l0 : List (S120)) (A1 : Option Addr) (c1 : Nat) (l1 : List Int) (r : Int) (w : World) (hr0 : Kd.C k120 w A0 l0.length l0) (hc0 : l0.length ≤ c0) (hr1 : Kd.C (Kd.int .i64) w A1 l1.length l1) (hc1 : l1.length ≤ c1) (h : impl_StageDemand.f k l0 l1 = some r) :
  Calls Try.prog 31 #[.slice A0 l0.length c0, .slice A1 l1.length c1] w fun e w' => e = .returned (.int .i64 r) ∧ Below w.heap.size w w' := by
 have HR0 := Aside0.mk hr0
 have HC0 := Aside0.mk hc0
 clear hr0 hc0
 have HR1 := Aside0.mk hr1
 have HC1 := Aside0.mk hc1
 clear hr1 hc1
 have HB := Aside0.mk (Below.refl w.heap.size w)
 have H : (if (l1.length : Int) = 0 then (some 0) else (if 0 < (l1.length : Int) then ((impl_LowDemand.f l0 (rd l1 0)).bind fun t564 => (impl_StageDemand.l0 k l0 t564 l1 (l1.length : Int) 0)) else (none))) = some r := h
 clear h
 by_cases c3 : (l1.length : Int) = 0
 ·
  rw [if_pos c3] at H
  have c3b0 : ((l1.length : Int) == 0) = true := beq_iff_eq.mpr c3
  have c3b1 : ((l1.length : Int) != 0) = false := bne_eq_false_iff_eq.mpr c3
  clear c3
  obtain rfl := Option.some.inj H
  go_enter Try.func31, Try.ntmps31
  go_wp2
  go_ret
  exact ⟨rA, bA⟩
 rw [if_neg c3] at H
 have c3b0 : ((l1.length : Int) == 0) = false := beq_eq_false_iff_ne.mpr c3
 have c3b1 : ((l1.length : Int) != 0) = true := bne_iff_ne.mpr c3
 have c3b2 : ¬ (l1 = []) := fun h_ => c3 (by rw [h_]; rfl)
 have c4 : 0 < (l1.length : Int) := ifN H
 replace H := ifT H
 have c4b0 := decide_eq_true c4
 have c4b1 : decide (0 < l1.length) = true := decide_eq_true (by omega)
 clear c4
 obtain ⟨t564, A5, H⟩ := bindE H
 try dsimp only at H
 have H' := Aside0.mk H
 clear H
 have p563 : 0 ≤ (0 : Int) := (by omega)
 have q563 : 0 < (l1.length : Int) := dA
 obtain ⟨ad563, e563, hx563_0⟩ := Kd.at_int HR1.out 0 p563 q563
 cases e563
 have qi563 : (0 < l1.length) = True := eq_true (by omega)
 (try rw [show ((0 : Int)).toNat = 0 from rfl] at hx563_0)
 (try rw [Addr.add_zero'] at hx563_0)
 obtain ⟨p563, q563⟩ := eT p563 q563
 go_enter Try.func31, Try.ntmps31
 go_wp2_with (first | ((with_reducible refine gate_callee (f := 27) rfl ?_); refine gL (some 15) Try.func27 #[.slice A0 l0.length c0, .int .i64 (rd l1 0)] ?_; (with_reducible refine (impl_LowDemand.calls _ _ l0 (rd l1 0) t564 _ ?_ ?_ A5.out).mono ?_); exact cO HR0; exact HC0.out; rintro e w6 ⟨rfl, hb⟩; refine ⟨_, rfl, ?_⟩; replace HB := bs HB hb; (try clear hb)))
 go_loopg [5, 18] k (fun kq v5 v18 w' => ∃ (x5_1 : Int) (x18_1 : Int), v5 = .int .i64 x5_1 ∧ v18 = .int .i64 x18_1 ∧ Aside0 (impl_StageDemand.l0 kq l0 x5_1 l1 (l1.length : Int) x18_1 = some r) ∧ Aside0 (kq ≤ k) ∧ Aside0 (Below w.heap.size w w'))
 case atStart => exact ⟨(t564), (0), rS, rS, H', ⟨Nat.le_refl _⟩, ⟨bA⟩⟩
 case round =>
  clear H'
  obtain ⟨x5_1, x18_1, rfl, rfl, HA, HK1, HB⟩ := hrel
  cases gk with
  | zero => exact absurd HA.out (by simp [impl_StageDemand.l0])
  | succ k1 =>
   have H := HA.out
   clear HA
   simp only [impl_StageDemand.l0] at H
   by_cases c7 : x18_1 < (l1.length : Int)
   ·
    rw [if_pos c7] at H
    have c7b0 := decide_eq_true c7
    clear c7
    have c8 : 0 ≤ x18_1 := ifN H
    replace H := ifT H
    have c8b0 := decide_eq_true c8
    clear c8
    have c9 : x18_1 < (l1.length : Int) := ifN H
    replace H := ifT H
    have c9b0 := decide_eq_true c9
    clear c9
    obtain ⟨t566, A10, H⟩ := bindE H
    try dsimp only at H
    obtain ⟨ji11, hji11⟩ : ∃ j_ : Int, (mx x5_1 t566) = j_ := ⟨_, rfl⟩
    replace H : (impl_StageDemand.l0 k1 l0 ji11 l1 (l1.length : Int) (wrap64 (x18_1 + 1))) = some r := by first | (rw [hji11] at H; exact H) | (simp only [hji11] at H ⊢; exact H)
    (try rw [hji11] at A10)
    have hji11_ : (if x5_1 < t566 then t566 else x5_1) = ji11 := hji11
    have H' := Aside0.mk H
    clear H
    obtain ⟨p565, q565⟩ : 0 ≤ (x18_1 : Int) ∧ x18_1 < (l1.length : Int) := ⟨dA, dA⟩
    obtain ⟨ad565, e565, hx565_0⟩ := Kd.at_int (Kd.C_below HR1.out HB.out) x18_1 p565 q565
    obtain rfl : ad563 = ad565 := (by injection e565)
    obtain ⟨p565, q565⟩ := eT p565 q565
    go_wp2_with (first | ((with_reducible refine gate_callee (f := 27) rfl ?_); refine gL (some 25) Try.func27 #[.slice A0 l0.length c0, .int .i64 (rd l1 x18_1)] ?_; (with_reducible refine (impl_LowDemand.calls _ _ l0 (rd l1 x18_1) t566 _ ?_ ?_ A10.out).mono ?_); exact cB HR0; exact HC0.out; rintro e w12 ⟨rfl, hb⟩; refine ⟨_, rfl, ?_⟩; replace HB := bs HB hb; (try clear hb)))
    go_roundg k1
    case measure => have := HK1.out; omega
    case rel => exact ⟨(ji11), (wrap64 (x18_1 + 1)), (by first | rfl | (simp; done) | (simp only [← hji11] <;> (first | rfl | simp)) | (simp [*]; done)), rS, H', ⟨by have := HK1.out; omega⟩, ⟨bA⟩⟩
   rw [if_neg c7] at H
   have c7b0 := decide_eq_false c7
   clear c7
   obtain rfl := Option.some.inj H
   go_wp2
   go_ret
   exact ⟨rA, bA⟩

/-! ### impl_ClearOf: function 120 -/
def impl_ClearOf.f (a0_0 : Int) (a0_1 : Int) (a0_2 : Int) (a0_3 : Int) : Option (Int) := (impl_IsPath.f a0_0 a0_1 a0_2 a0_3).bind fun t568 => (if t568 = true then (if a0_1 = 1 then (some 2) else (if a0_1 = 3 then (some 3) else (some 5))) else (some 0))
set_option maxHeartbeats 8000000 in
set_option maxRecDepth 100000 in
theorem impl_ClearOf.calls (a0_0 : Int) (a0_1 : Int) (a0_2 : Int) (a0_3 : Int) (r : Int) (w : World) (h : impl_ClearOf.f a0_0 a0_1 a0_2 a0_3 = some r) :
  Calls Try.prog 120 #[.agg #[.int .i64 a0_0, .int .i64 a0_1, .int .i64 a0_2, .int .i64 a0_3]] w fun e w' => e = .returned (.int .i64 r) ∧ Below w.heap.size w w' := by
 have hu50 := Try.underlying50
 have HB := Aside0.mk (Below.refl w.heap.size w)
 have H : ((impl_IsPath.f a0_0 a0_1 a0_2 a0_3).bind fun t568 => (if t568 = true then (if a0_1 = 1 then (some 2) else (if a0_1 = 3 then (some 3) else (some 5))) else (some 0))) = some r := h
 clear h
 obtain ⟨t568, A2, H⟩ := bindE H
 try dsimp only at H
 by_cases c3 : t568 = true
 ·
  subst c3
  have H1 : (if a0_1 = 1 then (some 2) else (if a0_1 = 3 then (some 3) else (some 5))) = some r := by rw [if_pos rfl] at H; exact H
  clear H
  have H := H1
  clear H1
  by_cases c4 : a0_1 = 1
  ·
   rw [if_pos c4] at H
   have c4b0 : (a0_1 == 1) = true := beq_iff_eq.mpr c4
   have c4b1 : (a0_1 != 1) = false := bne_eq_false_iff_eq.mpr c4
   clear c4
   obtain rfl := Option.some.inj H
   go_enter Try.func120, Try.ntmps120
   go_wp2_with (first | ((with_reducible refine gate_dst (N := 1) rfl ?_); refine bE (N := 1) (cs := #[.int .i64 a0_0, .int .i64 a0_1, .int .i64 a0_2, .int .i64 a0_3]) (t := 50) ?_; intro gb567 hg w5 hbox hb; have BK567 := Aside0.mk (hbox); have GW567 := gw w hg; have GE567 := gw w hg; replace HB := bs HB hb; clear hb hbox hg; have hcz6_0 : w5.cell? ⟨gb567, 0, none⟩ = some (.int .i64 a0_0) := bC BK567 0; have hcz6_1 : w5.cell? ⟨gb567, 1, none⟩ = some (.int .i64 a0_1) := bC BK567 1; have hcz6_2 : w5.cell? ⟨gb567, 2, none⟩ = some (.int .i64 a0_2) := bC BK567 2; have hcz6_3 : w5.cell? ⟨gb567, 3, none⟩ = some (.int .i64 a0_3) := bC BK567 3; have hfz6_0 := blk_frozen BK567.out 0; have hfz6_1 := blk_frozen BK567.out 1; have hfz6_2 := blk_frozen BK567.out 2; have hfz6_3 := blk_frozen BK567.out 3) | ((with_reducible refine gate_callee (f := 90) rfl ?_); refine gL (some 4) Try.func90 #[.agg #[.int .i64 a0_0, .int .i64 a0_1, .int .i64 a0_2, .int .i64 a0_3]] ?_; (with_reducible refine (impl_IsPath.calls a0_0 a0_1 a0_2 a0_3 true _ A2.out).mono ?_); rintro e w7 ⟨rfl, hb⟩; refine ⟨_, rfl, ?_⟩; replace BK567 := kb BK567 hb; replace HB := bs HB hb; (try clear hb); obtain ⟨_, _, _, _, _, _, _, _⟩ := blkc4 BK567))
   go_ret
   exact ⟨rA, bG⟩
  rw [if_neg c4] at H
  have c4b0 : (a0_1 == 1) = false := beq_eq_false_iff_ne.mpr c4
  have c4b1 : (a0_1 != 1) = true := bne_iff_ne.mpr c4
  by_cases c9 : a0_1 = 3
  ·
   rw [if_pos c9] at H
   have c9b0 : (a0_1 == 3) = true := beq_iff_eq.mpr c9
   have c9b1 : (a0_1 != 3) = false := bne_eq_false_iff_eq.mpr c9
   clear c9
   obtain rfl := Option.some.inj H
   go_enter Try.func120, Try.ntmps120
   go_wp2_with (first | ((with_reducible refine gate_dst (N := 1) rfl ?_); refine bE (N := 1) (cs := #[.int .i64 a0_0, .int .i64 a0_1, .int .i64 a0_2, .int .i64 a0_3]) (t := 50) ?_; intro gb567 hg w10 hbox hb; have BK567 := Aside0.mk (hbox); have GW567 := gw w hg; have GE567 := gw w hg; replace HB := bs HB hb; clear hb hbox hg; have hcz11_0 : w10.cell? ⟨gb567, 0, none⟩ = some (.int .i64 a0_0) := bC BK567 0; have hcz11_1 : w10.cell? ⟨gb567, 1, none⟩ = some (.int .i64 a0_1) := bC BK567 1; have hcz11_2 : w10.cell? ⟨gb567, 2, none⟩ = some (.int .i64 a0_2) := bC BK567 2; have hcz11_3 : w10.cell? ⟨gb567, 3, none⟩ = some (.int .i64 a0_3) := bC BK567 3; have hfz11_0 := blk_frozen BK567.out 0; have hfz11_1 := blk_frozen BK567.out 1; have hfz11_2 := blk_frozen BK567.out 2; have hfz11_3 := blk_frozen BK567.out 3) | ((with_reducible refine gate_callee (f := 90) rfl ?_); refine gL (some 4) Try.func90 #[.agg #[.int .i64 a0_0, .int .i64 a0_1, .int .i64 a0_2, .int .i64 a0_3]] ?_; (with_reducible refine (impl_IsPath.calls a0_0 a0_1 a0_2 a0_3 true _ A2.out).mono ?_); rintro e w12 ⟨rfl, hb⟩; refine ⟨_, rfl, ?_⟩; replace BK567 := kb BK567 hb; replace HB := bs HB hb; (try clear hb); obtain ⟨_, _, _, _, _, _, _, _⟩ := blkc4 BK567))
   go_ret
   exact ⟨rA, bG⟩
  rw [if_neg c9] at H
  have c9b0 : (a0_1 == 3) = false := beq_eq_false_iff_ne.mpr c9
  have c9b1 : (a0_1 != 3) = true := bne_iff_ne.mpr c9
  obtain rfl := Option.some.inj H
  go_enter Try.func120, Try.ntmps120
  go_wp2_with (first | ((with_reducible refine gate_dst (N := 1) rfl ?_); refine bE (N := 1) (cs := #[.int .i64 a0_0, .int .i64 a0_1, .int .i64 a0_2, .int .i64 a0_3]) (t := 50) ?_; intro gb567 hg w14 hbox hb; have BK567 := Aside0.mk (hbox); have GW567 := gw w hg; have GE567 := gw w hg; replace HB := bs HB hb; clear hb hbox hg; have hcz15_0 : w14.cell? ⟨gb567, 0, none⟩ = some (.int .i64 a0_0) := bC BK567 0; have hcz15_1 : w14.cell? ⟨gb567, 1, none⟩ = some (.int .i64 a0_1) := bC BK567 1; have hcz15_2 : w14.cell? ⟨gb567, 2, none⟩ = some (.int .i64 a0_2) := bC BK567 2; have hcz15_3 : w14.cell? ⟨gb567, 3, none⟩ = some (.int .i64 a0_3) := bC BK567 3; have hfz15_0 := blk_frozen BK567.out 0; have hfz15_1 := blk_frozen BK567.out 1; have hfz15_2 := blk_frozen BK567.out 2; have hfz15_3 := blk_frozen BK567.out 3) | ((with_reducible refine gate_callee (f := 90) rfl ?_); refine gL (some 4) Try.func90 #[.agg #[.int .i64 a0_0, .int .i64 a0_1, .int .i64 a0_2, .int .i64 a0_3]] ?_; (with_reducible refine (impl_IsPath.calls a0_0 a0_1 a0_2 a0_3 true _ A2.out).mono ?_); rintro e w16 ⟨rfl, hb⟩; refine ⟨_, rfl, ?_⟩; replace BK567 := kb BK567 hb; replace HB := bs HB hb; (try clear hb); obtain ⟨_, _, _, _, _, _, _, _⟩ := blkc4 BK567))
  go_ret
  exact ⟨rA, bG⟩
 replace c3 := Bool.eq_false_iff.mpr c3
 subst c3
 have H1 : (some 0) = some r := by rw [if_neg (show ¬ (false = true) by decide)] at H; exact H
 clear H
 have H := H1
 clear H1
 obtain rfl := Option.some.inj H
 go_enter Try.func120, Try.ntmps120
 go_wp2_with (first | ((with_reducible refine gate_dst (N := 1) rfl ?_); refine bE (N := 1) (cs := #[.int .i64 a0_0, .int .i64 a0_1, .int .i64 a0_2, .int .i64 a0_3]) (t := 50) ?_; intro gb567 hg w18 hbox hb; have BK567 := Aside0.mk (hbox); have GW567 := gw w hg; have GE567 := gw w hg; replace HB := bs HB hb; clear hb hbox hg; have hcz19_0 : w18.cell? ⟨gb567, 0, none⟩ = some (.int .i64 a0_0) := bC BK567 0; have hcz19_1 : w18.cell? ⟨gb567, 1, none⟩ = some (.int .i64 a0_1) := bC BK567 1; have hcz19_2 : w18.cell? ⟨gb567, 2, none⟩ = some (.int .i64 a0_2) := bC BK567 2; have hcz19_3 : w18.cell? ⟨gb567, 3, none⟩ = some (.int .i64 a0_3) := bC BK567 3; have hfz19_0 := blk_frozen BK567.out 0; have hfz19_1 := blk_frozen BK567.out 1; have hfz19_2 := blk_frozen BK567.out 2; have hfz19_3 := blk_frozen BK567.out 3) | ((with_reducible refine gate_callee (f := 90) rfl ?_); refine gL (some 4) Try.func90 #[.agg #[.int .i64 a0_0, .int .i64 a0_1, .int .i64 a0_2, .int .i64 a0_3]] ?_; (with_reducible refine (impl_IsPath.calls a0_0 a0_1 a0_2 a0_3 false _ A2.out).mono ?_); rintro e w20 ⟨rfl, hb⟩; refine ⟨_, rfl, ?_⟩; replace BK567 := kb BK567 hb; replace HB := bs HB hb; (try clear hb)))
 go_ret
 exact ⟨rA, bG⟩

/-! ### impl_sieve: function 166 -/
def impl_sieve.l0 : Nat → List Int → Bool → List Int → List Int → Int → Int → Option (List Int)
 | 0, _, _, _, _, _, _ => none
 | k + 1, x1, x2, x7, x11, x12, x13 => if x13 < x12 then (if 0 ≤ x13 then (if x13 < (x11.length : Int) then ((slices_Contains_int_int.f k x1 (rd x11 x13)).bind fun t575 => (if (t575 == x2) = true then (if x7.length < 17592186044416 then (impl_sieve.l0 k x1 x2 (x7 ++ [rd x11 x13]) x11 x12 (wrap64 (x13 + 1))) else (none)) else (impl_sieve.l0 k x1 x2 x7 x11 x12 (wrap64 (x13 + 1))))) else (none)) else (none)) else (some x7)
def impl_sieve.f (k : Nat) (l0 : List Int) (l1 : List Int) (a2 : Bool) : Option (List Int) := impl_sieve.l0 k l1 a2 (([] : List Int)) l0 (l0.length : Int) 0
theorem impl_sieve.mono_l : ∀ k, (∀ y0 y1 y2 y3 y4 y5, LeO (impl_sieve.l0 k y0 y1 y2 y3 y4 y5) (impl_sieve.l0 (k + 1) y0 y1 y2 y3 y4 y5))
 | 0 => fun _ _ _ _ _ _ r h => by simp [impl_sieve.l0] at h
 | k + 1 => by
  have ih0 := impl_sieve.mono_l k
  ·
   intro y0 y1 y2 y3 y4 y5
   unfold impl_sieve.l0
   exact mz2 ih0 slices_Contains_int_int.mono
theorem impl_sieve.mono : ∀ a0 a1 a2 k, LeO (impl_sieve.f k a0 a1 a2) (impl_sieve.f (k + 1) a0 a1 a2) := by
 intro a0 a1 a2 k
 have ih0 := impl_sieve.mono_l k
 unfold impl_sieve.f
 exact mz2 ih0 slices_Contains_int_int.mono
set_option maxHeartbeats 8000000 in
set_option maxRecDepth 100000 in
theorem impl_sieve.calls (k : Nat) (A0 : Option Addr) (c0 : Nat) (l0 : List Int) (A1 : Option Addr) (c1 : Nat) (l1 : List Int) (a2 : Bool) (r : List Int) (w : World) (hr0 : Kd.C (Kd.int .i64) w A0 l0.length l0) (hc0 : l0.length ≤ c0) (hr1 : Kd.C (Kd.int .i64) w A1 l1.length l1) (hc1 : l1.length ≤ c1) (h : impl_sieve.f k l0 l1 a2 = some r) :
  Calls Try.prog 166 #[.slice A0 l0.length c0, .slice A1 l1.length c1, .bool a2] w fun e w' => ∃ v0_ : Value, e = .returned (v0_) ∧ Kd.R (Kd.int .i64) 3 w' w.heap.size (fun _ => True) v0_ r ∧ Below w.heap.size w w' := by
 have HR0 := Aside0.mk hr0
 have HC0 := Aside0.mk hc0
 clear hr0 hc0
 have HR1 := Aside0.mk hr1
 have HC1 := Aside0.mk hc1
 clear hr1 hc1
 have HB := Aside0.mk (Below.refl w.heap.size w)
 have H : (impl_sieve.l0 k l1 a2 (([] : List Int)) l0 (l0.length : Int) 0) = some r := h
 clear h
 obtain ⟨y571, hy571⟩ : ∃ y_ : List Int, y_ = (([] : List Int)) := ⟨_, rfl⟩
 replace H : (impl_sieve.l0 k l1 a2 y571 l0 (l0.length : Int) 0) = some r := rH H hy571
 have Ny571 := Aside0.mk hy571
 clear hy571
 have H' := Aside0.mk H
 clear H
 go_enter Try.func166, Try.ntmps166
 go_wp2_with (first | ((with_reducible refine gate_dst (N := 10) rfl ?_); refine Kd.R_lit (Kd.int .i64) _ 3 ?hg (N := 10) ?hd (xs := ([] : List Int)) (inner := []) (ok := fun _ => True) (okp := fun _ => True) ?hr ?hp (fun _ hk => hk) trivial (Below.refl _ _) (Nat.le_refl _) (by simp) ?_; (case hd => rfl); (case hg => rfl); (case hr => first | (go_simp; done) | (go_simp; rfl)); (case hp => exact (Reps.none _ _)); intro v572 w4 ho5 hb hg_ hnew_; clear hg_ hnew_; (first | rw [← Ny571.out] at ho5 | (simp only [Int.reduceToNat] at ho5; rw [← Ny571.out] at ho5)); have HO573 := rl w ho5; replace HB := bs HB hb; clear hb ho5))
 go_loopg [7, 13] k (fun kq v7 v13 w' => ∃ (x7_1 : List Int) (x13_1 : Int), v13 = .int .i64 x13_1 ∧ Aside0 (impl_sieve.l0 kq l1 a2 x7_1 l0 (l0.length : Int) x13_1 = some r) ∧ Aside0 (kq ≤ k) ∧ Aside0 (Kd.R (Kd.int .i64) 3 w' w.heap.size (fun _ => True) v7 x7_1) ∧ Aside0 (Below w.heap.size w w'))
 case atStart => exact ⟨(y571), (0), rS, H', ⟨Nat.le_refl _⟩, ⟨rK HO573⟩, ⟨bA⟩⟩
 case round =>
  clear H'
  obtain ⟨x7_1, x13_1, rfl, HA, HK1, HO_7, HB⟩ := hrel
  cases gk with
  | zero => exact absurd HA.out (by simp [impl_sieve.l0])
  | succ k1 =>
   have H := HA.out
   clear HA
   simp only [impl_sieve.l0] at H
   by_cases c6 : x13_1 < (l0.length : Int)
   ·
    rw [if_pos c6] at H
    have c6b0 := decide_eq_true c6
    clear c6
    have c7 : 0 ≤ x13_1 := ifN H
    replace H := ifT H
    have c7b0 := decide_eq_true c7
    clear c7
    have c8 : x13_1 < (l0.length : Int) := ifN H
    replace H := ifT H
    have c8b0 := decide_eq_true c8
    clear c8
    obtain ⟨t575, A9, H⟩ := bindE H
    try dsimp only at H
    by_cases c10 : (t575 == a2) = true
    ·
     rw [if_pos c10] at H
     have c10b0 : (t575 == a2) = true := c10
     (try (have c10b1 : decide (t575 = a2) = true := by simpa using c10))
     (try (have c10b2 : (t575 == a2) = true := by simpa using c10))
     clear c10
     have c11 : x7_1.length < 17592186044416 := ifN H
     replace H := ifT H
     have LMc11 := Aside0.mk c11
     clear c11
     obtain ⟨y576, hy576⟩ : ∃ y_ : List Int, y_ = (x7_1 ++ [rd l0 x13_1]) := ⟨_, rfl⟩
     replace H : (impl_sieve.l0 k1 l1 a2 y576 l0 (l0.length : Int) (wrap64 (x13_1 + 1))) = some r := rH H hy576
     have Ny576 := Aside0.mk hy576
     clear hy576
     have H' := Aside0.mk H
     clear H
     obtain ⟨p574, q574⟩ : 0 ≤ (x13_1 : Int) ∧ x13_1 < (l0.length : Int) := ⟨dA, dA⟩
     obtain ⟨ad574, e574, hx574_0⟩ := Kd.at_int (Kd.C_below HR0.out HB.out) x13_1 p574 q574
     cases e574
     obtain ⟨p574, q574⟩ := eT p574 q574
     go_wp2_with (first | ((with_reducible refine gate_callee (f := 102) rfl ?_); refine gL (some 19) Try.func102 #[.slice A1 l1.length c1, .int .i64 (rd l0 x13_1)] ?_; (with_reducible refine (slices_Contains_int_int.calls k1 _ _ l1 (rd l0 x13_1) t575 _ ?_ ?_ A9.out).mono ?_); exact cB HR1; exact HC1.out; rintro e w' ⟨rfl, ⟨nd, rfl⟩⟩; refine ⟨_, rfl, ?_⟩) | ((with_reducible refine gate_builtin (b := .append) (xs := #[.tmp 22, .tmp 24]) rfl ?_); at_builtin; refine Kd.R_append (Kd.int .i64) (w0 := w) w.heap.size rfl (.tmp 22) (.tmp 24) 35 3 (.int .i64 0) 8 rfl Try.underlying35 info3 rfl (by decide) (by omega) u7 x7_1 (rd l0 x13_1) [.int .i64 (rd l0 x13_1)] (fun _ => True) (fun _ => False) rfl rfl ?aP (fun _ hk => hk.elim) ?aF ?aO ?aB ?aS ?aL ?_; (case aP => exact rfl); (case aB => exact bA); (case aF => exact (fun _ _ => trivial)); (case aO => exact (rK HO_7)); (case aS => exact (below_size bA)); (case aL => have := LMc11.out; omega); intro v577 w12 ho hb hg hat; rw [← Ny576.out] at ho; have n0_ := Aside0.mk (hb); have n1_ := Aside0.mk (ho); clear HB; clear HO_7; have HB := n0_; have HO578 := n1_; clear n0_ n1_; clear ho hb hg hat))
     go_roundg k1
     case measure => have := HK1.out; omega
     case rel => exact ⟨(y576), (wrap64 (x13_1 + 1)), rS, H', ⟨by have := HK1.out; omega⟩, ⟨rK HO578⟩, ⟨bA⟩⟩
    rw [if_neg c10] at H
    have c10b0 : (t575 == a2) = false := by simpa using c10
    (try (have c10b1 : decide (t575 = a2) = false := by simpa using c10))
    (try (have c10b2 : (t575 == a2) = false := by simpa using c10))
    (try (have c10b3 : ¬ (t575 = a2) := by simpa using c10))
    clear c10
    have H' := Aside0.mk H
    clear H
    obtain ⟨p574, q574⟩ : 0 ≤ (x13_1 : Int) ∧ x13_1 < (l0.length : Int) := ⟨dA, dA⟩
    obtain ⟨ad574, e574, hx574_0⟩ := Kd.at_int (Kd.C_below HR0.out HB.out) x13_1 p574 q574
    cases e574
    obtain ⟨p574, q574⟩ := eT p574 q574
    go_wp2_with (first | ((with_reducible refine gate_callee (f := 102) rfl ?_); refine gL (some 19) Try.func102 #[.slice A1 l1.length c1, .int .i64 (rd l0 x13_1)] ?_; (with_reducible refine (slices_Contains_int_int.calls k1 _ _ l1 (rd l0 x13_1) t575 _ ?_ ?_ A9.out).mono ?_); exact cB HR1; exact HC1.out; rintro e w' ⟨rfl, ⟨nd, rfl⟩⟩; refine ⟨_, rfl, ?_⟩))
    go_roundg k1
    case measure => have := HK1.out; omega
    case rel => exact ⟨(x7_1), (wrap64 (x13_1 + 1)), rS, H', ⟨by have := HK1.out; omega⟩, ⟨rK HO_7⟩, ⟨bA⟩⟩
   rw [if_neg c6] at H
   have c6b0 := decide_eq_false c6
   clear c6
   obtain rfl := Option.some.inj H
   go_wp2
   go_ret
   exact ⟨_, rA, rK HO_7, bA⟩

/-! ### impl_Closes: function 138 -/
def impl_Closes.f (k : Nat) (l0 : List Int) (l1 : List Int) : Option (List Int) := (impl_sieve.f k l0 l1 false).bind fun t579 => (some t579)
theorem impl_Closes.mono : ∀ a0 a1 k, LeO (impl_Closes.f k a0 a1) (impl_Closes.f (k + 1) a0 a1) := by
 intro a0 a1 k
 unfold impl_Closes.f
 exact mz1 impl_sieve.mono
set_option maxHeartbeats 8000000 in
set_option maxRecDepth 100000 in
theorem impl_Closes.calls (k : Nat) (A0 : Option Addr) (c0 : Nat) (l0 : List Int) (A1 : Option Addr) (c1 : Nat) (l1 : List Int) (r : List Int) (w : World) (hr0 : Kd.C (Kd.int .i64) w A0 l0.length l0) (hc0 : l0.length ≤ c0) (hr1 : Kd.C (Kd.int .i64) w A1 l1.length l1) (hc1 : l1.length ≤ c1) (h : impl_Closes.f k l0 l1 = some r) :
  Calls Try.prog 138 #[.slice A0 l0.length c0, .slice A1 l1.length c1] w fun e w' => ∃ v0_ : Value, e = .returned (v0_) ∧ Kd.R (Kd.int .i64) 3 w' w.heap.size (fun _ => True) v0_ r ∧ Below w.heap.size w w' := by
 have HR0 := Aside0.mk hr0
 have HC0 := Aside0.mk hc0
 clear hr0 hc0
 have HR1 := Aside0.mk hr1
 have HC1 := Aside0.mk hc1
 clear hr1 hc1
 have HB := Aside0.mk (Below.refl w.heap.size w)
 have H : ((impl_sieve.f k l0 l1 false).bind fun t579 => (some t579)) = some r := h
 clear h
 obtain ⟨t579, A3, H⟩ := bindE H
 try dsimp only at H
 obtain rfl := Option.some.inj H
 go_enter Try.func138, Try.ntmps138
 go_wp2_with (first | ((with_reducible refine gate_callee (f := 166) rfl ?_); refine gL (some 7) Try.func166 #[.slice A0 l0.length c0, .slice A1 l1.length c1, .bool false] ?_; (with_reducible refine (impl_sieve.calls k _ _ l0 _ _ l1 false t579 _ ?_ ?_ ?_ ?_ A3.out).mono ?_); exact cO HR0; exact HC0.out; exact cO HR1; exact HC1.out; rintro e w4 ⟨v580, rfl, ho0, hb⟩; refine ⟨_, rfl, ?_⟩; have HO581 := rl w ho0; replace HB := bs HB hb; (try clear hb); (try clear ho0)))
 go_ret
 exact ⟨_, rA, rK HO581, bA⟩

/-! ### impl_ClearBetween: function 99 -/
mutual
def impl_ClearBetween.j0 : Nat → List (S50) → List Int → List Int → Int → Bool → Option (Int)
 | 0, _, _, _, _, _ => none
 | k + 1, x0, x1, x2, x7, x22 => if x22 = true then (some x7) else ((impl_Closes.f k x1 x2).bind fun t584 => (impl_ClearBetween.l0 k x0 x1 x2 x7 t584 (t584.length : Int) 0))
def impl_ClearBetween.l0 : Nat → List (S50) → List Int → List Int → Int → List Int → Int → Int → Option (Int)
 | 0, _, _, _, _, _, _, _ => none
 | k + 1, x0, x1, x2, x7, x26, x27, x28 => if x28 < x27 then (if 0 ≤ x28 then (if x28 < (x26.length : Int) then ((impl_Closes.f k x2 x1).bind fun t588 => (impl_ClearBetween.l1 k x0 x1 x2 x7 (rd x26 x28) x26 x27 x28 t588 (t588.length : Int) 0)) else (none)) else (none)) else (some x7)
def impl_ClearBetween.l1 : Nat → List (S50) → List Int → List Int → Int → Int → List Int → Int → Int → List Int → Int → Int → Option (Int)
 | 0, _, _, _, _, _, _, _, _, _, _, _ => none
 | k + 1, x0, x1, x2, x7, x9, x26, x27, x28, x34, x35, x36 => if x36 < x35 then (if 0 ≤ x36 then (if x36 < (x34.length : Int) then ((impl_FindPath.f x0 x9).bind fun t592 => (if 0 ≤ t592 then (if t592 < (x0.length : Int) then ((impl_FindPath.f x0 (rd x34 x36)).bind fun t595 => (if 0 ≤ t595 then (if t595 < (x0.length : Int) then ((impl_Conflict.f k ((rd_T50 x0 t592).f0) ((rd_T50 x0 t592).f1) ((rd_T50 x0 t592).f2) ((rd_T50 x0 t592).f3) ((rd_T50 x0 t595).f0) ((rd_T50 x0 t595).f1) ((rd_T50 x0 t595).f2) ((rd_T50 x0 t595).f3)).bind fun t597 => (if t597 = true then ((impl_ClearOf.f ((rd_T50 x0 t592).f0) ((rd_T50 x0 t592).f1) ((rd_T50 x0 t592).f2) ((rd_T50 x0 t592).f3)).bind fun t598 => (impl_ClearBetween.l1 k x0 x1 x2 (mx x7 t598) x9 x26 x27 x28 x34 x35 (wrap64 (x36 + 1)))) else (impl_ClearBetween.l1 k x0 x1 x2 x7 x9 x26 x27 x28 x34 x35 (wrap64 (x36 + 1))))) else (none)) else (none))) else (none)) else (none))) else (none)) else (none)) else (impl_ClearBetween.l0 k x0 x1 x2 x7 x26 x27 (wrap64 (x28 + 1)))
end
def impl_ClearBetween.f (k : Nat) (l0 : List (S50)) (l1 : List Int) (l2 : List Int) : Option (Int) := (impl_IsTogether.f k l0 l1).bind fun t582 => (if t582 = true then ((impl_IsTogether.f k l0 l2).bind fun t583 => (impl_ClearBetween.j0 k l0 l1 l2 0 (!t583))) else (impl_ClearBetween.j0 k l0 l1 l2 0 true))
theorem impl_ClearBetween.mono_l : ∀ k, (∀ y0 y1 y2 y3 y4, LeO (impl_ClearBetween.j0 k y0 y1 y2 y3 y4) (impl_ClearBetween.j0 (k + 1) y0 y1 y2 y3 y4)) ∧ (∀ y0 y1 y2 y3 y4 y5 y6, LeO (impl_ClearBetween.l0 k y0 y1 y2 y3 y4 y5 y6) (impl_ClearBetween.l0 (k + 1) y0 y1 y2 y3 y4 y5 y6)) ∧ (∀ y0 y1 y2 y3 y4 y5 y6 y7 y8 y9 y10, LeO (impl_ClearBetween.l1 k y0 y1 y2 y3 y4 y5 y6 y7 y8 y9 y10) (impl_ClearBetween.l1 (k + 1) y0 y1 y2 y3 y4 y5 y6 y7 y8 y9 y10))
 | 0 => ⟨fun _ _ _ _ _ r h => by simp [impl_ClearBetween.j0] at h, fun _ _ _ _ _ _ _ r h => by simp [impl_ClearBetween.l0] at h, fun _ _ _ _ _ _ _ _ _ _ _ r h => by simp [impl_ClearBetween.l1] at h⟩
 | k + 1 => by
  obtain ⟨ih0, ih1, ih2⟩ := impl_ClearBetween.mono_l k
  refine ⟨?_, ?_, ?_⟩
  ·
   intro y0 y1 y2 y3 y4
   unfold impl_ClearBetween.j0
   exact mz6 ih0 ih1 ih2 impl_Closes.mono impl_Conflict.mono impl_IsTogether.mono
  ·
   intro y0 y1 y2 y3 y4 y5 y6
   unfold impl_ClearBetween.l0
   exact mz6 ih0 ih1 ih2 impl_Closes.mono impl_Conflict.mono impl_IsTogether.mono
  ·
   intro y0 y1 y2 y3 y4 y5 y6 y7 y8 y9 y10
   unfold impl_ClearBetween.l1
   exact mz6 ih0 ih1 ih2 impl_Closes.mono impl_Conflict.mono impl_IsTogether.mono
theorem impl_ClearBetween.mono : ∀ a0 a1 a2 k, LeO (impl_ClearBetween.f k a0 a1 a2) (impl_ClearBetween.f (k + 1) a0 a1 a2) := by
 intro a0 a1 a2 k
 obtain ⟨ih0, ih1, ih2⟩ := impl_ClearBetween.mono_l k
 unfold impl_ClearBetween.f
 exact mz6 ih0 ih1 ih2 impl_Closes.mono impl_Conflict.mono impl_IsTogether.mono
def impl_ClearBetween.T11 : Bool × List (List Nat × List Nat) := (true, [([], []), ([], []), ([], []), ([], []), ([2, 3], [2, 3]), ([1, 4], [1, 4]), ([5], [5]), ([0, 6, 4], [0, 6])])
def impl_ClearBetween.B11 : List Nat := [0, 0, 0, 0, 12, 30, 62, 127]
theorem impl_ClearBetween.tab11 : rtab .any (opsOf Try.f99 11) = impl_ClearBetween.T11 := by kernel_rfl
theorem impl_ClearBetween.bits11 : waitsOk impl_ClearBetween.T11.2 impl_ClearBetween.B11 = true := by kernel_rfl
set_option maxHeartbeats 8000000 in
set_option maxRecDepth 100000 in
theorem impl_ClearBetween.calls (k : Nat) (A0 : Option Addr) (c0 : Nat) (l0 : List (S50)) (A1 : Option Addr) (c1 : Nat) (l1 : List Int) (A2 : Option Addr) (c2 : Nat) (l2 : List Int) (r : Int) (w : World) (hr0 : Kd.C k50 w A0 l0.length l0) (hc0 : l0.length ≤ c0) (hr1 : Kd.C (Kd.int .i64) w A1 l1.length l1) (hc1 : l1.length ≤ c1) (hr2 : Kd.C (Kd.int .i64) w A2 l2.length l2) (hc2 : l2.length ≤ c2) (h : impl_ClearBetween.f k l0 l1 l2 = some r) :
  Calls Try.prog 99 #[.slice A0 l0.length c0, .slice A1 l1.length c1, .slice A2 l2.length c2] w fun e w' => e = .returned (.int .i64 r) ∧ Below w.heap.size w w' := by
 have hu50 := Try.underlying50
 have HR0 := Aside0.mk hr0
 have HC0 := Aside0.mk hc0
 clear hr0 hc0
 have HR1 := Aside0.mk hr1
 have HC1 := Aside0.mk hc1
 clear hr1 hc1
 have HR2 := Aside0.mk hr2
 have HC2 := Aside0.mk hc2
 clear hr2 hc2
 have HB := Aside0.mk (Below.refl w.heap.size w)
 have H : ((impl_IsTogether.f k l0 l1).bind fun t582 => (if t582 = true then ((impl_IsTogether.f k l0 l2).bind fun t583 => (impl_ClearBetween.j0 k l0 l1 l2 0 (!t583))) else (impl_ClearBetween.j0 k l0 l1 l2 0 true))) = some r := h
 clear h
 have HC4 := Aside0.mk H
 clear H
 go_enter Try.func99, Try.ntmps99
 go_upto_region 2 with (fail)
 go_cut [22] (fun v22 wc => ∃ (kq : Nat) (x22_3 : Bool), v22 = .bool x22_3 ∧ Aside0 (impl_ClearBetween.j0 kq l0 l1 l2 0 x22_3 = some r) ∧ Aside0 (kq ≤ k) ∧ Aside0 (Below w.heap.size w wc))
 case first =>
  have H := HC4.out
  clear HC4
  obtain ⟨t582, A5, H⟩ := bindE H
  try dsimp only at H
  by_cases c6 : t582 = true
  ·
   subst c6
   have H1 : ((impl_IsTogether.f k l0 l2).bind fun t583 => (impl_ClearBetween.j0 k l0 l1 l2 0 (!t583))) = some r := by rw [if_pos rfl] at H; exact H
   clear H
   have H := H1
   clear H1
   obtain ⟨t583, A7, H⟩ := bindE H
   try dsimp only at H
   have H' := Aside0.mk H
   clear H
   go_wp2_with (first | ((with_reducible refine gate_callee (f := 68) rfl ?_); refine gL (some 15) Try.func68 #[.slice A0 l0.length c0, .slice A1 l1.length c1] ?_; (with_reducible refine (impl_IsTogether.calls k _ _ l0 _ _ l1 true _ ?_ ?_ ?_ ?_ A5.out).mono ?_); exact cB HR0; exact HC0.out; exact cB HR1; exact HC1.out; rintro e w8 ⟨rfl, hb⟩; refine ⟨_, rfl, ?_⟩; replace HB := bs HB hb; (try clear hb)) | (go_at_call 68; (with_reducible refine (impl_IsTogether.calls k _ _ l0 _ _ l2 t583 _ ?_ ?_ ?_ ?_ A7.out).mono ?_); exact cB HR0; exact HC0.out; exact cB HR2; exact HC2.out; rintro e w9 ⟨rfl, hb⟩; replace HB := bs HB hb; (try clear hb)))
   go_meet
   case rel => exact ⟨_, (!t583), rS, H', ⟨oL⟩, ⟨bA⟩⟩
  replace c6 := Bool.eq_false_iff.mpr c6
  subst c6
  have H1 : (impl_ClearBetween.j0 k l0 l1 l2 0 true) = some r := by rw [if_neg (show ¬ (false = true) by decide)] at H; exact H
  clear H
  have H := H1
  clear H1
  have H' := Aside0.mk H
  clear H
  go_wp2_with (first | ((with_reducible refine gate_callee (f := 68) rfl ?_); refine gL (some 15) Try.func68 #[.slice A0 l0.length c0, .slice A1 l1.length c1] ?_; (with_reducible refine (impl_IsTogether.calls k _ _ l0 _ _ l1 false _ ?_ ?_ ?_ ?_ A5.out).mono ?_); exact cB HR0; exact HC0.out; exact cB HR1; exact HC1.out; rintro e w10 ⟨rfl, hb⟩; refine ⟨_, rfl, ?_⟩; replace HB := bs HB hb; (try clear hb)))
  go_meet
  case rel => exact ⟨_, (true), rS, H', ⟨oL⟩, ⟨bA⟩⟩
 case rest =>
  clear HC4
  obtain ⟨kq, x22_3, rfl, HA, HJ3, HB⟩ := hcut
  cases kq with
  | zero => exact absurd HA.out (by simp [impl_ClearBetween.j0])
  | succ kj3 =>
   have H := HA.out
   clear HA
   simp only [impl_ClearBetween.j0] at H
   by_cases c11 : x22_3 = true
   ·
    subst c11
    have H1 : (some 0) = some r := by rw [if_pos rfl] at H; exact H
    clear H
    have H := H1
    clear H1
    obtain rfl := Option.some.inj H
    go_wp2
    go_ret
    exact ⟨rA, bA⟩
   replace c11 := Bool.eq_false_iff.mpr c11
   subst c11
   have H1 : ((impl_Closes.f kj3 l1 l2).bind fun t584 => (impl_ClearBetween.l0 kj3 l0 l1 l2 0 t584 (t584.length : Int) 0)) = some r := by rw [if_neg (show ¬ (false = true) by decide)] at H; exact H
   clear H
   have H := H1
   clear H1
   obtain ⟨t584, A12, H⟩ := bindE H
   try dsimp only at H
   have H' := Aside0.mk H
   clear H
   go_wp2_with (first | ((with_reducible refine gate_callee (f := 138) rfl ?_); refine gL (some 26) Try.func138 #[.slice A1 l1.length c1, .slice A2 l2.length c2] ?_; (with_reducible refine (impl_Closes.calls kj3 _ _ l1 _ _ l2 t584 _ ?_ ?_ ?_ ?_ A12.out).mono ?_); exact cB HR1; exact HC1.out; exact cB HR2; exact HC2.out; rintro e w13 ⟨v585, rfl, ho0, hb⟩; refine ⟨_, rfl, ?_⟩; have HO586 := rl w ho0; replace HB := bs HB hb; (try clear hb); (try clear ho0); obtain ⟨Ao14, co14, eo14⟩ := Kd.R_slice HO586.out; subst eo14))
   go_loopg [7, 28] kj3 (fun kq v7 v28 w' => ∃ (x7_2 : Int) (x28_2 : Int), v7 = .int .i64 x7_2 ∧ v28 = .int .i64 x28_2 ∧ Aside0 (impl_ClearBetween.l0 kq l0 l1 l2 x7_2 t584 (t584.length : Int) x28_2 = some r) ∧ Aside0 (kq ≤ kj3) ∧ Aside0 (Kd.R (Kd.int .i64) 3 w' w.heap.size (fun _ => True) (.slice Ao14 t584.length co14) t584) ∧ Aside0 (Below w.heap.size w w'))
   case atStart => exact ⟨(0), (0), rS, rS, H', ⟨Nat.le_refl _⟩, ⟨rK HO586⟩, ⟨bA⟩⟩
   case round =>
    clear H'
    obtain ⟨x7_2, x28_2, rfl, rfl, HA, HK2, HO_26, HB⟩ := hrel
    cases gk with
    | zero => exact absurd HA.out (by simp [impl_ClearBetween.l0])
    | succ k2 =>
     have H := HA.out
     clear HA
     simp only [impl_ClearBetween.l0] at H
     by_cases c15 : x28_2 < (t584.length : Int)
     ·
      rw [if_pos c15] at H
      have c15b0 := decide_eq_true c15
      clear c15
      have c16 : 0 ≤ x28_2 := ifN H
      replace H := ifT H
      have c16b0 := decide_eq_true c16
      clear c16
      have c17 : x28_2 < (t584.length : Int) := ifN H
      replace H := ifT H
      have c17b0 := decide_eq_true c17
      clear c17
      obtain ⟨t588, A18, H⟩ := bindE H
      try dsimp only at H
      have H' := Aside0.mk H
      clear H
      obtain ⟨p587, q587⟩ : 0 ≤ (x28_2 : Int) ∧ x28_2 < (t584.length : Int) := ⟨dA, dA⟩
      obtain ⟨ad587, e587, hx587_0⟩ := Kd.at_int (Kd.R_reads' HO_26.out).2.2 x28_2 p587 q587
      cases e587
      obtain ⟨p587, q587⟩ := eT p587 q587
      go_wp2_with (first | ((with_reducible refine gate_callee (f := 138) rfl ?_); refine gL (some 34) Try.func138 #[.slice A2 l2.length c2, .slice A1 l1.length c1] ?_; (with_reducible refine (impl_Closes.calls k2 _ _ l2 _ _ l1 t588 _ ?_ ?_ ?_ ?_ A18.out).mono ?_); exact cB HR2; exact HC2.out; exact cB HR1; exact HC1.out; rintro e w19 ⟨v589, rfl, ho0, hb⟩; refine ⟨_, rfl, ?_⟩; have HO590 := rl w (rn ho0 HO_26); replace HO_26 := re HO_26 ho0 hb; replace HB := bs HB hb; (try clear hb); (try clear ho0); obtain ⟨Ao20, co20, eo20⟩ := Kd.R_slice HO590.out; subst eo20))
      go_loopg [7, 36] k2 (fun kq v7 v36 w' => ∃ (x7_3 : Int) (x36_3 : Int), v7 = .int .i64 x7_3 ∧ v36 = .int .i64 x36_3 ∧ Aside0 (impl_ClearBetween.l1 kq l0 l1 l2 x7_3 (rd t584 x28_2) t584 (t584.length : Int) x28_2 t588 (t588.length : Int) x36_3 = some r) ∧ Aside0 (kq ≤ k2) ∧ Aside0 (Kd.R (Kd.int .i64) 3 w' w.heap.size (n1 (.slice Ao20 t588.length co20)) (.slice (some ad587) t584.length co14) t584) ∧ Aside0 (Kd.R (Kd.int .i64) 3 w' w.heap.size (n1 (.slice (some ad587) t584.length co14)) (.slice Ao20 t588.length co20) t588) ∧ Aside0 (Below w.heap.size w w'))
      case atStart => exact ⟨(x7_2), (0), rS, rS, H', ⟨Nat.le_refl _⟩, ⟨rm HO_26 (fun _ hk => hk.2)⟩, ⟨rm HO590 (fun _ hk => hk.2)⟩, ⟨bA⟩⟩
      case round =>
       clear H'
       obtain ⟨x7_3, x36_3, rfl, rfl, HA, HK3, HO_26, HO_34, HB⟩ := hrel
       cases gk with
       | zero => exact absurd HA.out (by simp [impl_ClearBetween.l1])
       | succ k3 =>
        have H := HA.out
        clear HA
        simp only [impl_ClearBetween.l1] at H
        by_cases c21 : x36_3 < (t588.length : Int)
        ·
         rw [if_pos c21] at H
         have c21b0 := decide_eq_true c21
         clear c21
         have c22 : 0 ≤ x36_3 := ifN H
         replace H := ifT H
         have c22b0 := decide_eq_true c22
         clear c22
         have c23 : x36_3 < (t588.length : Int) := ifN H
         replace H := ifT H
         have c23b0 := decide_eq_true c23
         clear c23
         obtain ⟨t592, A24, H⟩ := bindE H
         try dsimp only at H
         have c25 : 0 ≤ t592 := ifN H
         replace H := ifT H
         have c25b0 := decide_eq_true c25
         clear c25
         have c26 : t592 < (l0.length : Int) := ifN H
         replace H := ifT H
         have c26b0 := decide_eq_true c26
         clear c26
         obtain ⟨t595, A27, H⟩ := bindE H
         try dsimp only at H
         have c28 : 0 ≤ t595 := ifN H
         replace H := ifT H
         have c28b0 := decide_eq_true c28
         clear c28
         have c29 : t595 < (l0.length : Int) := ifN H
         replace H := ifT H
         have c29b0 := decide_eq_true c29
         clear c29
         obtain ⟨t597, A30, H⟩ := bindE H
         try dsimp only at H
         by_cases c31 : t597 = true
         ·
          subst c31
          have H1 : ((impl_ClearOf.f ((rd_T50 l0 t592).f0) ((rd_T50 l0 t592).f1) ((rd_T50 l0 t592).f2) ((rd_T50 l0 t592).f3)).bind fun t598 => (impl_ClearBetween.l1 k3 l0 l1 l2 (mx x7_3 t598) (rd t584 x28_2) t584 (t584.length : Int) x28_2 t588 (t588.length : Int) (wrap64 (x36_3 + 1)))) = some r := by rw [if_pos rfl] at H; exact H
          clear H
          have H := H1
          clear H1
          obtain ⟨t598, A32, H⟩ := bindE H
          try dsimp only at H
          obtain ⟨ji33, hji33⟩ : ∃ j_ : Int, (mx x7_3 t598) = j_ := ⟨_, rfl⟩
          replace H : (impl_ClearBetween.l1 k3 l0 l1 l2 ji33 (rd t584 x28_2) t584 (t584.length : Int) x28_2 t588 (t588.length : Int) (wrap64 (x36_3 + 1))) = some r := by first | (rw [hji33] at H; exact H) | (simp only [hji33] at H ⊢; exact H)
          (try rw [hji33] at A24)
          (try rw [hji33] at A27)
          (try rw [hji33] at A30)
          (try rw [hji33] at A32)
          have hji33_ : (if x7_3 < t598 then t598 else x7_3) = ji33 := hji33
          have H' := Aside0.mk H
          clear H
          obtain ⟨p591, q591⟩ : 0 ≤ (x36_3 : Int) ∧ x36_3 < (t588.length : Int) := ⟨dA, dA⟩
          obtain ⟨ad591, e591, hx591_0⟩ := Kd.at_int (Kd.R_reads' HO_34.out).2.2 x36_3 p591 q591
          cases e591
          obtain ⟨p591, q591⟩ := eT p591 q591
          try go_wp2_with (first | ((with_reducible refine gate_callee (f := 16) rfl ?_); refine gL (some 43) Try.func16 #[.slice A0 l0.length c0, .int .i64 (rd t584 x28_2)] ?_; (with_reducible refine (impl_FindPath.calls _ _ l0 (rd t584 x28_2) t592 _ ?_ ?_ A24.out).mono ?_); exact cB HR0; exact HC0.out; rintro e w34 ⟨rfl, hb⟩; refine ⟨_, rfl, ?_⟩; replace HO_26 := rb HO_26 hb; replace HO_34 := rb HO_34 hb; replace HB := bs HB hb; (try clear hb); have p593 : 0 ≤ (t592 : Int) := dA; have q593 : t592 < (l0.length : Int) := dA; obtain ⟨ad593, e593, hx593_0, hx593_1, hx593_2, hx593_3⟩ := at_T50 HR0.out t592 p593 q593; cases e593; replace hx593_0 := hC HB hx593_0; replace hx593_1 := hC HB hx593_1; replace hx593_2 := hC HB hx593_2; replace hx593_3 := hC HB hx593_3; replace p593 := eq_true p593; replace q593 := eq_true q593) | ((with_reducible refine gate_dst (N := 12) rfl ?_); refine bE (N := 12) (cs := #[.int .i64 0, .int .i64 0, .int .i64 0, .int .i64 0]) (t := 50) ?_; intro gb594 hg w35 hbox hb; replace HO_26 := rb HO_26 hb; replace HO_34 := rb HO_34 hb; have BK594 := Aside0.mk (hbox); have GW594 := gw w hg; have GE594 := gw w hg; replace HB := bs HB hb; clear hb hbox hg; obtain ⟨_, _, _, _, _, _, _, _⟩ := blkc4 BK594))
          have n0_ : Aside0 (Kd.R (Kd.int .i64) 3 ((((w35.setCell ⟨gb594, 0, none⟩ (.int .i64 ((rd_T50 l0 t592).f0))).setCell ⟨gb594, 1, none⟩ (.int .i64 ((rd_T50 l0 t592).f1))).setCell ⟨gb594, 2, none⟩ (.int .i64 ((rd_T50 l0 t592).f2))).setCell ⟨gb594, 3, none⟩ (.int .i64 ((rd_T50 l0 t592).f3))) w.heap.size (n1 (.slice (some ad591) t588.length co20)) (.slice (some ad587) t584.length co14) t584) := ⟨rf HO_26 BK594⟩
          have n1_ : Aside0 (Kd.R (Kd.int .i64) 3 ((((w35.setCell ⟨gb594, 0, none⟩ (.int .i64 ((rd_T50 l0 t592).f0))).setCell ⟨gb594, 1, none⟩ (.int .i64 ((rd_T50 l0 t592).f1))).setCell ⟨gb594, 2, none⟩ (.int .i64 ((rd_T50 l0 t592).f2))).setCell ⟨gb594, 3, none⟩ (.int .i64 ((rd_T50 l0 t592).f3))) w.heap.size (n1 (.slice (some ad587) t584.length co14)) (.slice (some ad591) t588.length co20) t588) := ⟨rf HO_34 BK594⟩
          have n2_ : Aside0 (((((w35.setCell ⟨gb594, 0, none⟩ (.int .i64 ((rd_T50 l0 t592).f0))).setCell ⟨gb594, 1, none⟩ (.int .i64 ((rd_T50 l0 t592).f1))).setCell ⟨gb594, 2, none⟩ (.int .i64 ((rd_T50 l0 t592).f2))).setCell ⟨gb594, 3, none⟩ (.int .i64 ((rd_T50 l0 t592).f3))).heap[gb594]? = some (.cells #[.int .i64 ((rd_T50 l0 t592).f0), .int .i64 ((rd_T50 l0 t592).f1), .int .i64 ((rd_T50 l0 t592).f2), .int .i64 ((rd_T50 l0 t592).f3)] 50 (0, 0))) := ⟨kp BK594⟩
          have n3_ : Aside0 (Below w.heap.size w ((((w35.setCell ⟨gb594, 0, none⟩ (.int .i64 ((rd_T50 l0 t592).f0))).setCell ⟨gb594, 1, none⟩ (.int .i64 ((rd_T50 l0 t592).f1))).setCell ⟨gb594, 2, none⟩ (.int .i64 ((rd_T50 l0 t592).f2))).setCell ⟨gb594, 3, none⟩ (.int .i64 ((rd_T50 l0 t592).f3)))) := ⟨bG⟩
          (try clear HO_26)
          (try clear HO_34)
          (try clear BK594)
          (try clear HB)
          generalize ((((w35.setCell ⟨gb594, 0, none⟩ (.int .i64 ((rd_T50 l0 t592).f0))).setCell ⟨gb594, 1, none⟩ (.int .i64 ((rd_T50 l0 t592).f1))).setCell ⟨gb594, 2, none⟩ (.int .i64 ((rd_T50 l0 t592).f2))).setCell ⟨gb594, 3, none⟩ (.int .i64 ((rd_T50 l0 t592).f3))) = w37 at n0_ n1_ n2_ n3_ ⊢
          have HO_26 := n0_
          have HO_34 := n1_
          have BK594 := n2_
          have HB := n3_
          clear n0_ n1_ n2_ n3_
          replace HO_26 := dr HO_26
          replace HO_34 := dr HO_34
          replace BK594 := dk BK594
          have HBo := HB
          replace HB := db HB
          obtain ⟨p596, q596⟩ : 0 ≤ (t595 : Int) ∧ t595 < (l0.length : Int) := ⟨dA, dA⟩
          obtain ⟨ad596, e596, hx596_0, hx596_1, hx596_2, hx596_3⟩ := at_T50 HR0.out t595 p596 q596
          have hw596_3 := hx596_3
          have hw596_2 := hx596_2
          have hw596_1 := hx596_1
          have hw596_0 := hx596_0
          obtain rfl : ad593 = ad596 := (by injection e596)
          replace hx596_0 := hC HB hx596_0
          replace hx596_1 := hC HB hx596_1
          replace hx596_2 := hC HB hx596_2
          replace hx596_3 := hC HB hx596_3
          obtain ⟨p596, q596⟩ := eT p596 q596
          refine start_ (n := 8) (S := fun w' => w'.cell? ⟨gb594, 0, none⟩ = some (.int .i64 ((rd_T50 l0 t592).f0)) ∧ w'.cell? ⟨gb594, 1, none⟩ = some (.int .i64 ((rd_T50 l0 t592).f1)) ∧ w'.cell? ⟨gb594, 2, none⟩ = some (.int .i64 ((rd_T50 l0 t592).f2)) ∧ w'.cell? ⟨gb594, 3, none⟩ = some (.int .i64 ((rd_T50 l0 t592).f3)) ∧ w'.cell? (ad593.add ((t595).toNat * 4)) = some (.int .i64 ((rd_T50 l0 t595).f0)) ∧ w'.cell? ⟨(ad593.add ((t595).toNat * 4)).block, (ad593.add ((t595).toNat * 4)).off + 1, none⟩ = some (.int .i64 ((rd_T50 l0 t595).f1)) ∧ w'.cell? ⟨(ad593.add ((t595).toNat * 4)).block, (ad593.add ((t595).toNat * 4)).off + 2, none⟩ = some (.int .i64 ((rd_T50 l0 t595).f2)) ∧ w'.cell? ⟨(ad593.add ((t595).toNat * 4)).block, (ad593.add ((t595).toNat * 4)).off + 3, none⟩ = some (.int .i64 ((rd_T50 l0 t595).f3))) (ds := []) (mb 8 0) (by kernel_rfl) rfl rfl (cm4 BK594 ⟨(hC HB hw596_0), (hC HB hw596_1), (hC HB hw596_2), (hC HB hw596_3)⟩) (fun hHeld => ?_); refine with_tabW impl_ClearBetween.tab11 impl_ClearBetween.bits11 (fun HT_ HW_ => ?_)
          generalize w37.drew = w38 at HO_26 HO_34 BK594 HB hx596_0 hx596_1 hx596_2 hx596_3 hHeld ⊢
          refine pa 1 47 (mb 8 2) HT_ ?_
          refine pa 2 48 (mb 8 6) HT_ ?_
          refine pa 3 49 (mb 8 14) HT_ ?_
          refine ta8 0 46 (mb 8 15) HT_ HW_ hHeld ?_
          refine oa 4 50 (mb 8 31) HT_ (fun K hK => ?_)
          refine gA Try.func16 #[.slice (some ad593) l0.length c0, .int .i64 (rd t588 x36_3)] ?_
          with_reducible refine (impl_FindPath.calls _ _ l0 (rd t588 x36_3) t595 _ ?side1 ?side2 A27.out).mono ?_
          (case side1 => exact cB HR0)
          (case side2 => exact HC0.out)
          rintro e w39 ⟨rfl, hb⟩
          refine ⟨_, rfl, ?_⟩
          replace HO_26 := rb HO_26 hb
          replace HO_34 := rb HO_34 hb
          replace BK594 := kb BK594 hb
          replace HB := bs HB hb
          (try clear hb)
          (try clear hb2)
          (try clear hk)
          (try clear hi)
          refine hK.out _ _ (cm4 BK594 ⟨(hC HB hw596_0), (hC HB hw596_1), (hC HB hw596_2), (hC HB hw596_3)⟩) (fun hHeld => ?_)
          clear hK K
          refine nB ?_
          refine pa 5 51 (mb 8 63) HT_ ?_
          refine ta8 6 52 (mb 8 127) HT_ HW_ hHeld ?_
          refine oa 7 53 (mb 8 255) HT_ (fun K hK => ?_)
          refine gA Try.func101 #[.agg #[.int .i64 ((rd_T50 l0 t592).f0), .int .i64 ((rd_T50 l0 t592).f1), .int .i64 ((rd_T50 l0 t592).f2), .int .i64 ((rd_T50 l0 t592).f3)], .agg #[.int .i64 ((rd_T50 l0 t595).f0), .int .i64 ((rd_T50 l0 t595).f1), .int .i64 ((rd_T50 l0 t595).f2), .int .i64 ((rd_T50 l0 t595).f3)]] ?_
          with_reducible refine (impl_Conflict.calls k3 ((rd_T50 l0 t592).f0) ((rd_T50 l0 t592).f1) ((rd_T50 l0 t592).f2) ((rd_T50 l0 t592).f3) ((rd_T50 l0 t595).f0) ((rd_T50 l0 t595).f1) ((rd_T50 l0 t595).f2) ((rd_T50 l0 t595).f3) true _ A30.out).mono ?_
          rintro e w40 ⟨rfl, hb⟩
          refine ⟨_, rfl, ?_⟩
          replace HO_26 := rb HO_26 hb
          replace HO_34 := rb HO_34 hb
          replace BK594 := kb BK594 hb
          replace HB := bs HB hb
          (try clear hb)
          (try clear hb2)
          (try clear hk)
          (try clear hi)
          refine hK.out _ _ (cm4 BK594 ⟨(hC HB hw596_0), (hC HB hw596_1), (hC HB hw596_2), (hC HB hw596_3)⟩) (fun hHeld => ?_)
          clear hK K
          refine nB ?_
          refine eA HT_ ?_
          obtain ⟨_, _, _, _, _, _, _, _⟩ := blkc4 BK594
          try go_wp2_with (first | ((with_reducible refine gate_callee (f := 120) rfl ?_); refine gL (some 56) Try.func120 #[.agg #[.int .i64 ((rd_T50 l0 t592).f0), .int .i64 ((rd_T50 l0 t592).f1), .int .i64 ((rd_T50 l0 t592).f2), .int .i64 ((rd_T50 l0 t592).f3)]] ?_; (with_reducible refine (impl_ClearOf.calls ((rd_T50 l0 t592).f0) ((rd_T50 l0 t592).f1) ((rd_T50 l0 t592).f2) ((rd_T50 l0 t592).f3) t598 _ A32.out).mono ?_); rintro e w42 ⟨rfl, hb⟩; refine ⟨_, rfl, ?_⟩; replace HO_26 := rb HO_26 hb; replace HO_34 := rb HO_34 hb; replace BK594 := kb BK594 hb; replace HB := bs HB hb; (try clear hb)))
          go_roundg k3
          case measure => have := HJ3.out; have := HK2.out; have := HK3.out; omega
          case rel => exact ⟨(ji33), (wrap64 (x36_3 + 1)), (by first | rfl | (simp; done) | (simp only [← hji33] <;> (first | rfl | simp)) | (simp [*]; done)), rS, H', ⟨by have := HJ3.out; have := HK2.out; have := HK3.out; omega⟩, ⟨rK HO_26⟩, ⟨rK HO_34⟩, ⟨bG⟩⟩
         replace c31 := Bool.eq_false_iff.mpr c31
         subst c31
         have H1 : (impl_ClearBetween.l1 k3 l0 l1 l2 x7_3 (rd t584 x28_2) t584 (t584.length : Int) x28_2 t588 (t588.length : Int) (wrap64 (x36_3 + 1))) = some r := by rw [if_neg (show ¬ (false = true) by decide)] at H; exact H
         clear H
         have H := H1
         clear H1
         have H' := Aside0.mk H
         clear H
         obtain ⟨p591, q591⟩ : 0 ≤ (x36_3 : Int) ∧ x36_3 < (t588.length : Int) := ⟨dA, dA⟩
         obtain ⟨ad591, e591, hx591_0⟩ := Kd.at_int (Kd.R_reads' HO_34.out).2.2 x36_3 p591 q591
         cases e591
         obtain ⟨p591, q591⟩ := eT p591 q591
         try go_wp2_with (first | ((with_reducible refine gate_callee (f := 16) rfl ?_); refine gL (some 43) Try.func16 #[.slice A0 l0.length c0, .int .i64 (rd t584 x28_2)] ?_; (with_reducible refine (impl_FindPath.calls _ _ l0 (rd t584 x28_2) t592 _ ?_ ?_ A24.out).mono ?_); exact cB HR0; exact HC0.out; rintro e w43 ⟨rfl, hb⟩; refine ⟨_, rfl, ?_⟩; replace HO_26 := rb HO_26 hb; replace HO_34 := rb HO_34 hb; replace HB := bs HB hb; (try clear hb); have p593 : 0 ≤ (t592 : Int) := dA; have q593 : t592 < (l0.length : Int) := dA; obtain ⟨ad593, e593, hx593_0, hx593_1, hx593_2, hx593_3⟩ := at_T50 HR0.out t592 p593 q593; cases e593; replace hx593_0 := hC HB hx593_0; replace hx593_1 := hC HB hx593_1; replace hx593_2 := hC HB hx593_2; replace hx593_3 := hC HB hx593_3; replace p593 := eq_true p593; replace q593 := eq_true q593) | ((with_reducible refine gate_dst (N := 12) rfl ?_); refine bE (N := 12) (cs := #[.int .i64 0, .int .i64 0, .int .i64 0, .int .i64 0]) (t := 50) ?_; intro gb594 hg w44 hbox hb; replace HO_26 := rb HO_26 hb; replace HO_34 := rb HO_34 hb; have BK594 := Aside0.mk (hbox); have GW594 := gw w hg; have GE594 := gw w hg; replace HB := bs HB hb; clear hb hbox hg; obtain ⟨_, _, _, _, _, _, _, _⟩ := blkc4 BK594))
         have n0_ : Aside0 (Kd.R (Kd.int .i64) 3 ((((w44.setCell ⟨gb594, 0, none⟩ (.int .i64 ((rd_T50 l0 t592).f0))).setCell ⟨gb594, 1, none⟩ (.int .i64 ((rd_T50 l0 t592).f1))).setCell ⟨gb594, 2, none⟩ (.int .i64 ((rd_T50 l0 t592).f2))).setCell ⟨gb594, 3, none⟩ (.int .i64 ((rd_T50 l0 t592).f3))) w.heap.size (n1 (.slice (some ad591) t588.length co20)) (.slice (some ad587) t584.length co14) t584) := ⟨rf HO_26 BK594⟩
         have n1_ : Aside0 (Kd.R (Kd.int .i64) 3 ((((w44.setCell ⟨gb594, 0, none⟩ (.int .i64 ((rd_T50 l0 t592).f0))).setCell ⟨gb594, 1, none⟩ (.int .i64 ((rd_T50 l0 t592).f1))).setCell ⟨gb594, 2, none⟩ (.int .i64 ((rd_T50 l0 t592).f2))).setCell ⟨gb594, 3, none⟩ (.int .i64 ((rd_T50 l0 t592).f3))) w.heap.size (n1 (.slice (some ad587) t584.length co14)) (.slice (some ad591) t588.length co20) t588) := ⟨rf HO_34 BK594⟩
         have n2_ : Aside0 (((((w44.setCell ⟨gb594, 0, none⟩ (.int .i64 ((rd_T50 l0 t592).f0))).setCell ⟨gb594, 1, none⟩ (.int .i64 ((rd_T50 l0 t592).f1))).setCell ⟨gb594, 2, none⟩ (.int .i64 ((rd_T50 l0 t592).f2))).setCell ⟨gb594, 3, none⟩ (.int .i64 ((rd_T50 l0 t592).f3))).heap[gb594]? = some (.cells #[.int .i64 ((rd_T50 l0 t592).f0), .int .i64 ((rd_T50 l0 t592).f1), .int .i64 ((rd_T50 l0 t592).f2), .int .i64 ((rd_T50 l0 t592).f3)] 50 (0, 0))) := ⟨kp BK594⟩
         have n3_ : Aside0 (Below w.heap.size w ((((w44.setCell ⟨gb594, 0, none⟩ (.int .i64 ((rd_T50 l0 t592).f0))).setCell ⟨gb594, 1, none⟩ (.int .i64 ((rd_T50 l0 t592).f1))).setCell ⟨gb594, 2, none⟩ (.int .i64 ((rd_T50 l0 t592).f2))).setCell ⟨gb594, 3, none⟩ (.int .i64 ((rd_T50 l0 t592).f3)))) := ⟨bG⟩
         (try clear HO_26)
         (try clear HO_34)
         (try clear BK594)
         (try clear HB)
         generalize ((((w44.setCell ⟨gb594, 0, none⟩ (.int .i64 ((rd_T50 l0 t592).f0))).setCell ⟨gb594, 1, none⟩ (.int .i64 ((rd_T50 l0 t592).f1))).setCell ⟨gb594, 2, none⟩ (.int .i64 ((rd_T50 l0 t592).f2))).setCell ⟨gb594, 3, none⟩ (.int .i64 ((rd_T50 l0 t592).f3))) = w46 at n0_ n1_ n2_ n3_ ⊢
         have HO_26 := n0_
         have HO_34 := n1_
         have BK594 := n2_
         have HB := n3_
         clear n0_ n1_ n2_ n3_
         replace HO_26 := dr HO_26
         replace HO_34 := dr HO_34
         replace BK594 := dk BK594
         have HBo := HB
         replace HB := db HB
         obtain ⟨p596, q596⟩ : 0 ≤ (t595 : Int) ∧ t595 < (l0.length : Int) := ⟨dA, dA⟩
         obtain ⟨ad596, e596, hx596_0, hx596_1, hx596_2, hx596_3⟩ := at_T50 HR0.out t595 p596 q596
         have hw596_3 := hx596_3
         have hw596_2 := hx596_2
         have hw596_1 := hx596_1
         have hw596_0 := hx596_0
         obtain rfl : ad593 = ad596 := (by injection e596)
         replace hx596_0 := hC HB hx596_0
         replace hx596_1 := hC HB hx596_1
         replace hx596_2 := hC HB hx596_2
         replace hx596_3 := hC HB hx596_3
         obtain ⟨p596, q596⟩ := eT p596 q596
         refine start_ (n := 8) (S := fun w' => w'.cell? ⟨gb594, 0, none⟩ = some (.int .i64 ((rd_T50 l0 t592).f0)) ∧ w'.cell? ⟨gb594, 1, none⟩ = some (.int .i64 ((rd_T50 l0 t592).f1)) ∧ w'.cell? ⟨gb594, 2, none⟩ = some (.int .i64 ((rd_T50 l0 t592).f2)) ∧ w'.cell? ⟨gb594, 3, none⟩ = some (.int .i64 ((rd_T50 l0 t592).f3)) ∧ w'.cell? (ad593.add ((t595).toNat * 4)) = some (.int .i64 ((rd_T50 l0 t595).f0)) ∧ w'.cell? ⟨(ad593.add ((t595).toNat * 4)).block, (ad593.add ((t595).toNat * 4)).off + 1, none⟩ = some (.int .i64 ((rd_T50 l0 t595).f1)) ∧ w'.cell? ⟨(ad593.add ((t595).toNat * 4)).block, (ad593.add ((t595).toNat * 4)).off + 2, none⟩ = some (.int .i64 ((rd_T50 l0 t595).f2)) ∧ w'.cell? ⟨(ad593.add ((t595).toNat * 4)).block, (ad593.add ((t595).toNat * 4)).off + 3, none⟩ = some (.int .i64 ((rd_T50 l0 t595).f3))) (ds := []) (mb 8 0) (by kernel_rfl) rfl rfl (cm4 BK594 ⟨(hC HB hw596_0), (hC HB hw596_1), (hC HB hw596_2), (hC HB hw596_3)⟩) (fun hHeld => ?_); refine with_tabW impl_ClearBetween.tab11 impl_ClearBetween.bits11 (fun HT_ HW_ => ?_)
         generalize w46.drew = w47 at HO_26 HO_34 BK594 HB hx596_0 hx596_1 hx596_2 hx596_3 hHeld ⊢
         refine pa 1 47 (mb 8 2) HT_ ?_
         refine pa 2 48 (mb 8 6) HT_ ?_
         refine pa 3 49 (mb 8 14) HT_ ?_
         refine ta8 0 46 (mb 8 15) HT_ HW_ hHeld ?_
         refine oa 4 50 (mb 8 31) HT_ (fun K hK => ?_)
         refine gA Try.func16 #[.slice (some ad593) l0.length c0, .int .i64 (rd t588 x36_3)] ?_
         with_reducible refine (impl_FindPath.calls _ _ l0 (rd t588 x36_3) t595 _ ?side1 ?side2 A27.out).mono ?_
         (case side1 => exact cB HR0)
         (case side2 => exact HC0.out)
         rintro e w48 ⟨rfl, hb⟩
         refine ⟨_, rfl, ?_⟩
         replace HO_26 := rb HO_26 hb
         replace HO_34 := rb HO_34 hb
         replace BK594 := kb BK594 hb
         replace HB := bs HB hb
         (try clear hb)
         (try clear hb2)
         (try clear hk)
         (try clear hi)
         refine hK.out _ _ (cm4 BK594 ⟨(hC HB hw596_0), (hC HB hw596_1), (hC HB hw596_2), (hC HB hw596_3)⟩) (fun hHeld => ?_)
         clear hK K
         refine nB ?_
         refine pa 5 51 (mb 8 63) HT_ ?_
         refine ta8 6 52 (mb 8 127) HT_ HW_ hHeld ?_
         refine oa 7 53 (mb 8 255) HT_ (fun K hK => ?_)
         refine gA Try.func101 #[.agg #[.int .i64 ((rd_T50 l0 t592).f0), .int .i64 ((rd_T50 l0 t592).f1), .int .i64 ((rd_T50 l0 t592).f2), .int .i64 ((rd_T50 l0 t592).f3)], .agg #[.int .i64 ((rd_T50 l0 t595).f0), .int .i64 ((rd_T50 l0 t595).f1), .int .i64 ((rd_T50 l0 t595).f2), .int .i64 ((rd_T50 l0 t595).f3)]] ?_
         with_reducible refine (impl_Conflict.calls k3 ((rd_T50 l0 t592).f0) ((rd_T50 l0 t592).f1) ((rd_T50 l0 t592).f2) ((rd_T50 l0 t592).f3) ((rd_T50 l0 t595).f0) ((rd_T50 l0 t595).f1) ((rd_T50 l0 t595).f2) ((rd_T50 l0 t595).f3) false _ A30.out).mono ?_
         rintro e w49 ⟨rfl, hb⟩
         refine ⟨_, rfl, ?_⟩
         replace HO_26 := rb HO_26 hb
         replace HO_34 := rb HO_34 hb
         replace BK594 := kb BK594 hb
         replace HB := bs HB hb
         (try clear hb)
         (try clear hb2)
         (try clear hk)
         (try clear hi)
         refine hK.out _ _ (cm4 BK594 ⟨(hC HB hw596_0), (hC HB hw596_1), (hC HB hw596_2), (hC HB hw596_3)⟩) (fun hHeld => ?_)
         clear hK K
         refine nB ?_
         refine eA HT_ ?_
         try go_wp2
         go_roundg k3
         case measure => have := HJ3.out; have := HK2.out; have := HK3.out; omega
         case rel => exact ⟨(x7_3), (wrap64 (x36_3 + 1)), rS, rS, H', ⟨by have := HJ3.out; have := HK2.out; have := HK3.out; omega⟩, ⟨rK HO_26⟩, ⟨rK HO_34⟩, ⟨bG⟩⟩
        rw [if_neg c21] at H
        have c21b0 := decide_eq_false c21
        clear c21
        have H' := Aside0.mk H
        clear H
        go_wp2
        go_roundg k3
        case measure => have := HJ3.out; have := HK2.out; have := HK3.out; omega
        case rel => exact ⟨(x7_3), (wrap64 (x28_2 + 1)), rS, rS, H', ⟨by have := HJ3.out; have := HK2.out; have := HK3.out; omega⟩, ⟨rm HO_26 (fun _ hk => trivial)⟩, ⟨bA⟩⟩
     rw [if_neg c15] at H
     have c15b0 := decide_eq_false c15
     clear c15
     obtain rfl := Option.some.inj H
     go_wp2
     go_ret
     exact ⟨rA, bA⟩

/-! ### impl_nextStage: function 122 -/
def impl_nextStage.f (l0 : List (S85)) (a1 : Int) : Option (List Int) := if (l0.length : Int) = 0 then (none) else (if 0 ≤ (Int.tmod (wrap64 (a1 + 1)) (l0.length : Int)) then (if (Int.tmod (wrap64 (a1 + 1)) (l0.length : Int)) < (l0.length : Int) then (some ((rd_T85 l0 (Int.tmod (wrap64 (a1 + 1)) (l0.length : Int))).f0)) else (none)) else (none))
set_option maxHeartbeats 8000000 in
set_option maxRecDepth 100000 in
theorem impl_nextStage.calls (P0_ : Nat → Prop) (A0 : Option Addr) (c0 : Nat) (l0 : List (S85)) (a1 : Int) (r : List Int) (w : World) (hs0 : Kd.V k85 85 w w.heap.size (fun k_ => P0_ k_) (.slice A0 l0.length c0) l0) (h : impl_nextStage.f l0 a1 = some r) :
  Calls Try.prog 122 #[.slice A0 l0.length c0, .int .i64 a1] w fun e w' => ∃ v0_ : Value, e = .returned (v0_) ∧ Kd.V (Kd.int .i64) 3 w' w.heap.size (fun k_ => (P0_ k_ ∨ w.heap.size ≤ k_)) v0_ r ∧ Below w.heap.size w w' := by
 have HO0 := Aside0.mk (show Kd.V k85 85 w w.heap.size (fun k_ => (P0_ k_ ∨ w.heap.size ≤ k_)) (.slice A0 l0.length c0) l0 from Kd.V_mono hs0 (fun k_ hk => .inl hk))
 have HB := Aside0.mk (Below.refl w.heap.size w)
 have H : (if (l0.length : Int) = 0 then (none) else (if 0 ≤ (Int.tmod (wrap64 (a1 + 1)) (l0.length : Int)) then (if (Int.tmod (wrap64 (a1 + 1)) (l0.length : Int)) < (l0.length : Int) then (some ((rd_T85 l0 (Int.tmod (wrap64 (a1 + 1)) (l0.length : Int))).f0)) else (none)) else (none))) = some r := h
 clear h
 have c3 : ¬ ((l0.length : Int) = 0) := ifN' H
 replace H := ifT' H
 have c3b0 : ((l0.length : Int) == 0) = false := beq_eq_false_iff_ne.mpr c3
 have c3b1 : ((l0.length : Int) != 0) = true := bne_iff_ne.mpr c3
 have c3b2 : ¬ (l0 = []) := fun h_ => c3 (by rw [h_]; rfl)
 obtain ⟨ji4, hji4⟩ : ∃ j_ : Int, (Int.tmod (wrap64 (a1 + 1)) (l0.length : Int)) = j_ := ⟨_, rfl⟩
 replace H : (if 0 ≤ (ji4) then (if (ji4) < (l0.length : Int) then (some ((rd_T85 l0 (ji4)).f0)) else (none)) else (none)) = some r := by first | (rw [hji4] at H; exact H) | (simp only [hji4] at H ⊢; exact H)
 have c5 : 0 ≤ (ji4) := ifN H
 replace H := ifT H
 have c5b0 := decide_eq_true c5
 clear c5
 have c6 : (ji4) < (l0.length : Int) := ifN H
 replace H := ifT H
 have c6b0 := decide_eq_true c6
 clear c6
 obtain rfl := Option.some.inj H
 obtain ⟨p599, q599⟩ : 0 ≤ ((ji4) : Int) ∧ (ji4) < (l0.length : Int) := ⟨dA, dA⟩
 obtain ⟨ad599, A599_0, c599_0, e599, hx599_0, hx599_1, hl599_0, hi599_0⟩ := at_T85 (Kd.V_reads' HO0.out).2.2 (ji4) p599 q599
 cases e599
 obtain ⟨ce599, hce599, hMe599, hcc599⟩ := Kd.V_get HO0.out z85 (ji4) p599 (by first | exact q599 | exact dA | (have e_ := (Kd.V_reads' HO0.out).1; omega))
 obtain ⟨ua599_0, uc599_0, rfl, ul599_0, ge599_0⟩ := k85_openF hMe599
 have hv599_0 := hcc599 0 _ rfl
 rw [Nat.add_zero] at hv599_0
 replace hv599_0 := Option.some.inj (hv599_0.symm.trans hx599_0)
 injection hv599_0 with hva_ hvn_ hvc_
 rw [hva_] at ge599_0
 rw [hvc_] at ul599_0
 have HL599_0 := Aside0.mk (show Kd.V (Kd.int .i64) 3 _ w.heap.size _ _ ((rd_T85 l0 (ji4)).f0) from Kd.V_mk ul599_0 ge599_0)
 clear hva_ hvn_ hvc_ ge599_0 ul599_0
 clear hcc599 hce599
 have HR599_0 := Aside0.mk hi599_0
 have HC599_0 := Aside0.mk hl599_0
 clear hi599_0 hl599_0
 obtain ⟨p599, q599⟩ := eT p599 q599
 go_enter Try.func122, Try.ntmps122
 go_wp2
 go_ret
 exact ⟨_, by first | rfl | (simp [errW_none, errW_some] <;> rfl) | (simp only [← hji4]; first | rfl | (simp [errW_none, errW_some] <;> rfl)) | (simp [*, errW_none, errW_some] <;> rfl), by (with_reducible repeat (first | apply Kd.V_alloc | apply Kd.V_drewN | apply Kd.V_drew)); exact HL599_0.out, bA⟩

/-! ### impl_longOf: function 108 -/
def impl_longOf.f (k : Nat) (l0 : List (S50)) (l1 : List (S85)) (a2 : Int) : Option (Int) := if 0 ≤ a2 then (if a2 < (l1.length : Int) then ((impl_nextStage.f l1 a2).bind fun t602 => ((impl_ClearBetween.f k l0 ((rd_T85 l1 a2).f0) t602).bind fun t605 => (some (wrap64 (((rd_T85 l1 a2).f1) + t605))))) else (none)) else (none)
theorem impl_longOf.mono : ∀ a0 a1 a2 k, LeO (impl_longOf.f k a0 a1 a2) (impl_longOf.f (k + 1) a0 a1 a2) := by
 intro a0 a1 a2 k
 unfold impl_longOf.f
 exact mz1 impl_ClearBetween.mono
def impl_longOf.T1 : Bool × List (List Nat × List Nat) := (true, [([], []), ([], []), ([0, 1], [0, 1]), ([2], [2]), ([3], [3]), ([], []), ([], []), ([], []), ([6, 7], [6, 7]), ([8], [8]), ([9], [9]), ([], []), ([], []), ([11, 12], [11, 12]), ([5, 10, 13, 13], [5, 10, 13]), ([4, 14], [4, 14]), ([15, 14, 0, 1, 2, 3, 4, 5, 6, 7, 8, 9, 10, 11, 12, 13, 14, 15], [15])])
def impl_longOf.B1 : List Nat := [0, 0, 3, 7, 15, 0, 0, 0, 192, 448, 960, 0, 0, 6144, 16352, 32767, 65535]
theorem impl_longOf.tab1 : rtab .any (opsOf Try.f108 1) = impl_longOf.T1 := by kernel_rfl
theorem impl_longOf.bits1 : waitsOk impl_longOf.T1.2 impl_longOf.B1 = true := by kernel_rfl
set_option maxHeartbeats 8000000 in
set_option maxRecDepth 100000 in
theorem impl_longOf.calls (k : Nat) (A0 : Option Addr) (c0 : Nat) (l0 : List (S50)) (A1 : Option Addr) (c1 : Nat) (l1 : List (S85)) (a2 : Int) (r : Int) (w : World) (hr0 : Kd.C k50 w A0 l0.length l0) (hc0 : l0.length ≤ c0) (hr1 : Kd.C k85 w A1 l1.length l1) (hc1 : l1.length ≤ c1) (h : impl_longOf.f k l0 l1 a2 = some r) :
  Calls Try.prog 108 #[.slice A0 l0.length c0, .slice A1 l1.length c1, .int .i64 a2] w fun e w' => e = .returned (.int .i64 r) ∧ Below w.heap.size w w' := by
 have HR0 := Aside0.mk hr0
 have HC0 := Aside0.mk hc0
 clear hr0 hc0
 have HR1 := Aside0.mk hr1
 have HC1 := Aside0.mk hc1
 clear hr1 hc1
 have HB := Aside0.mk (Below.refl w.heap.size w)
 have H : (if 0 ≤ a2 then (if a2 < (l1.length : Int) then ((impl_nextStage.f l1 a2).bind fun t602 => ((impl_ClearBetween.f k l0 ((rd_T85 l1 a2).f0) t602).bind fun t605 => (some (wrap64 (((rd_T85 l1 a2).f1) + t605))))) else (none)) else (none)) = some r := h
 clear h
 have c4 : 0 ≤ a2 := ifN H
 replace H := ifT H
 have c4b0 := decide_eq_true c4
 clear c4
 have c5 : a2 < (l1.length : Int) := ifN H
 replace H := ifT H
 have c5b0 := decide_eq_true c5
 clear c5
 obtain ⟨t602, A6, H⟩ := bindE H
 try dsimp only at H
 obtain ⟨t605, A7, H⟩ := bindE H
 try dsimp only at H
 obtain rfl := Option.some.inj H
 go_enter Try.func108, Try.ntmps108
 try go_wp2
 have HBo := HB
 replace HB := db HB
 obtain ⟨p600, q600⟩ : 0 ≤ (a2 : Int) ∧ a2 < (l1.length : Int) := ⟨dA, dA⟩
 obtain ⟨ad600, A600_0, c600_0, e600, hx600_0, hx600_1, hl600_0, hi600_0⟩ := at_T85 HR1.out a2 p600 q600
 have hw600_1 := hx600_1
 have hw600_0 := hx600_0
 cases e600
 replace hx600_0 := hC HB hx600_0
 replace hx600_1 := hC HB hx600_1
 have HR600_0 := Aside0.mk hi600_0
 have HC600_0 := Aside0.mk hl600_0
 clear hi600_0 hl600_0
 obtain ⟨p600, q600⟩ := eT p600 q600
 obtain ⟨p601, q601⟩ : 0 ≤ (a2 : Int) ∧ a2 < (l1.length : Int) := ⟨dA, dA⟩
 obtain ⟨ad601, A601_0, c601_0, e601, hx601_0, hx601_1, hl601_0, hi601_0⟩ := at_T85 HR1.out a2 p601 q601
 have hw601_1 := hx601_1
 have hw601_0 := hx601_0
 obtain rfl : ad600 = ad601 := (by injection e601)
 replace hx601_0 := hC HB hx601_0
 replace hx601_1 := hC HB hx601_1
 have HR601_0 := Aside0.mk hi601_0
 have HC601_0 := Aside0.mk hl601_0
 clear hi601_0 hl601_0
 obtain ⟨p601, q601⟩ := eT p601 q601
 have ea_ := Option.some.inj (hx600_0.symm.trans hx601_0)
 injection ea_ with ea_ en_ ec_
 subst ea_
 subst ec_
 clear en_
 refine start_ (n := 17) (S := fun w' => w'.cell? (ad600.add ((a2).toNat * 2)) = some (.slice A600_0 ((rd_T85 l1 a2).f0).length c600_0) ∧ w'.cell? ⟨(ad600.add ((a2).toNat * 2)).block, (ad600.add ((a2).toNat * 2)).off + 1, none⟩ = some (.int .i64 ((rd_T85 l1 a2).f1)) ∧ w'.cell? (ad600.add ((a2).toNat * 2)) = some (.slice A600_0 ((rd_T85 l1 a2).f0).length c600_0) ∧ w'.cell? ⟨(ad600.add ((a2).toNat * 2)).block, (ad600.add ((a2).toNat * 2)).off + 1, none⟩ = some (.int .i64 ((rd_T85 l1 a2).f1))) (ds := []) (mb 17 0) (by kernel_rfl) rfl rfl ⟨(hC HB hw600_0), (hC HB hw600_1), (hC HB hw601_0), (hC HB hw601_1)⟩ (fun hHeld => ?_); refine with_tabW impl_longOf.tab1 impl_longOf.bits1 (fun HT_ HW_ => ?_)
 generalize w.drew = w8 at HB HR600_0 HR601_0 hx600_0 hx600_1 hx601_0 hx601_1 hHeld ⊢
 refine pa 0 7 (mb 17 1) HT_ ?_
 refine pa 1 8 (mb 17 3) HT_ ?_
 refine pa 2 9 (mb 17 7) HT_ ?_
 refine pa 3 10 (mb 17 15) HT_ ?_
 refine pa 5 12 (mb 17 47) HT_ ?_
 refine pa 6 13 (mb 17 111) HT_ ?_
 refine pa 7 14 (mb 17 239) HT_ ?_
 refine pa 8 15 (mb 17 495) HT_ ?_
 refine pa 9 16 (mb 17 1007) HT_ ?_
 refine pa 11 18 (mb 17 3055) HT_ ?_
 refine pa 12 19 (mb 17 7151) HT_ ?_
 refine ta4 4 11 (mb 17 7167) HT_ HW_ hHeld ?_
 refine ta4 10 17 (mb 17 8191) HT_ HW_ hHeld ?_
 refine oa 13 20 (mb 17 16383) HT_ (fun K hK => ?_)
 refine gA Try.func122 #[.slice (some ad600) l1.length c1, .int .i64 a2] ?_
 with_reducible refine (impl_nextStage.calls (fun k_ => k_ < w.heap.size) _ _ l1 a2 t602 _ ?side1 A6.out).mono ?_
 (case side1 => exact Kd.V_mk HC1.out (Kd.F_below (Kd.C_F k85_heap HR1.out) bA))
 rintro e w9 ⟨v603, rfl, ho0, hb⟩
 refine ⟨_, rfl, ?_⟩
 have HO604 := Aside0.mk (Kd.V_lower (Kd.V_mono (ok' := fun k_ => True) ho0 (fun k_ hk_ => trivial)) (below_size bA))
 replace HB := bs HB hb
 (try clear hb)
 (try clear hb2)
 (try clear hk)
 (try clear hi)
 (try clear ho0)
 obtain ⟨Ao10, co10, eo10⟩ := Kd.V_slice HO604.out
 (first | subst eo10 | (injection eo10 with f1_ f2_ f3_; have f4_ := f1_.symm; have f5_ := f3_.symm; clear f1_ f2_ f3_; subst f4_; subst f5_))
 refine hK.out _ _ ⟨(hC HB hw600_0), (hC HB hw600_1), (hC HB hw601_0), (hC HB hw601_1)⟩ (fun hHeld => ?_)
 clear hK K
 refine nB ?_
 refine oa 14 21 (mb 17 32767) HT_ (fun K hK => ?_)
 refine gA Try.func99 #[.slice A0 l0.length c0, .slice A600_0 ((rd_T85 l1 a2).f0).length c600_0, .slice Ao10 t602.length co10] ?_
 with_reducible refine (impl_ClearBetween.calls k _ _ l0 _ _ ((rd_T85 l1 a2).f0) _ _ t602 t605 _ ?side1 ?side2 ?side3 ?side4 ?side5 ?side6 A7.out).mono ?_
 (case side1 => exact cB HR0)
 (case side2 => exact HC0.out)
 (case side3 => exact cB HR601_0)
 (case side4 => exact HC601_0.out)
 (case side5 => repeat (first | exact (Kd.V_reads' HO604.out).2.2 | (with_reducible refine Kd.C_alloc ?_ _) | (with_reducible refine Kd.C_drewN ?_ _) | (with_reducible refine Kd.C_drew ?_)))
 (case side6 => exact (Kd.V_reads' HO604.out).2.1)
 rintro e w11 ⟨rfl, hb⟩
 refine ⟨_, rfl, ?_⟩
 replace HO604 := Aside0.mk (Kd.V_below (by (with_reducible repeat (first | apply Kd.V_alloc | apply Kd.V_drewN | apply Kd.V_drew)); exact HO604.out) hb)
 replace HB := bs HB hb
 (try clear hb)
 (try clear hb2)
 (try clear hk)
 (try clear hi)
 refine hK.out _ _ ⟨(hC HB hw600_0), (hC HB hw600_1), (hC HB hw601_0), (hC HB hw601_1)⟩ (fun hHeld => ?_)
 clear hK K
 refine nB ?_
 refine pa 15 22 (mb 17 65535) HT_ ?_
 refine pa 16 6 (mb 17 131071) HT_ ?_
 refine eA HT_ ?_
 try go_wp2
 go_ret
 exact ⟨rA, bA⟩

/-! ### impl_SpareGreen: function 54 -/
mutual
def impl_SpareGreen.j0 : Nat → List (S50) → List (S85) → Int → Bool → Option (Int)
 | 0, _, _, _, _ => none
 | k + 1, x0, x1, x2, x18 => if x18 = true then (some (-1)) else (impl_SpareGreen.l0 k x0 x1 x2 x1 (x1.length : Int) 0)
def impl_SpareGreen.l0 : Nat → List (S50) → List (S85) → Int → List (S85) → Int → Int → Option (Int)
 | 0, _, _, _, _, _, _ => none
 | k + 1, x0, x1, x7, x20, x21, x22 => if x22 < x21 then (if 0 ≤ x22 then (if x22 < (x20.length : Int) then ((impl_longOf.f k x0 x1 x22).bind fun t610 => ((impl_LeastGreen.f k x0 ((rd_T85 x20 x22).f0)).bind fun t611 => (impl_SpareGreen.l0 k x0 x1 (wrap64 (x7 - (wrap64 ((wrap64 (t610 - ((rd_T85 x20 x22).f1))) + t611)))) x20 x21 (wrap64 (x22 + 1))))) else (none)) else (none)) else (some (mx x7 (-1)))
end
def impl_SpareGreen.f (k : Nat) (l0 : List (S50)) (l1 : List (S85)) (a2 : Int) : Option (Int) := (impl_IsPlan.f k l0 l1).bind fun t606 => (if t606 = true then ((impl_InRange.f a2 1 1000).bind fun t607 => (impl_SpareGreen.j0 k l0 l1 a2 (!t607))) else (impl_SpareGreen.j0 k l0 l1 a2 true))
theorem impl_SpareGreen.mono_l : ∀ k, (∀ y0 y1 y2 y3, LeO (impl_SpareGreen.j0 k y0 y1 y2 y3) (impl_SpareGreen.j0 (k + 1) y0 y1 y2 y3)) ∧ (∀ y0 y1 y2 y3 y4 y5, LeO (impl_SpareGreen.l0 k y0 y1 y2 y3 y4 y5) (impl_SpareGreen.l0 (k + 1) y0 y1 y2 y3 y4 y5))
 | 0 => ⟨fun _ _ _ _ r h => by simp [impl_SpareGreen.j0] at h, fun _ _ _ _ _ _ r h => by simp [impl_SpareGreen.l0] at h⟩
 | k + 1 => by
  obtain ⟨ih0, ih1⟩ := impl_SpareGreen.mono_l k
  refine ⟨?_, ?_⟩
  ·
   intro y0 y1 y2 y3
   unfold impl_SpareGreen.j0
   exact mz5 ih0 ih1 impl_IsPlan.mono impl_LeastGreen.mono impl_longOf.mono
  ·
   intro y0 y1 y2 y3 y4 y5
   unfold impl_SpareGreen.l0
   exact mz5 ih0 ih1 impl_IsPlan.mono impl_LeastGreen.mono impl_longOf.mono
theorem impl_SpareGreen.mono : ∀ a0 a1 a2 k, LeO (impl_SpareGreen.f k a0 a1 a2) (impl_SpareGreen.f (k + 1) a0 a1 a2) := by
 intro a0 a1 a2 k
 obtain ⟨ih0, ih1⟩ := impl_SpareGreen.mono_l k
 unfold impl_SpareGreen.f
 exact mz5 ih0 ih1 impl_IsPlan.mono impl_LeastGreen.mono impl_longOf.mono
def impl_SpareGreen.T7 : Bool × List (List Nat × List Nat) := (true, [([], []), ([], []), ([], []), ([], []), ([1, 2, 3], [1, 2, 3]), ([], []), ([5], [5]), ([4, 6], [4, 6]), ([], []), ([], []), ([9], [9]), ([8, 10, 4], [8, 10]), ([7, 11], [7, 11]), ([0, 12], [0, 12]), ([13, 11, 0, 1, 2, 3, 4, 5, 6, 7, 8, 9, 10, 11, 12, 13], [0, 13])])
def impl_SpareGreen.B7 : List Nat := [0, 0, 0, 0, 14, 0, 32, 126, 0, 0, 512, 1822, 4094, 8191, 16383]
theorem impl_SpareGreen.tab7 : rtab .any (opsOf Try.f54 7) = impl_SpareGreen.T7 := by kernel_rfl
theorem impl_SpareGreen.bits7 : waitsOk impl_SpareGreen.T7.2 impl_SpareGreen.B7 = true := by kernel_rfl
set_option maxHeartbeats 8000000 in
set_option maxRecDepth 100000 in
theorem impl_SpareGreen.calls (k : Nat) (A0 : Option Addr) (c0 : Nat) (l0 : List (S50)) (A1 : Option Addr) (c1 : Nat) (l1 : List (S85)) (a2 : Int) (r : Int) (w : World) (hr0 : Kd.C k50 w A0 l0.length l0) (hc0 : l0.length ≤ c0) (hr1 : Kd.C k85 w A1 l1.length l1) (hc1 : l1.length ≤ c1) (h : impl_SpareGreen.f k l0 l1 a2 = some r) :
  Calls Try.prog 54 #[.slice A0 l0.length c0, .slice A1 l1.length c1, .int .i64 a2] w fun e w' => e = .returned (.int .i64 r) ∧ Below w.heap.size w w' := by
 have hu85 := Try.underlying85
 have HR0 := Aside0.mk hr0
 have HC0 := Aside0.mk hc0
 clear hr0 hc0
 have HR1 := Aside0.mk hr1
 have HC1 := Aside0.mk hc1
 clear hr1 hc1
 have HB := Aside0.mk (Below.refl w.heap.size w)
 have H : ((impl_IsPlan.f k l0 l1).bind fun t606 => (if t606 = true then ((impl_InRange.f a2 1 1000).bind fun t607 => (impl_SpareGreen.j0 k l0 l1 a2 (!t607))) else (impl_SpareGreen.j0 k l0 l1 a2 true))) = some r := h
 clear h
 have HC4 := Aside0.mk H
 clear H
 go_enter Try.func54, Try.ntmps54
 go_upto_region 1 with (fail)
 go_cut [18] (fun v18 wc => ∃ (kq : Nat) (x18_3 : Bool), v18 = .bool x18_3 ∧ Aside0 (impl_SpareGreen.j0 kq l0 l1 a2 x18_3 = some r) ∧ Aside0 (kq ≤ k) ∧ Aside0 (Below w.heap.size w wc))
 case first =>
  have H := HC4.out
  clear HC4
  obtain ⟨t606, A5, H⟩ := bindE H
  try dsimp only at H
  by_cases c6 : t606 = true
  ·
   subst c6
   have H1 : ((impl_InRange.f a2 1 1000).bind fun t607 => (impl_SpareGreen.j0 k l0 l1 a2 (!t607))) = some r := by rw [if_pos rfl] at H; exact H
   clear H
   have H := H1
   clear H1
   obtain ⟨t607, A7, H⟩ := bindE H
   try dsimp only at H
   have H' := Aside0.mk H
   clear H
   go_wp2_with (first | ((with_reducible refine gate_callee (f := 15) rfl ?_); refine gL (some 12) Try.func15 #[.slice A0 l0.length c0, .slice A1 l1.length c1] ?_; (with_reducible refine (impl_IsPlan.calls k _ _ l0 (fun k_ => k_ < w.heap.size) _ _ l1 true _ ?_ ?_ ?_ A5.out).mono ?_); exact cB HR0; exact HC0.out; exact Kd.V_mk HC1.out (Kd.F_below (Kd.C_F k85_heap HR1.out) bA); rintro e w8 ⟨rfl, hb⟩; refine ⟨_, rfl, ?_⟩; replace HB := bs HB hb; (try clear hb)) | (go_at_call 75; (with_reducible refine (impl_InRange.calls a2 1 1000 t607 _ A7.out).mono ?_); rintro e w' ⟨rfl, ⟨nd, rfl⟩⟩))
   go_meet
   case rel => exact ⟨_, (!t607), rS, H', ⟨oL⟩, ⟨bA⟩⟩
  replace c6 := Bool.eq_false_iff.mpr c6
  subst c6
  have H1 : (impl_SpareGreen.j0 k l0 l1 a2 true) = some r := by rw [if_neg (show ¬ (false = true) by decide)] at H; exact H
  clear H
  have H := H1
  clear H1
  have H' := Aside0.mk H
  clear H
  go_wp2_with (first | ((with_reducible refine gate_callee (f := 15) rfl ?_); refine gL (some 12) Try.func15 #[.slice A0 l0.length c0, .slice A1 l1.length c1] ?_; (with_reducible refine (impl_IsPlan.calls k _ _ l0 (fun k_ => k_ < w.heap.size) _ _ l1 false _ ?_ ?_ ?_ A5.out).mono ?_); exact cB HR0; exact HC0.out; exact Kd.V_mk HC1.out (Kd.F_below (Kd.C_F k85_heap HR1.out) bA); rintro e w9 ⟨rfl, hb⟩; refine ⟨_, rfl, ?_⟩; replace HB := bs HB hb; (try clear hb)))
  go_meet
  case rel => exact ⟨_, (true), rS, H', ⟨oL⟩, ⟨bA⟩⟩
 case rest =>
  clear HC4
  obtain ⟨kq, x18_3, rfl, HA, HJ3, HB⟩ := hcut
  cases kq with
  | zero => exact absurd HA.out (by simp [impl_SpareGreen.j0])
  | succ kj3 =>
   have H := HA.out
   clear HA
   simp only [impl_SpareGreen.j0] at H
   by_cases c10 : x18_3 = true
   ·
    subst c10
    have H1 : (some (-1)) = some r := by rw [if_pos rfl] at H; exact H
    clear H
    have H := H1
    clear H1
    obtain rfl := Option.some.inj H
    go_wp2
    go_ret
    exact ⟨rA, bA⟩
   replace c10 := Bool.eq_false_iff.mpr c10
   subst c10
   have H1 : (impl_SpareGreen.l0 kj3 l0 l1 a2 l1 (l1.length : Int) 0) = some r := by rw [if_neg (show ¬ (false = true) by decide)] at H; exact H
   clear H
   have H := H1
   clear H1
   have H' := Aside0.mk H
   clear H
   go_wp2
   go_loopg [7, 22] kj3 (fun kq v7 v22 w' => ∃ (x7_2 : Int) (x22_2 : Int), v7 = .int .i64 x7_2 ∧ v22 = .int .i64 x22_2 ∧ Aside0 (impl_SpareGreen.l0 kq l0 l1 x7_2 l1 (l1.length : Int) x22_2 = some r) ∧ Aside0 (kq ≤ kj3) ∧ Aside0 (Below w.heap.size w w'))
   case atStart => exact ⟨(a2), (0), rS, rS, H', ⟨Nat.le_refl _⟩, ⟨bA⟩⟩
   case round =>
    clear H'
    obtain ⟨x7_2, x22_2, rfl, rfl, HA, HK2, HB⟩ := hrel
    cases gk with
    | zero => exact absurd HA.out (by simp [impl_SpareGreen.l0])
    | succ k2 =>
     have H := HA.out
     clear HA
     simp only [impl_SpareGreen.l0] at H
     by_cases c11 : x22_2 < (l1.length : Int)
     ·
      rw [if_pos c11] at H
      have c11b0 := decide_eq_true c11
      clear c11
      have c12 : 0 ≤ x22_2 := ifN H
      replace H := ifT H
      have c12b0 := decide_eq_true c12
      clear c12
      have c13 : x22_2 < (l1.length : Int) := ifN H
      replace H := ifT H
      have c13b0 := decide_eq_true c13
      clear c13
      obtain ⟨t610, A14, H⟩ := bindE H
      try dsimp only at H
      obtain ⟨t611, A15, H⟩ := bindE H
      try dsimp only at H
      have H' := Aside0.mk H
      clear H
      obtain ⟨p608, q608⟩ : 0 ≤ (x22_2 : Int) ∧ x22_2 < (l1.length : Int) := ⟨dA, dA⟩
      obtain ⟨ad608, A608_0, c608_0, e608, hx608_0, hx608_1, hl608_0, hi608_0⟩ := at_T85 HR1.out x22_2 p608 q608
      cases e608
      replace hx608_0 := hC HB hx608_0
      replace hx608_1 := hC HB hx608_1
      have HR608_0 := Aside0.mk hi608_0
      have HC608_0 := Aside0.mk hl608_0
      clear hi608_0 hl608_0
      obtain ⟨p608, q608⟩ := eT p608 q608
      try go_wp2_with (first | ((with_reducible refine gate_dst (N := 9) rfl ?_); refine bE (N := 9) (cs := #[.slice none 0 0, .int .i64 0]) (t := 85) ?_; intro gb609 hg w16 hbox hb; have BK609 := Aside0.mk (hbox); have GW609 := gw w hg; have GE609 := gw w hg; replace HB := bs HB hb; clear hb hbox hg; obtain ⟨_, _, _, _⟩ := blkc2 BK609))
      have n0_ : Aside0 (((w16.setCell ⟨gb609, 0, none⟩ (.slice A608_0 ((rd_T85 l1 x22_2).f0).length c608_0)).setCell ⟨gb609, 1, none⟩ (.int .i64 ((rd_T85 l1 x22_2).f1))).heap[gb609]? = some (.cells #[.slice A608_0 ((rd_T85 l1 x22_2).f0).length c608_0, .int .i64 ((rd_T85 l1 x22_2).f1)] 85 (0, 0))) := ⟨kp BK609⟩
      have n1_ : Aside0 (Below w.heap.size w ((w16.setCell ⟨gb609, 0, none⟩ (.slice A608_0 ((rd_T85 l1 x22_2).f0).length c608_0)).setCell ⟨gb609, 1, none⟩ (.int .i64 ((rd_T85 l1 x22_2).f1)))) := ⟨bG⟩
      (try clear BK609)
      (try clear HB)
      generalize ((w16.setCell ⟨gb609, 0, none⟩ (.slice A608_0 ((rd_T85 l1 x22_2).f0).length c608_0)).setCell ⟨gb609, 1, none⟩ (.int .i64 ((rd_T85 l1 x22_2).f1))) = w18 at n0_ n1_ ⊢
      have BK609 := n0_
      have HB := n1_
      clear n0_ n1_
      replace BK609 := dk BK609
      have HBo := HB
      replace HB := db HB
      refine start_ (n := 15) (S := fun w' => w'.cell? ⟨gb609, 0, none⟩ = some (.slice A608_0 ((rd_T85 l1 x22_2).f0).length c608_0) ∧ w'.cell? ⟨gb609, 1, none⟩ = some (.int .i64 ((rd_T85 l1 x22_2).f1))) (ds := []) (mb 15 0) (by kernel_rfl) rfl rfl (cn2 BK609) (fun hHeld => ?_); refine with_tabW impl_SpareGreen.tab7 impl_SpareGreen.bits7 (fun HT_ HW_ => ?_)
      generalize w18.drew = w19 at BK609 HB hHeld ⊢
      refine pa 0 27 (mb 15 1) HT_ ?_
      refine pa 1 28 (mb 15 3) HT_ ?_
      refine pa 2 29 (mb 15 7) HT_ ?_
      refine pa 3 30 (mb 15 15) HT_ ?_
      refine pa 5 32 (mb 15 47) HT_ ?_
      refine pa 8 35 (mb 15 303) HT_ ?_
      refine pa 9 36 (mb 15 815) HT_ ?_
      refine ta2 6 33 (mb 15 879) HT_ HW_ hHeld ?_
      refine ta2 10 37 (mb 15 1903) HT_ HW_ hHeld ?_
      refine oa 4 31 (mb 15 1919) HT_ (fun K hK => ?_)
      refine gA Try.func108 #[.slice A0 l0.length c0, .slice (some ad608) l1.length c1, .int .i64 x22_2] ?_
      with_reducible refine (impl_longOf.calls k2 _ _ l0 _ _ l1 x22_2 t610 _ ?side1 ?side2 ?side3 ?side4 A14.out).mono ?_
      (case side1 => exact cB HR0)
      (case side2 => exact HC0.out)
      (case side3 => exact cB HR1)
      (case side4 => exact HC1.out)
      rintro e w20 ⟨rfl, hb⟩
      refine ⟨_, rfl, ?_⟩
      replace BK609 := kb BK609 hb
      replace HB := bs HB hb
      (try clear hb)
      (try clear hb2)
      (try clear hk)
      (try clear hi)
      refine hK.out _ _ (cn2 BK609) (fun hHeld => ?_)
      clear hK K
      refine nB ?_
      refine pa 7 34 (mb 15 2047) HT_ ?_
      refine oa 11 38 (mb 15 4095) HT_ (fun K hK => ?_)
      refine gA Try.func77 #[.slice A0 l0.length c0, .slice A608_0 ((rd_T85 l1 x22_2).f0).length c608_0] ?_
      with_reducible refine (impl_LeastGreen.calls k2 _ _ l0 _ _ ((rd_T85 l1 x22_2).f0) t611 _ ?side1 ?side2 ?side3 ?side4 A15.out).mono ?_
      (case side1 => exact cB HR0)
      (case side2 => exact HC0.out)
      (case side3 => exact cB HR608_0)
      (case side4 => exact HC608_0.out)
      rintro e w21 ⟨rfl, hb⟩
      refine ⟨_, rfl, ?_⟩
      replace BK609 := kb BK609 hb
      replace HB := bs HB hb
      (try clear hb)
      (try clear hb2)
      (try clear hk)
      (try clear hi)
      refine hK.out _ _ (cn2 BK609) (fun hHeld => ?_)
      clear hK K
      refine nB ?_
      refine pa 12 39 (mb 15 8191) HT_ ?_
      refine pa 13 40 (mb 15 16383) HT_ ?_
      refine pa 14 7 (mb 15 32767) HT_ ?_
      refine eA HT_ ?_
      try go_wp2
      go_roundg k2
      case measure => have := HJ3.out; have := HK2.out; omega
      case rel => exact ⟨(wrap64 (x7_2 - (wrap64 ((wrap64 (t610 - ((rd_T85 l1 x22_2).f1))) + t611)))), (wrap64 (x22_2 + 1)), rS, rS, H', ⟨by have := HJ3.out; have := HK2.out; omega⟩, ⟨bG⟩⟩
     rw [if_neg c11] at H
     have c11b0 := decide_eq_false c11
     clear c11
     obtain ⟨ji22, hji22⟩ : ∃ j_ : Int, (mx x7_2 (-1)) = j_ := ⟨_, rfl⟩
     replace H : (some ji22) = some r := by first | (rw [hji22] at H; exact H) | (simp only [hji22] at H ⊢; exact H)
     have hji22_ : (if x7_2 < (-1) then (-1) else x7_2) = ji22 := hji22
     obtain rfl := Option.some.inj H
     go_wp2
     go_ret
     exact ⟨by first | rfl | (simp [errW_none, errW_some] <;> rfl) | (simp only [← hji22]; first | rfl | (simp [errW_none, errW_some] <;> rfl)) | (simp [*, errW_none, errW_some] <;> rfl), bA⟩

/-! ### slices_Clone_int_int: function 100 -/
def slices_Clone_int_int.f (l0 : List Int) : Option (List Int) := if l0.length < 17592186044416 then some l0 else none
theorem slices_Clone_int_int.eq0 {P : Program} (w : World) (d : Nat) (t e : TypeId) (a : Option Addr) (n c n' c' : Nat) (h : P.underlying t = some (.slice e)) : (Op.equalIn (d + 1) t (.slice a n c) (.slice none n' c')).run P w = .ok a.isNone w := by
 cases a <;> simp [Op.equalIn, run_underlying h]
theorem slices_Clone_int_int.eq1 {P : Program} (w : World) (t e : TypeId) (a : Option Addr) (n c n' c' : Nat) (h : P.underlying t = some (.slice e)) : (binOp .eql t (.slice a n c) (.slice none n' c')).run P w = .ok (.bool a.isNone) w := by
 simp only [binOp]
 simp [Op.equal, Op.maxDepth, slices_Clone_int_int.eq0 w 9999 t e a n c n' c' h]
set_option maxHeartbeats 4000000 in
set_option maxRecDepth 100000 in
theorem slices_Clone_int_int.calls (A0 : Option Addr) (c0 : Nat) (l0 : List Int) (r : List Int) (w : World) (hr0 : Kd.C (Kd.int .i64) w A0 l0.length l0) (hc0 : l0.length ≤ c0) (h : slices_Clone_int_int.f l0 = some r) :
  Calls Try.prog 100 #[.slice A0 l0.length c0] w fun e w' => ∃ v0_ : Value, e = .returned (v0_) ∧ Kd.R (Kd.int .i64) 3 w' w.heap.size (fun _ => True) v0_ r ∧ Below w.heap.size w w' := by
 unfold slices_Clone_int_int.f at h
 have hlim := ifN h
 replace h := ifT h
 obtain rfl := Option.some.inj h
 have HL := Aside0.mk hlim
 have HR0 := Aside0.mk hr0
 have HC0 := Aside0.mk hc0
 clear hr0 hc0 h hlim
 have q_ : ∀ (w : World) (a : Option Addr) (n c n' c' : Nat), (binOp .eql 35 (.slice a n c) (.slice none n' c')).run Try.prog w = .ok (.bool a.isNone) w := fun w a n c n' c' => slices_Clone_int_int.eq1 w _ _ a n c n' c' Try.underlying35
 cases A0 with
 | none =>
  have hl0 : l0 = [] := by
   rcases Nat.eq_zero_or_pos l0.length with h0 | h0
   ·
    exact List.eq_nil_of_length_eq_zero h0
   ·
    obtain ⟨ad, ha, _⟩ := HR0.out.2.2 h0
    cases ha
  subst hl0
  go_enter Try.func100, Try.ntmps100
  go_wp2
  go_ret
  exact ⟨_, rfl, Kd.R_nil _ _ _ _ _, Below.refl _ _⟩
 | some ad =>
  go_enter Try.func100, Try.ntmps100
  go_wp2_with (first
   | ((with_reducible refine gate_dst (N := 5) rfl ?_); refine Kd.R_lit (Kd.int .i64) _ 3 ?hg (N := 5) ?hd (xs := ([] : List Int)) (inner := []) (ok := fun _ => True) (okp := fun _ => True) ?hr ?hp (fun _ hk => hk) trivial (Below.refl w.heap.size w) (Nat.le_refl _) (by simp) ?_; (case hd => rfl); (case hg => rfl); (case hr => first | (go_simp; done) | (go_simp; rfl)); (case hp => exact (Reps.none _ _)); intro v304 w3 ho4 hb hg_ hnew_; have HO := Aside0.mk ho4; have HB := Aside0.mk hb; clear ho4 hb hg_ hnew_)
   | ((with_reducible refine gate_builtin (b := .append) (xs := #[.tmp 5, .tmp 6]) rfl ?_); at_builtin; refine Kd.R_append_rows (Kd.int .i64) (w0 := w) w.heap.size rfl (.tmp 5) (.tmp 6) 35 3 (.int .i64 0) 8 rfl Try.underlying35 info3 rfl (by decide) (by omega) v304 ([] : List Int) l0 _ _ _ (fun _ => True) (fun _ => False) rfl rfl ?aO ?aR (fun _ _ h => h) (fun _ h => h.elim) ?aF ?aB ?aS ?aL ?_; (case aR => exact Kd.C_below HR0.out HB.out); (case aB => exact HB.out); (case aF => exact (fun _ _ => trivial)); (case aO => exact HO.out); (case aS => exact HB.out.size); (case aL => have := HL.out; simp; omega); intro v1 w9 ho hb hg hat; rw [List.nil_append] at ho; have HO1 := Aside0.mk ho; have HB1 := Aside0.mk hb; clear ho hb hg hat))
  go_ret
  exact ⟨_, rfl, HO1.out, HB1.out⟩

/-! ### impl_clonePlan: function 105 -/
def impl_clonePlan.l0 : Nat → List (S85) → List (S85) → Int → Int → Option ((List (S85)))
 | 0, _, _, _, _ => none
 | k + 1, x3, x7, x8, x9 => if x9 < x8 then (if 0 ≤ x9 then (if x9 < (x7.length : Int) then ((slices_Clone_int_int.f ((rd_T85 x7 x9).f0)).bind fun t617 => (if x3.length < 4398046511104 then (impl_clonePlan.l0 k (x3 ++ [(⟨t617, (rd_T85 x7 x9).f1⟩ : S85)]) x7 x8 (wrap64 (x9 + 1))) else (none))) else (none)) else (none)) else (some x3)
def impl_clonePlan.f (k : Nat) (l0 : List (S85)) : Option ((List (S85))) := impl_clonePlan.l0 k (([] : List (S85))) l0 (l0.length : Int) 0
theorem impl_clonePlan.mono_l : ∀ k, (∀ y0 y1 y2 y3, LeO (impl_clonePlan.l0 k y0 y1 y2 y3) (impl_clonePlan.l0 (k + 1) y0 y1 y2 y3))
 | 0 => fun _ _ _ _ r h => by simp [impl_clonePlan.l0] at h
 | k + 1 => by
  have ih0 := impl_clonePlan.mono_l k
  ·
   intro y0 y1 y2 y3
   unfold impl_clonePlan.l0
   exact mz1 ih0
theorem impl_clonePlan.mono : ∀ a0 k, LeO (impl_clonePlan.f k a0) (impl_clonePlan.f (k + 1) a0) := by
 intro a0 k
 have ih0 := impl_clonePlan.mono_l k
 unfold impl_clonePlan.f
 exact mz1 ih0
def impl_clonePlan.T5 : Bool × List (List Nat × List Nat) := (true, [([], []), ([], []), ([1], [1]), ([2], [2]), ([], []), ([4], [4]), ([3, 5], [3, 5]), ([6], [6]), ([0, 7, 3], [0, 7]), ([8, 8, 0, 1, 2, 3, 4, 5, 6, 7, 8], [0, 8])])
def impl_clonePlan.B5 : List Nat := [0, 0, 2, 6, 0, 16, 62, 126, 255, 511]
theorem impl_clonePlan.tab5 : rtab .any (opsOf Try.f105 5) = impl_clonePlan.T5 := by kernel_rfl
theorem impl_clonePlan.bits5 : waitsOk impl_clonePlan.T5.2 impl_clonePlan.B5 = true := by kernel_rfl
set_option maxHeartbeats 8000000 in
set_option maxRecDepth 100000 in
theorem impl_clonePlan.calls (k : Nat) (A0 : Option Addr) (c0 : Nat) (l0 : List (S85)) (r : List (S85)) (w : World) (hr0 : Kd.C k85 w A0 l0.length l0) (hc0 : l0.length ≤ c0) (h : impl_clonePlan.f k l0 = some r) :
  Calls Try.prog 105 #[.slice A0 l0.length c0] w fun e w' => ∃ v0_ : Value, e = .returned (v0_) ∧ Kd.S k85 85 w' w.heap.size (fun _ => True) v0_ r ∧ Below w.heap.size w w' := by
 have hu85 := Try.underlying85
 have HR0 := Aside0.mk hr0
 have HC0 := Aside0.mk hc0
 clear hr0 hc0
 have HB := Aside0.mk (Below.refl w.heap.size w)
 have H : (impl_clonePlan.l0 k (([] : List (S85))) l0 (l0.length : Int) 0) = some r := h
 clear h
 obtain ⟨y612, hy612⟩ : ∃ y_ : List (S85), y_ = (([] : List (S85))) := ⟨_, rfl⟩
 replace H : (impl_clonePlan.l0 k y612 l0 (l0.length : Int) 0) = some r := rH H hy612
 have Ny612 := Aside0.mk hy612
 clear hy612
 have H' := Aside0.mk H
 clear H
 go_enter Try.func105, Try.ntmps105
 go_wp2_with (first | ((with_reducible refine gate_dst (N := 6) rfl ?_); refine Kd.S_lit k85 _ 85 ?hg (N := 6) ?hd (xs := ([] : List (S85))) (inner := []) (ok := fun _ => True) (okp := fun _ => True) ?hr ?hp (fun _ hk => hk) trivial (Below.refl _ _) (Nat.le_refl _) (by simp) ?_; (case hd => rfl); (case hg => rfl); (case hr => first | (go_simp; done) | (go_simp; rfl)); (case hp => exact (Reps.none _ _)); intro v613 w2 ho3 hb hg_ hnew_; clear hg_ hnew_; (first | rw [← Ny612.out] at ho3 | (simp only [Int.reduceToNat] at ho3; rw [← Ny612.out] at ho3)); have HO614 := sl w ho3; replace HB := bs HB hb; clear hb ho3))
 go_loopg [3, 9] k (fun kq v3 v9 w' => ∃ (x3_1 : List (S85)) (x9_1 : Int), v9 = .int .i64 x9_1 ∧ Aside0 (impl_clonePlan.l0 kq x3_1 l0 (l0.length : Int) x9_1 = some r) ∧ Aside0 (kq ≤ k) ∧ Aside0 (Kd.S k85 85 w' w.heap.size (fun _ => True) v3 x3_1) ∧ Aside0 (Below w.heap.size w w'))
 case atStart => exact ⟨(y612), (0), rS, H', ⟨Nat.le_refl _⟩, ⟨sK HO614⟩, ⟨bA⟩⟩
 case round =>
  clear H'
  obtain ⟨x3_1, x9_1, rfl, HA, HK1, HO_3, HB⟩ := hrel
  cases gk with
  | zero => exact absurd HA.out (by simp [impl_clonePlan.l0])
  | succ k1 =>
   have H := HA.out
   clear HA
   simp only [impl_clonePlan.l0] at H
   by_cases c4 : x9_1 < (l0.length : Int)
   ·
    rw [if_pos c4] at H
    have c4b0 := decide_eq_true c4
    clear c4
    have c5 : 0 ≤ x9_1 := ifN H
    replace H := ifT H
    have c5b0 := decide_eq_true c5
    clear c5
    have c6 : x9_1 < (l0.length : Int) := ifN H
    replace H := ifT H
    have c6b0 := decide_eq_true c6
    clear c6
    obtain ⟨t617, A7, H⟩ := bindE H
    try dsimp only at H
    have c8 : x3_1.length < 4398046511104 := ifN H
    replace H := ifT H
    have LMc8 := Aside0.mk c8
    clear c8
    obtain ⟨y620, hy620⟩ : ∃ y_ : List (S85), y_ = (x3_1 ++ [(⟨t617, (rd_T85 l0 x9_1).f1⟩ : S85)]) := ⟨_, rfl⟩
    replace H : (impl_clonePlan.l0 k1 y620 l0 (l0.length : Int) (wrap64 (x9_1 + 1))) = some r := rH H hy620
    have Ny620 := Aside0.mk hy620
    clear hy620
    have H' := Aside0.mk H
    clear H
    obtain ⟨p615, q615⟩ : 0 ≤ (x9_1 : Int) ∧ x9_1 < (l0.length : Int) := ⟨dA, dA⟩
    obtain ⟨ad615, A615_0, c615_0, e615, hx615_0, hx615_1, hl615_0, hi615_0⟩ := at_T85 HR0.out x9_1 p615 q615
    cases e615
    replace hx615_0 := hC HB hx615_0
    replace hx615_1 := hC HB hx615_1
    have HR615_0 := Aside0.mk hi615_0
    have HC615_0 := Aside0.mk hl615_0
    clear hi615_0 hl615_0
    obtain ⟨p615, q615⟩ := eT p615 q615
    try go_wp2_with (first | ((with_reducible refine gate_dst (N := 5) rfl ?_); refine bE (N := 5) (cs := #[.slice none 0 0, .int .i64 0]) (t := 85) ?_; intro gb616 hg w9 hbox hb; replace HO_3 := Aside0.mk (Kd.S_below (Kd.S_elderB (sK HO_3) gb616 (Nat.le_of_eq hg.symm)) hb); have BK616 := Aside0.mk (hbox); have GW616 := gw w hg; have GE616 := gw w hg; replace HB := bs HB hb; clear hb hbox hg; obtain ⟨_, _, _, _⟩ := blkc2 BK616))
    have n0_ : Aside0 (Kd.S k85 85 ((w9.setCell ⟨gb616, 0, none⟩ (.slice A615_0 ((rd_T85 l0 x9_1).f0).length c615_0)).setCell ⟨gb616, 1, none⟩ (.int .i64 ((rd_T85 l0 x9_1).f1))) w.heap.size (fun k_ => k_ ≠ gb616) u3 x3_1) := ⟨by (with_reducible repeat (first | apply Kd.S_alloc | apply Kd.S_drewN | apply Kd.S_drew)); exact Kd.S_mono (Kd.S_far (p := ⟨gb616, 1, none⟩) (Kd.S_far (p := ⟨gb616, 0, none⟩) (Kd.S_mono HO_3.out (fun k_ hk => (⟨hk, hk.2⟩ : _ ∧ k_ ≠ gb616))) (fun _ hk => hk.2) (.slice A615_0 ((rd_T85 l0 x9_1).f0).length c615_0)) (fun _ hk => hk.2) (.int .i64 ((rd_T85 l0 x9_1).f1))) (fun _ hk => hk.1.2)⟩
    have n1_ : Aside0 (((w9.setCell ⟨gb616, 0, none⟩ (.slice A615_0 ((rd_T85 l0 x9_1).f0).length c615_0)).setCell ⟨gb616, 1, none⟩ (.int .i64 ((rd_T85 l0 x9_1).f1))).heap[gb616]? = some (.cells #[.slice A615_0 ((rd_T85 l0 x9_1).f0).length c615_0, .int .i64 ((rd_T85 l0 x9_1).f1)] 85 (0, 0))) := ⟨kp BK616⟩
    have n2_ : Aside0 (Below w.heap.size w ((w9.setCell ⟨gb616, 0, none⟩ (.slice A615_0 ((rd_T85 l0 x9_1).f0).length c615_0)).setCell ⟨gb616, 1, none⟩ (.int .i64 ((rd_T85 l0 x9_1).f1)))) := ⟨bG⟩
    (try clear HO_3)
    (try clear BK616)
    (try clear HB)
    generalize ((w9.setCell ⟨gb616, 0, none⟩ (.slice A615_0 ((rd_T85 l0 x9_1).f0).length c615_0)).setCell ⟨gb616, 1, none⟩ (.int .i64 ((rd_T85 l0 x9_1).f1))) = w11 at n0_ n1_ n2_ ⊢
    have HO_3 := n0_
    have BK616 := n1_
    have HB := n2_
    clear n0_ n1_ n2_
    replace HO_3 := ds HO_3
    replace BK616 := dk BK616
    have HBo := HB
    replace HB := db HB
    refine start_ (n := 10) (S := fun w' => w'.cell? ⟨gb616, 0, none⟩ = some (.slice A615_0 ((rd_T85 l0 x9_1).f0).length c615_0) ∧ w'.cell? ⟨gb616, 1, none⟩ = some (.int .i64 ((rd_T85 l0 x9_1).f1))) (ds := []) (mb 10 0) (by kernel_rfl) rfl rfl (cn2 BK616) (fun hHeld => ?_); refine with_tabW impl_clonePlan.tab5 impl_clonePlan.bits5 (fun HT_ HW_ => ?_)
    generalize w11.drew = w12 at HO_3 BK616 HB hHeld ⊢
    refine pa 0 13 (mb 10 1) HT_ ?_
    refine pa 1 14 (mb 10 3) HT_ ?_
    refine pa 4 17 (mb 10 19) HT_ ?_
    refine ta2 2 15 (mb 10 23) HT_ HW_ hHeld ?_
    refine ta2 5 18 (mb 10 55) HT_ HW_ hHeld ?_
    refine oa 3 16 (mb 10 63) HT_ (fun K hK => ?_)
    refine gA Try.func100 #[.slice A615_0 ((rd_T85 l0 x9_1).f0).length c615_0] ?_
    with_reducible refine (slices_Clone_int_int.calls _ _ ((rd_T85 l0 x9_1).f0) t617 _ ?side1 ?side2 A7.out).mono ?_
    (case side1 => exact cB HR615_0)
    (case side2 => exact HC615_0.out)
    rintro e w13 ⟨v618, rfl, ho0, hb⟩
    refine ⟨_, rfl, ?_⟩
    replace HO_3 := se HO_3 ho0 hb
    have HO619 := rl w ho0
    replace BK616 := kb BK616 hb
    replace HB := bs HB hb
    (try clear hb)
    (try clear hb2)
    (try clear hk)
    (try clear hi)
    (try clear ho0)
    obtain ⟨Ao14, co14, eo14⟩ := Kd.R_slice HO619.out
    (first | subst eo14 | (injection eo14 with f1_ f2_ f3_; have f4_ := f1_.symm; have f5_ := f3_.symm; clear f1_ f2_ f3_; subst f4_; subst f5_))
    refine hK.out _ _ (cn2 BK616) (fun hHeld => ?_)
    clear hK K
    refine nB ?_
    refine pa 6 19 (mb 10 127) HT_ ?_
    refine oa 7 20 (mb 10 255) HT_ (fun K hK => ?_)
    refine value_ (w1 := ?_) (v := ?_) (by rfl) rfl ?_ ?_
    rotate_left 2
    ·
     go_simp
     constructor
     ·
      rfl
     ·
      rfl
    refine hK.out _ _ ⟨(blk_cell (blk_alloc BK616.out _) 0).trans rfl, (blk_cell (blk_alloc BK616.out _) 1).trans rfl⟩ (fun hHeld => ?_)
    clear hK K
    refine nB ?_
    refine oa 8 21 (mb 10 511) HT_ (fun K hK => ?_)
    refine Kd.S_append_step k85 (w0 := w) w.heap.size (by rfl) (.tmp 13) (.tmp 20) 25 85 (.agg #[(.slice none 0 0), (.int .i64 0)]) 32 rfl Try.underlying25 info85 rfl (by decide) (by omega) u3 x3_1 (⟨t617, (rd_T85 l0 x9_1).f1⟩ : S85) [.slice Ao14 t617.length co14, .int .i64 ((rd_T85 l0 x9_1).f1)] (fun k_ => k_ ≠ gb616) (fun k_ => some k_ = (.slice Ao14 t617.length co14 : Value).ownBlock) rfl rfl ?aP (fun k_ hk_ => ((Kd.R_mono (ok' := fun k_ => ((fun k_ => k_ ≠ gb616)) k_ ∧ some k_ ≠ (u3 : Value).ownBlock) (Kd.R_types (Kd.R_apart' (HO619.out) (Kd.S_typed HO_3.out) (by decide)) BK616.out (by decide)) (fun k_ hk => ⟨hk.2, hk.1.2⟩))).1 k_ hk_.symm) ?aF ?aO ?aB ?aS ?aL ?_
    (case aP => exact k85_mkM _ _ _ (⟨t617, (rd_T85 l0 x9_1).f1⟩ : S85) (Kd.R_mono (Kd.R_tight rfl (Kd.R_mono (ok' := fun k_ => ((fun k_ => k_ ≠ gb616)) k_ ∧ some k_ ≠ (u3 : Value).ownBlock) (Kd.R_types (Kd.R_apart' (HO619.out) (Kd.S_typed HO_3.out) (by decide)) BK616.out (by decide)) (fun k_ hk => ⟨hk.2, hk.1.2⟩))) (fun _ h_ => h_)))
    (case aB => exact bG)
    (case aF => exact (fun k_ hk => Kd.freshB (g := gb616) (o := .cells #[.slice A615_0 ((rd_T85 l0 x9_1).f0).length c615_0, .int .i64 ((rd_T85 l0 x9_1).f1)] 85 (0, 0)) (bK BK616) k_ hk))
    (case aO => exact (sm HO_3 (fun k_ hk => ⟨hk.1, fun e_ => hk.2 e_⟩)))
    (case aS => exact (below_size bG))
    (case aL => have := LMc8.out; omega)
    intro v621 w15 ho hb hg hat
    rw [← Ny620.out] at ho
    have n0_ := Aside0.mk (blk_grown (g := gb616) (o := .cells #[.slice A615_0 ((rd_T85 l0 x9_1).f0).length c615_0, .int .i64 ((rd_T85 l0 x9_1).f1)] 85 (0, 0)) (bK BK616) hg (Kd.S_away HO_3.out (fun _ hk => hk.1)))
    have n1_ := Aside0.mk (hb)
    have n2_ := Aside0.mk (ho)
    clear BK616
    clear HB
    clear HO_3
    clear HO619
    have BK616 := n0_
    have HB := n1_
    have HO622 := n2_
    clear n0_ n1_ n2_
    clear ho hb hg hat
    refine hK.out _ _ (cn2 BK616) (fun hHeld => ?_)
    clear hK K
    refine nB ?_
    refine pa 9 3 (mb 10 1023) HT_ ?_
    refine eA HT_ ?_
    try go_wp2
    go_roundg k1
    case measure => have := HK1.out; omega
    case rel => exact ⟨(y620), (wrap64 (x9_1 + 1)), rS, H', ⟨by have := HK1.out; omega⟩, ⟨sm HO622 (fun _ hk => trivial)⟩, ⟨bG⟩⟩
   rw [if_neg c4] at H
   have c4b0 := decide_eq_false c4
   clear c4
   obtain rfl := Option.some.inj H
   go_wp2
   go_ret
   exact ⟨_, rA, sK HO_3, bA⟩

/-! ### impl_ShareGreen: function 52 -/
mutual
def impl_ShareGreen.j0 : Nat → List (S50) → List (S85) → List (S120) → List (S85) → Int → Bool → Option ((List (S85)) × Bool)
 | 0, _, _, _, _, _, _ => none
 | k + 1, x0, x1, x2, x10, x11, x33 => if x33 = true then (some (x10, false)) else (impl_ShareGreen.l0 k x0 x1 x2 x10 x11 0 x1 (x1.length : Int) 0)
def impl_ShareGreen.l0 : Nat → List (S50) → List (S85) → List (S120) → List (S85) → Int → Int → List (S85) → Int → Int → Option ((List (S85)) × Bool)
 | 0, _, _, _, _, _, _, _, _, _ => none
 | k + 1, x0, x1, x2, x10, x11, x12, x35, x36, x37 => if x37 < x36 then (if 0 ≤ x37 then (if x37 < (x35.length : Int) then ((impl_StageDemand.f k x2 ((rd_T85 x35 x37).f0)).bind fun t630 => (impl_ShareGreen.l0 k x0 x1 x2 x10 x11 (wrap64 (x12 + (wrap64 (t630 + 1)))) x35 x36 (wrap64 (x37 + 1)))) else (none)) else (none)) else (impl_ShareGreen.l1 k x0 x2 x10 x11 x12 x11 x1 (x1.length : Int) 0)
def impl_ShareGreen.l1 : Nat → List (S50) → List (S120) → List (S85) → Int → Int → Int → List (S85) → Int → Int → Option ((List (S85)) × Bool)
 | 0, _, _, _, _, _, _, _, _, _ => none
 | k + 1, x0, x2, x10, x11, x12, x15, x50, x51, x52 => if x52 < x51 then (if 0 ≤ x52 then (if x52 < (x50.length : Int) then ((impl_StageDemand.f k x2 ((rd_T85 x50 x52).f0)).bind fun t633 => (if x12 = 0 then (none) else ((impl_LeastGreen.f k x0 ((rd_T85 x50 x52).f0)).bind fun t634 => (if x52 < (x10.length : Int) then (impl_ShareGreen.l1 k x0 x2 (x10.set (x52 : Int).toNat (⟨(rd_T85 x10 x52).f0, wrap64 (t634 + (wrap64 (Int.tdiv (wrap64 (x11 * (wrap64 (t633 + 1)))) x12)))⟩ : S85)) x11 x12 (wrap64 (x15 - (wrap64 (Int.tdiv (wrap64 (x11 * (wrap64 (t633 + 1)))) x12)))) x50 x51 (wrap64 (x52 + 1))) else (none))))) else (none)) else (none)) else (impl_ShareGreen.l2 k x10 x15 (x10.length : Int) 0)
def impl_ShareGreen.l2 : Nat → List (S85) → Int → Int → Int → Option ((List (S85)) × Bool)
 | 0, _, _, _, _ => none
 | k + 1, x10, x15, x81, x82 => if x82 < x81 then (if x15 > 0 then (if 0 ≤ x82 then (if x82 < (x10.length : Int) then ((some (x10.set (x82 : Int).toNat (⟨(rd_T85 x10 x82).f0, wrap64 (((rd_T85 x10 x82).f1) + 1)⟩ : S85) : List (S85))).bind fun y637 => (impl_ShareGreen.l2 k (y637.set (x82 : Int).toNat (⟨(rd_T85 y637 x82).f0, mn ((rd_T85 y637 x82).f1) 60⟩ : S85)) (wrap64 (x15 - 1)) x81 (wrap64 (x82 + 1)))) else (none)) else (none)) else (if 0 ≤ x82 then (if x82 < (x10.length : Int) then (impl_ShareGreen.l2 k (x10.set (x82 : Int).toNat (⟨(rd_T85 x10 x82).f0, mn ((rd_T85 x10 x82).f1) 60⟩ : S85)) x15 x81 (wrap64 (x82 + 1))) else (none)) else (none))) else (some (x10, true))
end
def impl_ShareGreen.f (k : Nat) (l0 : List (S50)) (l1 : List (S85)) (l2 : List (S120)) (a3 : Int) : Option ((List (S85)) × Bool) := (impl_clonePlan.f k l1).bind fun t623 => ((impl_SpareGreen.f k l0 l1 a3).bind fun t626 => (if t626 < 0 then (impl_ShareGreen.j0 k l0 l1 l2 t623 t626 true) else ((impl_AreDetectors.f k l0 l2).bind fun t627 => (impl_ShareGreen.j0 k l0 l1 l2 t623 t626 (!t627)))))
theorem impl_ShareGreen.mono_l : ∀ k, (∀ y0 y1 y2 y3 y4 y5, LeO (impl_ShareGreen.j0 k y0 y1 y2 y3 y4 y5) (impl_ShareGreen.j0 (k + 1) y0 y1 y2 y3 y4 y5)) ∧ (∀ y0 y1 y2 y3 y4 y5 y6 y7 y8, LeO (impl_ShareGreen.l0 k y0 y1 y2 y3 y4 y5 y6 y7 y8) (impl_ShareGreen.l0 (k + 1) y0 y1 y2 y3 y4 y5 y6 y7 y8)) ∧ (∀ y0 y1 y2 y3 y4 y5 y6 y7 y8, LeO (impl_ShareGreen.l1 k y0 y1 y2 y3 y4 y5 y6 y7 y8) (impl_ShareGreen.l1 (k + 1) y0 y1 y2 y3 y4 y5 y6 y7 y8)) ∧ (∀ y0 y1 y2 y3, LeO (impl_ShareGreen.l2 k y0 y1 y2 y3) (impl_ShareGreen.l2 (k + 1) y0 y1 y2 y3))
 | 0 => ⟨fun _ _ _ _ _ _ r h => by simp [impl_ShareGreen.j0] at h, fun _ _ _ _ _ _ _ _ _ r h => by simp [impl_ShareGreen.l0] at h, fun _ _ _ _ _ _ _ _ _ r h => by simp [impl_ShareGreen.l1] at h, fun _ _ _ _ r h => by simp [impl_ShareGreen.l2] at h⟩
 | k + 1 => by
  obtain ⟨ih0, ih1, ih2, ih3⟩ := impl_ShareGreen.mono_l k
  refine ⟨?_, ?_, ?_, ?_⟩
  ·
   intro y0 y1 y2 y3 y4 y5
   unfold impl_ShareGreen.j0
   repeat' first | (with_reducible first | exact LeO.refl _ | exact LeO.none _ | refine LeO.ite ?_ ?_ | refine LeO.bind ?_ (fun _ => ?_) | exact ih0 _ _ _ _ _ _ | exact ih1 _ _ _ _ _ _ _ _ _ | exact ih2 _ _ _ _ _ _ _ _ _ | exact ih3 _ _ _ _ | exact impl_AreDetectors.mono _ _ _ | exact impl_LeastGreen.mono _ _ _ | exact impl_SpareGreen.mono _ _ _ _ | exact impl_StageDemand.mono _ _ _ | exact impl_clonePlan.mono _ _)
  ·
   intro y0 y1 y2 y3 y4 y5 y6 y7 y8
   unfold impl_ShareGreen.l0
   repeat' first | (with_reducible first | exact LeO.refl _ | exact LeO.none _ | refine LeO.ite ?_ ?_ | refine LeO.bind ?_ (fun _ => ?_) | exact ih0 _ _ _ _ _ _ | exact ih1 _ _ _ _ _ _ _ _ _ | exact ih2 _ _ _ _ _ _ _ _ _ | exact ih3 _ _ _ _ | exact impl_AreDetectors.mono _ _ _ | exact impl_LeastGreen.mono _ _ _ | exact impl_SpareGreen.mono _ _ _ _ | exact impl_StageDemand.mono _ _ _ | exact impl_clonePlan.mono _ _)
  ·
   intro y0 y1 y2 y3 y4 y5 y6 y7 y8
   unfold impl_ShareGreen.l1
   repeat' first | (with_reducible first | exact LeO.refl _ | exact LeO.none _ | refine LeO.ite ?_ ?_ | refine LeO.bind ?_ (fun _ => ?_) | exact ih0 _ _ _ _ _ _ | exact ih1 _ _ _ _ _ _ _ _ _ | exact ih2 _ _ _ _ _ _ _ _ _ | exact ih3 _ _ _ _ | exact impl_AreDetectors.mono _ _ _ | exact impl_LeastGreen.mono _ _ _ | exact impl_SpareGreen.mono _ _ _ _ | exact impl_StageDemand.mono _ _ _ | exact impl_clonePlan.mono _ _)
  ·
   intro y0 y1 y2 y3
   unfold impl_ShareGreen.l2
   repeat' first | (with_reducible first | exact LeO.refl _ | exact LeO.none _ | refine LeO.ite ?_ ?_ | refine LeO.bind ?_ (fun _ => ?_) | exact ih0 _ _ _ _ _ _ | exact ih1 _ _ _ _ _ _ _ _ _ | exact ih2 _ _ _ _ _ _ _ _ _ | exact ih3 _ _ _ _ | exact impl_AreDetectors.mono _ _ _ | exact impl_LeastGreen.mono _ _ _ | exact impl_SpareGreen.mono _ _ _ _ | exact impl_StageDemand.mono _ _ _ | exact impl_clonePlan.mono _ _)
theorem impl_ShareGreen.mono : ∀ a0 a1 a2 a3 k, LeO (impl_ShareGreen.f k a0 a1 a2 a3) (impl_ShareGreen.f (k + 1) a0 a1 a2 a3) := by
 intro a0 a1 a2 a3 k
 obtain ⟨ih0, ih1, ih2, ih3⟩ := impl_ShareGreen.mono_l k
 unfold impl_ShareGreen.f
 repeat' first | (with_reducible first | exact LeO.refl _ | exact LeO.none _ | refine LeO.ite ?_ ?_ | refine LeO.bind ?_ (fun _ => ?_) | exact ih0 _ _ _ _ _ _ | exact ih1 _ _ _ _ _ _ _ _ _ | exact ih2 _ _ _ _ _ _ _ _ _ | exact ih3 _ _ _ _ | exact impl_AreDetectors.mono _ _ _ | exact impl_LeastGreen.mono _ _ _ | exact impl_SpareGreen.mono _ _ _ _ | exact impl_StageDemand.mono _ _ _ | exact impl_clonePlan.mono _ _)
set_option maxHeartbeats 8000000 in
set_option maxRecDepth 100000 in
theorem impl_ShareGreen.calls (k : Nat) (A0 : Option Addr) (c0 : Nat) (l0 : List (S50)) (A1 : Option Addr) (c1 : Nat) (l1 : List (S85)) (A2 : Option Addr) (c2 : Nat) (l2 : List (S120)) (a3 : Int) (r1 : List (S85)) (r2 : Bool) (w : World) (hr0 : Kd.C k50 w A0 l0.length l0) (hc0 : l0.length ≤ c0) (hr1 : Kd.C k85 w A1 l1.length l1) (hc1 : l1.length ≤ c1) (hr2 : Kd.C k120 w A2 l2.length l2) (hc2 : l2.length ≤ c2) (h : impl_ShareGreen.f k l0 l1 l2 a3 = some (r1, r2)) :
  Calls Try.prog 52 #[.slice A0 l0.length c0, .slice A1 l1.length c1, .slice A2 l2.length c2, .int .i64 a3] w fun e w' => ∃ v0_ : Value, e = .returned (.tuple #[v0_, .bool r2]) ∧ Kd.S k85 85 w' w.heap.size (fun _ => True) v0_ r1 ∧ Below w.heap.size w w' := by
 have hu85 := Try.underlying85
 have HR0 := Aside0.mk hr0
 have HC0 := Aside0.mk hc0
 clear hr0 hc0
 have HR1 := Aside0.mk hr1
 have HC1 := Aside0.mk hc1
 clear hr1 hc1
 have HR2 := Aside0.mk hr2
 have HC2 := Aside0.mk hc2
 clear hr2 hc2
 have HB := Aside0.mk (Below.refl w.heap.size w)
 have H : ((impl_clonePlan.f k l1).bind fun t623 => ((impl_SpareGreen.f k l0 l1 a3).bind fun t626 => (if t626 < 0 then (impl_ShareGreen.j0 k l0 l1 l2 t623 t626 true) else ((impl_AreDetectors.f k l0 l2).bind fun t627 => (impl_ShareGreen.j0 k l0 l1 l2 t623 t626 (!t627)))))) = some (r1, r2) := h
 clear h
 obtain ⟨t623, A5, H⟩ := bindE H
 try dsimp only at H
 obtain ⟨t626, A6, H⟩ := bindE H
 try dsimp only at H
 have HC7 := Aside0.mk H
 clear H
 go_enter Try.func52, Try.ntmps52
 go_upto_region 3 with (first | ((with_reducible refine gate_callee (f := 105) rfl ?_); refine gL (some 21) Try.func105 #[.slice A1 l1.length c1] ?_; (with_reducible refine (impl_clonePlan.calls k _ _ l1 t623 _ ?_ ?_ A5.out).mono ?_); exact cO HR1; exact HC1.out; rintro e w8 ⟨v624, rfl, ho0, hb⟩; refine ⟨_, rfl, ?_⟩; have HO625 := sl w ho0; replace HB := bs HB hb; (try clear hb); (try clear ho0)) | ((with_reducible refine gate_callee (f := 54) rfl ?_); refine gL (some 25) Try.func54 #[.slice A0 l0.length c0, .slice A1 l1.length c1, .int .i64 a3] ?_; (with_reducible refine (impl_SpareGreen.calls k _ _ l0 _ _ l1 a3 t626 _ ?_ ?_ ?_ ?_ A6.out).mono ?_); exact cB HR0; exact HC0.out; exact cB HR1; exact HC1.out; rintro e w9 ⟨rfl, hb⟩; refine ⟨_, rfl, ?_⟩; replace HO625 := sb HO625 hb; replace HB := bs HB hb; (try clear hb)))
 (try simp only [Act.put, List.setIfInBounds_toArray, List.set_cons_zero, List.set_cons_succ])
 go_cut [33] (fun v33 wc => ∃ (kq : Nat) (x33_6 : Bool), v33 = .bool x33_6 ∧ Aside0 (impl_ShareGreen.j0 kq l0 l1 l2 t623 t626 x33_6 = some (r1, r2)) ∧ Aside0 (kq ≤ k) ∧ Aside0 (Kd.S k85 85 wc w.heap.size (fun _ => True) v624 t623) ∧ Aside0 (Below w.heap.size w wc))
 case first =>
  have H := HC7.out
  clear HC7
  by_cases c10 : t626 < 0
  ·
   rw [if_pos c10] at H
   have c10b0 := decide_eq_true c10
   clear c10
   (first | rw [c10b0] | (simp only [i64_w, i32_w]; rw [c10b0]) | skip)
   have H' := Aside0.mk H
   clear H
   go_wp2
   go_meet
   case rel => exact ⟨_, (true), rS, H', ⟨oL⟩, ⟨sK HO625⟩, ⟨bA⟩⟩
  rw [if_neg c10] at H
  have c10b0 := decide_eq_false c10
  clear c10
  (first | rw [c10b0] | (simp only [i64_w, i32_w]; rw [c10b0]) | skip)
  obtain ⟨t627, A11, H⟩ := bindE H
  try dsimp only at H
  have H' := Aside0.mk H
  clear H
  go_wp2_with (first | (go_at_call 26; (with_reducible refine (impl_AreDetectors.calls k _ _ l0 _ _ l2 t627 _ ?_ ?_ ?_ ?_ A11.out).mono ?_); exact cB HR0; exact HC0.out; exact cB HR2; exact HC2.out; rintro e w12 ⟨rfl, hb⟩; replace HO625 := sb HO625 hb; replace HB := bs HB hb; (try clear hb)))
  go_meet
  case rel => exact ⟨_, (!t627), rS, H', ⟨oL⟩, ⟨sK HO625⟩, ⟨bA⟩⟩
 case rest =>
  clear HC7
  obtain ⟨kq, x33_6, rfl, HA, HJ6, HO_10, HB⟩ := hcut
  cases kq with
  | zero => exact absurd HA.out (by simp [impl_ShareGreen.j0])
  | succ kj6 =>
   have H := HA.out
   clear HA
   simp only [impl_ShareGreen.j0] at H
   by_cases c13 : x33_6 = true
   ·
    subst c13
    have H1 : (some (t623, false)) = some (r1, r2) := by rw [if_pos rfl] at H; exact H
    clear H
    have H := H1
    clear H1
    simp only [Option.some.injEq, Prod.mk.injEq] at H
    obtain ⟨rfl, rfl⟩ := H
    go_wp2
    go_ret2
    exact ⟨_, rA, sK HO_10, bA⟩
   replace c13 := Bool.eq_false_iff.mpr c13
   subst c13
   have H1 : (impl_ShareGreen.l0 kj6 l0 l1 l2 t623 t626 0 l1 (l1.length : Int) 0) = some (r1, r2) := by rw [if_neg (show ¬ (false = true) by decide)] at H; exact H
   clear H
   have H := H1
   clear H1
   have H' := Aside0.mk H
   clear H
   go_wp2
   go_loopg [12, 37] kj6 (fun kq v12 v37 w' => ∃ (x12_2 : Int) (x37_2 : Int), v12 = .int .i64 x12_2 ∧ v37 = .int .i64 x37_2 ∧ Aside0 (impl_ShareGreen.l0 kq l0 l1 l2 t623 t626 x12_2 l1 (l1.length : Int) x37_2 = some (r1, r2)) ∧ Aside0 (kq ≤ kj6) ∧ Aside0 (Kd.S k85 85 w' w.heap.size (fun _ => True) v624 t623) ∧ Aside0 (Below w.heap.size w w'))
   case atStart => exact ⟨(0), (0), rS, rS, H', ⟨Nat.le_refl _⟩, ⟨sK HO_10⟩, ⟨bA⟩⟩
   case round =>
    clear H'
    obtain ⟨x12_2, x37_2, rfl, rfl, HA, HK2, HO_10, HB⟩ := hrel
    cases gk with
    | zero => exact absurd HA.out (by simp [impl_ShareGreen.l0])
    | succ k2 =>
     have H := HA.out
     clear HA
     simp only [impl_ShareGreen.l0] at H
     by_cases c14 : x37_2 < (l1.length : Int)
     ·
      rw [if_pos c14] at H
      have c14b0 := decide_eq_true c14
      clear c14
      have c15 : 0 ≤ x37_2 := ifN H
      replace H := ifT H
      have c15b0 := decide_eq_true c15
      clear c15
      have c16 : x37_2 < (l1.length : Int) := ifN H
      replace H := ifT H
      have c16b0 := decide_eq_true c16
      clear c16
      obtain ⟨t630, A17, H⟩ := bindE H
      try dsimp only at H
      have H' := Aside0.mk H
      clear H
      obtain ⟨p628, q628⟩ : 0 ≤ (x37_2 : Int) ∧ x37_2 < (l1.length : Int) := ⟨dA, dA⟩
      obtain ⟨ad628, A628_0, c628_0, e628, hx628_0, hx628_1, hl628_0, hi628_0⟩ := at_T85 HR1.out x37_2 p628 q628
      cases e628
      replace hx628_0 := hC HB hx628_0
      replace hx628_1 := hC HB hx628_1
      have HR628_0 := Aside0.mk hi628_0
      have HC628_0 := Aside0.mk hl628_0
      clear hi628_0 hl628_0
      obtain ⟨p628, q628⟩ := eT p628 q628
      go_wp2_with (first | ((with_reducible refine gate_dst (N := 14) rfl ?_); refine bE (N := 14) (cs := #[.slice none 0 0, .int .i64 0]) (t := 85) ?_; intro gb629 hg w18 hbox hb; replace HO_10 := Aside0.mk (Kd.S_below (Kd.S_elderB (sK HO_10) gb629 (Nat.le_of_eq hg.symm)) hb); have BK629 := Aside0.mk (hbox); have GW629 := gw w hg; have GE629 := gw w hg; replace HB := bs HB hb; clear hb hbox hg; have hcz19_0 : w18.cell? ⟨gb629, 0, none⟩ = some (.slice none 0 0) := bC BK629 0; have hcz19_1 : w18.cell? ⟨gb629, 1, none⟩ = some (.int .i64 0) := bC BK629 1; have hfz19_0 := blk_frozen BK629.out 0; have hfz19_1 := blk_frozen BK629.out 1) | ((with_reducible refine gate_callee (f := 31) rfl ?_); refine gL (some 45) Try.func31 #[.slice A2 l2.length c2, .slice A628_0 ((rd_T85 l1 x37_2).f0).length c628_0] ?_; (with_reducible refine (impl_StageDemand.calls k2 _ _ l2 _ _ ((rd_T85 l1 x37_2).f0) t630 _ ?_ ?_ ?_ ?_ A17.out).mono ?_); exact Kd.C_below HR2.out bG; exact HC2.out; exact Kd.C_below HR628_0.out bG; exact HC628_0.out; rintro e w20 ⟨rfl, hb⟩; refine ⟨_, rfl, ?_⟩; have n0_ := Aside0.mk (Kd.S_below (by (with_reducible repeat (first | apply Kd.S_alloc | apply Kd.S_drewN | apply Kd.S_drew)); exact (Kd.S_mono (Kd.S_far (p := ⟨gb629, 1, none⟩) (Kd.S_far (p := ⟨gb629, 0, none⟩) (Kd.S_mono HO_10.out (fun k_ hk => (⟨hk, hk.2⟩ : _ ∧ k_ ≠ gb629))) (fun _ hk => hk.2) (.slice A628_0 ((rd_T85 l1 x37_2).f0).length c628_0)) (fun _ hk => hk.2) (.int .i64 ((rd_T85 l1 x37_2).f1))) (fun _ h_ => h_.1))) hb); have n1_ := kc (o := .cells #[.slice A628_0 ((rd_T85 l1 x37_2).f0).length c628_0, .int .i64 ((rd_T85 l1 x37_2).f1)] 85 (0, 0)) (kp BK629) hb; have n2_ := bs HB hb; clear HO_10; clear BK629; clear HB; have HO_10 := n0_; have BK629 := n1_; have HB := n2_; clear n0_ n1_ n2_; (try clear hb)))
      go_roundg k2
      case measure => have := HJ6.out; have := HK2.out; omega
      case rel => exact ⟨(wrap64 (x12_2 + (wrap64 (t630 + 1)))), (wrap64 (x37_2 + 1)), rS, rS, H', ⟨by have := HJ6.out; have := HK2.out; omega⟩, ⟨sm HO_10 (fun _ hk => trivial)⟩, ⟨bG⟩⟩
     rw [if_neg c14] at H
     have c14b0 := decide_eq_false c14
     clear c14
     have H' := Aside0.mk H
     clear H
     go_wp2
     go_loopg [15, 52] k2 (fun kq v15 v52 w' => ∃ (x10_3 : List (S85)) (x15_3 : Int) (x52_3 : Int), v15 = .int .i64 x15_3 ∧ v52 = .int .i64 x52_3 ∧ Aside0 (impl_ShareGreen.l1 kq l0 l2 x10_3 t626 x12_2 x15_3 l1 (l1.length : Int) x52_3 = some (r1, r2)) ∧ Aside0 (kq ≤ k2) ∧ Aside0 (Kd.S k85 85 w' w.heap.size (fun _ => True) v624 x10_3) ∧ Aside0 (Below w.heap.size w w'))
     case atStart => exact ⟨(t623), (t626), (0), rS, rS, H', ⟨Nat.le_refl _⟩, ⟨sK HO_10⟩, ⟨bA⟩⟩
     case round =>
      clear H'
      obtain ⟨x10_3, x15_3, x52_3, rfl, rfl, HA, HK3, HO_10, HB⟩ := hrel
      cases gk with
      | zero => exact absurd HA.out (by simp [impl_ShareGreen.l1])
      | succ k3 =>
       have H := HA.out
       clear HA
       simp only [impl_ShareGreen.l1] at H
       by_cases c21 : x52_3 < (l1.length : Int)
       ·
        rw [if_pos c21] at H
        have c21b0 := decide_eq_true c21
        clear c21
        have c22 : 0 ≤ x52_3 := ifN H
        replace H := ifT H
        have c22b0 := decide_eq_true c22
        clear c22
        have c23 : x52_3 < (l1.length : Int) := ifN H
        replace H := ifT H
        have c23b0 := decide_eq_true c23
        clear c23
        obtain ⟨t633, A24, H⟩ := bindE H
        try dsimp only at H
        have c25 : ¬ (x12_2 = 0) := ifN' H
        replace H := ifT' H
        have c25b0 : (x12_2 == 0) = false := beq_eq_false_iff_ne.mpr c25
        have c25b1 : (x12_2 != 0) = true := bne_iff_ne.mpr c25
        obtain ⟨t634, A26, H⟩ := bindE H
        try dsimp only at H
        have c27 : x52_3 < (x10_3.length : Int) := ifN H
        replace H := ifT H
        have c27b0 := decide_eq_true c27
        clear c27
        obtain ⟨y635, hy635⟩ : ∃ y_ : List (S85), y_ = (x10_3.set (x52_3 : Int).toNat (⟨(rd_T85 x10_3 x52_3).f0, wrap64 (t634 + (wrap64 (Int.tdiv (wrap64 (t626 * (wrap64 (t633 + 1)))) x12_2)))⟩ : S85)) := ⟨_, rfl⟩
        replace H : (impl_ShareGreen.l1 k3 l0 l2 y635 t626 x12_2 (wrap64 (x15_3 - (wrap64 (Int.tdiv (wrap64 (t626 * (wrap64 (t633 + 1)))) x12_2)))) l1 (l1.length : Int) (wrap64 (x52_3 + 1))) = some (r1, r2) := rH H hy635
        have Ny635 := Aside0.mk hy635
        clear hy635
        have H' := Aside0.mk H
        clear H
        obtain ⟨p631, q631⟩ : 0 ≤ (x52_3 : Int) ∧ x52_3 < (l1.length : Int) := ⟨dA, dA⟩
        obtain ⟨ad631, A631_0, c631_0, e631, hx631_0, hx631_1, hl631_0, hi631_0⟩ := at_T85 HR1.out x52_3 p631 q631
        cases e631
        replace hx631_0 := hC HB hx631_0
        replace hx631_1 := hC HB hx631_1
        have HR631_0 := Aside0.mk hi631_0
        have HC631_0 := Aside0.mk hl631_0
        clear hi631_0 hl631_0
        obtain ⟨p631, q631⟩ := eT p631 q631
        go_wp2_with (first | ((with_reducible refine gate_dst (N := 17) rfl ?_); refine bE (N := 17) (cs := #[.slice none 0 0, .int .i64 0]) (t := 85) ?_; intro gb632 hg w29 hbox hb; replace HO_10 := Aside0.mk (Kd.S_below (Kd.S_elderB (sK HO_10) gb632 (Nat.le_of_eq hg.symm)) hb); have BK632 := Aside0.mk (hbox); have GW632 := gw w hg; have GE632 := gw w hg; replace HB := bs HB hb; clear hb hbox hg; have hcz30_0 : w29.cell? ⟨gb632, 0, none⟩ = some (.slice none 0 0) := bC BK632 0; have hcz30_1 : w29.cell? ⟨gb632, 1, none⟩ = some (.int .i64 0) := bC BK632 1; have hfz30_0 := blk_frozen BK632.out 0; have hfz30_1 := blk_frozen BK632.out 1) | ((with_reducible refine gate_callee (f := 31) rfl ?_); refine gL (some 61) Try.func31 #[.slice A2 l2.length c2, .slice A631_0 ((rd_T85 l1 x52_3).f0).length c631_0] ?_; (with_reducible refine (impl_StageDemand.calls k3 _ _ l2 _ _ ((rd_T85 l1 x52_3).f0) t633 _ ?_ ?_ ?_ ?_ A24.out).mono ?_); exact Kd.C_below HR2.out bG; exact HC2.out; exact Kd.C_below HR631_0.out bG; exact HC631_0.out; rintro e w31 ⟨rfl, hb⟩; refine ⟨_, rfl, ?_⟩; have n0_ := Aside0.mk (Kd.S_below (by (with_reducible repeat (first | apply Kd.S_alloc | apply Kd.S_drewN | apply Kd.S_drew)); exact (Kd.S_mono (Kd.S_far (p := ⟨gb632, 1, none⟩) (Kd.S_far (p := ⟨gb632, 0, none⟩) (Kd.S_mono HO_10.out (fun k_ hk => (⟨hk, hk.2⟩ : _ ∧ k_ ≠ gb632))) (fun _ hk => hk.2) (.slice A631_0 ((rd_T85 l1 x52_3).f0).length c631_0)) (fun _ hk => hk.2) (.int .i64 ((rd_T85 l1 x52_3).f1))) (fun _ h_ => h_.1))) hb); have n1_ := kc (o := .cells #[.slice A631_0 ((rd_T85 l1 x52_3).f0).length c631_0, .int .i64 ((rd_T85 l1 x52_3).f1)] 85 (0, 0)) (kp BK632) hb; have n2_ := bs HB hb; clear HO_10; clear BK632; clear HB; have HO_10 := n0_; have BK632 := n1_; have HB := n2_; clear n0_ n1_ n2_; (try clear hb); have hcz32_0 : w31.cell? ⟨gb632, 0, none⟩ = some (.slice A631_0 ((rd_T85 l1 x52_3).f0).length c631_0) := bC BK632 0; have hcz32_1 : w31.cell? ⟨gb632, 1, none⟩ = some (.int .i64 ((rd_T85 l1 x52_3).f1)) := bC BK632 1; have hfz32_0 := blk_frozen BK632.out 0; have hfz32_1 := blk_frozen BK632.out 1) | ((with_reducible refine gate_callee (f := 77) rfl ?_); refine gL (some 71) Try.func77 #[.slice A0 l0.length c0, .slice A631_0 ((rd_T85 l1 x52_3).f0).length c631_0] ?_; (with_reducible refine (impl_LeastGreen.calls k3 _ _ l0 _ _ ((rd_T85 l1 x52_3).f0) t634 _ ?_ ?_ ?_ ?_ A26.out).mono ?_); exact cB HR0; exact HC0.out; exact cB HR631_0; exact HC631_0.out; rintro e w33 ⟨rfl, hb⟩; refine ⟨_, rfl, ?_⟩; replace HO_10 := sb HO_10 hb; replace BK632 := kb BK632 hb; replace HB := bs HB hb; (try clear hb); have p28 : 0 ≤ (x52_3 : Int) := dA; have q28 : (x52_3 : Int) < ((x10_3.length : Int) : Int) := dA; obtain ⟨go28, co28, eo28, gb28, gl28, cl28, HG28⟩ := Kd.S_form HO_10.out (by omega); (first | cases eo28 | (injection eo28 with ea_ en_ ec_; (first | subst ea_ | (injection ea_ with ea_; subst ea_)); subst ec_; clear en_)); have GB28 := Aside0.mk gb28; have GG28 := Aside0.mk HG28; clear gb28 gl28 HG28; obtain ⟨_, ce28, hcl28, hM28, hcc28, hfr28, _, _⟩ := Kd.S_elem HO_10.out z85 (x52_3 : Int) p28 q28; obtain ⟨ve28_0, rfl, ge28_0⟩ := k85_openM hM28; have hx28_0 : w33.cell? ⟨go28, (x52_3 : Int).toNat * 2, none⟩ = some (ve28_0) := hcc28 0 _ rfl; have hx28_1 : w33.cell? ⟨go28, (x52_3 : Int).toNat * 2 + 1, none⟩ = some (.int .i64 ((rd_T85 x10_3 x52_3).f1)) := hcc28 1 _ rfl; have hf28_0 : w33.frozen? ⟨go28, (x52_3 : Int).toNat * 2, none⟩ = false := hfr28 0; have hf28_1 : w33.frozen? ⟨go28, (x52_3 : Int).toNat * 2 + 1, none⟩ = false := hfr28 1; clear hcl28 hcc28 hfr28 hM28; replace p28 := eq_true p28; replace q28 := eq_true q28; have n_ := Aside0.mk (Kd.S_mono (ok' := (fun k_ => k_ ≠ gb632)) HO_10.out (fun k_ hk => hk.2)); clear HO_10; have HO_10 := n_; clear n_; have HX34 := Aside0.mk (show Kd.S k85 85 w33 w.heap.size (fun k_ => ((fun k_ => k_ ≠ gb632)) k_ ∧ ¬ ((fun _ => False)) k_) (.slice (some ⟨go28, 0, none⟩) x10_3.length co28) x10_3 from (sm HO_10 (fun k_ hk => ⟨hk, fun e_ => e_⟩))); obtain ⟨oki34, ce34, hcl34, hM34, hcc34, hfr34, hoki34, hH34⟩ := Kd.S_elem HX34.out z85 (x52_3 : Int) (dA) (by have h_ : (x52_3 : Int) < ((x10_3.length : Int) : Int) := dA; first | exact h_ | (have e_ := (Kd.S_reads' HO_10.out).1; omega) | simpa using h_); obtain ⟨ve34_0, rfl, ge34_0⟩ := k85_openM hM34; have HP34 := Kd.S_seg hH34 (dA) (by have h_ : (x52_3 : Int) < ((x10_3.length : Int) : Int) := dA; first | exact h_ | (have e_ := (Kd.S_reads' HO_10.out).1; omega) | simpa using h_) (seg := [.int .i64 (wrap64 (t634 + (wrap64 (Int.tdiv (wrap64 (t626 * (wrap64 (t633 + 1)))) x12_2))))]) (j := 1) (show 2 ≤ 2 from by decide) (x' := (⟨(rd_T85 x10_3 x52_3).f0, wrap64 (t634 + (wrap64 (Int.tdiv (wrap64 (t626 * (wrap64 (t633 + 1)))) x12_2)))⟩ : S85)) (k85_mkM _ _ _ (⟨(rd_T85 x10_3 x52_3).f0, wrap64 (t634 + (wrap64 (Int.tdiv (wrap64 (t626 * (wrap64 (t633 + 1)))) x12_2)))⟩ : S85) (Kd.R_mono ge34_0 (fun _ h_ => Or.inl h_))) (fun _ hk => hk) (fun k_ hk_ => hk_.elim); have hx34_1 := hcc34 1 _ rfl; (try simp only [show (k85).sz = 2 from rfl, Nat.mul_one, Nat.add_zero] at hx34_1); have hf34_1 := hfr34 1; (try simp only [show (k85).sz = 2 from rfl, Nat.mul_one, Nat.add_zero] at hf34_1); clear hcl34 hcc34 hfr34 hM34 hoki34 hH34) | ((with_reducible refine gate_store (t := 3) (p := 75) rfl ?_); refine store_event (t := 3) (p := 75) (v := ?vo_w35) (w1 := (w33.setCell ⟨go28, (x52_3 : Int).toNat * 2 + 1, none⟩ (.int .i64 (wrap64 (t634 + (wrap64 (Int.tdiv (wrap64 (t626 * (wrap64 (t633 + 1)))) x12_2))))))) ?hg ?ho ?hn ?hr ?_; (case ho => rfl); (case hg => rfl); (case hn => rfl); (case hr => first | (go_simp; done) | (go_simp; rfl)); intro w35 hw; have hg : w33.grownBy w35 (some go28) := (by rw [hw]; exact HP34.2); have hp_ : Kd.S k85 85 w35 w.heap.size (fun k_ => k_ ≠ gb632) (.slice (some ⟨go28, 0, none⟩) x10_3.length co28) y635 := (by rw [hw, Ny635.out]; exact HP34.1); clear HP34; have n0_ := Aside0.mk (hp_); have n1_ := Aside0.mk (blk_grown (g := gb632) (o := .cells #[.slice A631_0 ((rd_T85 l1 x52_3).f0).length c631_0, .int .i64 ((rd_T85 l1 x52_3).f1)] 85 (0, 0)) (bK BK632) hg (Kd.S_away HO_10.out (fun _ hk => hk))); have n2_ := Aside0.mk ((by rw [hw]; exact below_set (HB.out) GB28.out : Below w.heap.size w w35)); clear HO_10; clear BK632; clear HB; have HO_10 := n0_; have BK632 := n1_; have HB := n2_; clear n0_ n1_ n2_; clear hg hw hp_))
        go_roundg k3
        case measure => have := HJ6.out; have := HK2.out; have := HK3.out; omega
        case rel => exact ⟨(y635), (wrap64 (x15_3 - (wrap64 (Int.tdiv (wrap64 (t626 * (wrap64 (t633 + 1)))) x12_2)))), (wrap64 (x52_3 + 1)), rS, rS, H', ⟨by have := HJ6.out; have := HK2.out; have := HK3.out; omega⟩, ⟨sm HO_10 (fun _ hk => trivial)⟩, ⟨bG⟩⟩
       rw [if_neg c21] at H
       have c21b0 := decide_eq_false c21
       clear c21
       have H' := Aside0.mk H
       clear H
       obtain ⟨Ao36, co36, eo36⟩ := Kd.S_slice HO_10.out
       subst eo36
       go_wp2
       go_loopg [15, 82] k3 (fun kq v15 v82 w' => ∃ (x10_4 : List (S85)) (x15_4 : Int) (x82_4 : Int), v15 = .int .i64 x15_4 ∧ v82 = .int .i64 x82_4 ∧ Aside0 (impl_ShareGreen.l2 kq x10_4 x15_4 (x10_3.length : Int) x82_4 = some (r1, r2)) ∧ Aside0 (kq ≤ k3) ∧ Aside0 (Kd.S k85 85 w' w.heap.size (fun _ => True) (.slice Ao36 x10_3.length co36) x10_4) ∧ Aside0 (Below w.heap.size w w'))
       case atStart => exact ⟨(x10_3), (x15_3), (0), rS, rS, H', ⟨Nat.le_refl _⟩, ⟨sK HO_10⟩, ⟨bA⟩⟩
       case round =>
        clear H'
        obtain ⟨x10_4, x15_4, x82_4, rfl, rfl, HA, HK4, HO_10, HB⟩ := hrel
        have hl10_4 := (Kd.S_reads' HO_10.out).1
        rw [hl10_4] at HO_10
        (try simp only [hl10_4])
        cases gk with
        | zero => exact absurd HA.out (by simp [impl_ShareGreen.l2])
        | succ k4 =>
         have H := HA.out
         clear HA
         simp only [impl_ShareGreen.l2] at H
         by_cases c37 : x82_4 < (x10_3.length : Int)
         ·
          rw [if_pos c37] at H
          have c37b0 := decide_eq_true c37
          (try have c37b0x : decide (x82_4 < (x10_4.length : Int)) = true := (by rw [← hl10_4]; exact c37b0))
          clear c37
          by_cases c38 : x15_4 > 0
          ·
           rw [if_pos c38] at H
           have c38b0 := decide_eq_true c38
           clear c38
           have c39 : 0 ≤ x82_4 := ifN H
           replace H := ifT H
           have c39b0 := decide_eq_true c39
           clear c39
           have c40 : x82_4 < (x10_4.length : Int) := ifN H
           replace H := ifT H
           have c40b0 := decide_eq_true c40
           clear c40
           obtain ⟨y637, hy637⟩ : ∃ y_ : List (S85), y_ = (x10_4.set (x82_4 : Int).toNat (⟨(rd_T85 x10_4 x82_4).f0, wrap64 (((rd_T85 x10_4 x82_4).f1) + 1)⟩ : S85)) := ⟨_, rfl⟩
           replace H : (impl_ShareGreen.l2 k4 (y637.set (x82_4 : Int).toNat (⟨(rd_T85 y637 x82_4).f0, mn ((rd_T85 y637 x82_4).f1) 60⟩ : S85)) (wrap64 (x15_4 - 1)) (x10_3.length : Int) (wrap64 (x82_4 + 1))) = some (r1, r2) := rH H hy637
           have Ny637 := Aside0.mk hy637
           clear hy637
           obtain ⟨ji42, hji42⟩ : ∃ j_ : Int, (mn ((rd_T85 y637 x82_4).f1) 60) = j_ := ⟨_, rfl⟩
           replace H : (impl_ShareGreen.l2 k4 (y637.set (x82_4 : Int).toNat (⟨(rd_T85 y637 x82_4).f0, ji42⟩ : S85)) (wrap64 (x15_4 - 1)) (x10_3.length : Int) (wrap64 (x82_4 + 1))) = some (r1, r2) := by first | (rw [hji42] at H; exact H) | (simp only [hji42] at H ⊢; exact H)
           have hji42_ : (if 60 < ((rd_T85 y637 x82_4).f1) then 60 else ((rd_T85 y637 x82_4).f1)) = ji42 := hji42
           obtain ⟨y639, hy639⟩ : ∃ y_ : List (S85), y_ = (y637.set (x82_4 : Int).toNat (⟨(rd_T85 y637 x82_4).f0, ji42⟩ : S85)) := ⟨_, rfl⟩
           replace H : (impl_ShareGreen.l2 k4 y639 (wrap64 (x15_4 - 1)) (x10_3.length : Int) (wrap64 (x82_4 + 1))) = some (r1, r2) := rH H hy639
           have Ny639 := Aside0.mk hy639
           clear hy639
           have H' := Aside0.mk H
           clear H
           obtain ⟨p636, q636⟩ : 0 ≤ (x82_4 : Int) ∧ x82_4 < (x10_4.length : Int) := ⟨dA, dA⟩
           obtain ⟨ad636, A636_0, c636_0, e636, hx636_0, hx636_1, hl636_0, hi636_0⟩ := at_T85 (Kd.S_reads' HO_10.out).2.2 x82_4 p636 q636
           cases e636
           obtain ⟨ce636, hce636, hMe636, hcc636⟩ := Kd.S_get HO_10.out z85 x82_4 p636 (by first | exact q636 | exact dA | (have e_ := (Kd.S_reads' HO_10.out).1; omega))
           obtain ⟨ve636_0, rfl, ge636_0⟩ := k85_openM hMe636
           have hv636_0 := hcc636 0 _ rfl
           rw [Nat.add_zero] at hv636_0
           replace hv636_0 := Option.some.inj (hv636_0.symm.trans hx636_0)
           rw [hv636_0] at ge636_0
           have HL636_0 := Aside0.mk (show Kd.R (Kd.int .i64) 3 _ _ _ _ ((rd_T85 x10_4 x82_4).f0) from ge636_0)
           clear hv636_0 ge636_0
           clear hcc636 hce636
           have HR636_0 := Aside0.mk hi636_0
           have HC636_0 := Aside0.mk hl636_0
           clear hi636_0 hl636_0
           obtain ⟨p636, q636⟩ := eT p636 q636
           obtain ⟨p41, q41⟩ : 0 ≤ (x82_4 : Int) ∧ (x82_4 : Int) < ((x10_4.length : Int) : Int) := ⟨dA, dA⟩
           obtain ⟨go41, co41, eo41, gb41, gl41, cl41, HG41⟩ := Kd.S_form HO_10.out (by omega)
           (first | cases eo41 | (injection eo41 with ea_ en_ ec_; (first | subst ea_ | (injection ea_ with ea_; subst ea_)); subst ec_; clear en_))
           have GB41 := Aside0.mk gb41
           have GG41 := Aside0.mk HG41
           clear gb41 gl41 HG41
           (first | simp only [add_plain] at hx636_0 | skip)
           (first | simp only [add_plain] at hx636_1 | skip)
           obtain ⟨_, ce41, hcl41, hM41, hcc41, hfr41, _, _⟩ := Kd.S_elem HO_10.out z85 (x82_4 : Int) p41 q41
           obtain ⟨ve41_0, rfl, ge41_0⟩ := k85_openM hM41
           have hx41_0 : wr.cell? ⟨go41, (x82_4 : Int).toNat * 2, none⟩ = some (ve41_0) := hcc41 0 _ rfl
           have hx41_1 : wr.cell? ⟨go41, (x82_4 : Int).toNat * 2 + 1, none⟩ = some (.int .i64 ((rd_T85 x10_4 x82_4).f1)) := hcc41 1 _ rfl
           have hf41_0 : wr.frozen? ⟨go41, (x82_4 : Int).toNat * 2, none⟩ = false := hfr41 0
           have hf41_1 : wr.frozen? ⟨go41, (x82_4 : Int).toNat * 2 + 1, none⟩ = false := hfr41 1
           clear hcl41 hcc41 hfr41 hM41
           obtain ⟨p41, q41⟩ := eT p41 q41
           have HX44 := Aside0.mk (show Kd.S k85 85 wr w.heap.size (fun k_ => ((fun _ => True)) k_ ∧ ¬ ((fun _ => False)) k_) (.slice (some ⟨go41, 0, none⟩) x10_4.length co36) x10_4 from (sm HO_10 (fun k_ hk => ⟨trivial, fun e_ => e_⟩)))
           obtain ⟨oki44, ce44, hcl44, hM44, hcc44, hfr44, hoki44, hH44⟩ := Kd.S_elem HX44.out z85 (x82_4 : Int) (dA) (by have h_ : (x82_4 : Int) < ((x10_4.length : Int) : Int) := dA; first | exact h_ | (have e_ := (Kd.S_reads' HO_10.out).1; omega) | simpa using h_)
           obtain ⟨ve44_0, rfl, ge44_0⟩ := k85_openM hM44
           have HP44 := Kd.S_seg hH44 (dA) (by have h_ : (x82_4 : Int) < ((x10_4.length : Int) : Int) := dA; first | exact h_ | (have e_ := (Kd.S_reads' HO_10.out).1; omega) | simpa using h_) (seg := [.int .i64 (wrap64 (((rd_T85 x10_4 x82_4).f1) + 1))]) (j := 1) (show 2 ≤ 2 from by decide) (x' := (⟨(rd_T85 x10_4 x82_4).f0, wrap64 (((rd_T85 x10_4 x82_4).f1) + 1)⟩ : S85)) (k85_mkM _ _ _ (⟨(rd_T85 x10_4 x82_4).f0, wrap64 (((rd_T85 x10_4 x82_4).f1) + 1)⟩ : S85) (Kd.R_mono ge44_0 (fun _ h_ => Or.inl h_))) (fun _ hk => hk) (fun k_ hk_ => hk_.elim)
           have hx44_1 := hcc44 1 _ rfl
           (try simp only [show (k85).sz = 2 from rfl, Nat.mul_one, Nat.add_zero] at hx44_1)
           have hf44_1 := hfr44 1
           (try simp only [show (k85).sz = 2 from rfl, Nat.mul_one, Nat.add_zero] at hf44_1)
           clear hcl44 hcc44 hfr44 hM44 hoki44 hH44
           go_wp2_with (first | ((with_reducible refine gate_store (t := 3) (p := 94) rfl ?_); refine store_event (t := 3) (p := 94) (v := ?vo_w45) (w1 := (wr.setCell ⟨go41, (x82_4 : Int).toNat * 2 + 1, none⟩ (.int .i64 (wrap64 (((rd_T85 x10_4 x82_4).f1) + 1))))) ?hg ?ho ?hn ?hr ?_; (case ho => rfl); (case hg => rfl); (case hn => rfl); (case hr => first | (go_simp; done) | (go_simp; rfl)); intro w45 hw; have hg : wr.grownBy w45 (some go41) := (by rw [hw]; exact HP44.2); have hp_ : Kd.S k85 85 w45 w.heap.size (fun _ => True) (.slice (some ⟨go41, 0, none⟩) x10_4.length co36) y637 := (by rw [hw, Ny637.out]; exact HP44.1); clear HP44; have n0_ := Aside0.mk (hp_); have n1_ := Aside0.mk (Kd.R_after (v := (.slice (some ⟨go41, 0, none⟩) x10_4.length co36)) (v1 := (.slice (some ⟨go41, 0, none⟩) x10_4.length co36)) (ok := (fun _ => True)) (by (with_reducible repeat (first | apply Kd.R_alloc | apply Kd.R_drewN | apply Kd.R_drew)); exact HL636_0.out) hg (.inl rfl)); have n2_ := Aside0.mk ((by rw [hw]; exact below_set (HB.out) GB41.out : Below w.heap.size w w45)); clear HO_10; clear HL636_0; clear HB; have HO_10 := n0_; have HL636_0 := n1_; have HB := n2_; clear n0_ n1_ n2_; clear hg hw hp_; have p638 : 0 ≤ (x82_4 : Int) := dA; have q638 : x82_4 < (y637.length : Int) := (by have h_ : (x82_4 : Int) < ((x10_4.length : Int) : Int) := dA; first | (have e_ := (Kd.S_reads' HO_10.out).1; omega) | simpa only [Ny637.out, List.length_set] using h_); have ql638 : ((x82_4 : Int) < ((x10_4.length : Int) : Int)) = True := eq_true (dA); obtain ⟨ad638, A638_0, c638_0, e638, hx638_0, hx638_1, hl638_0, hi638_0⟩ := at_T85 (Kd.S_reads' HO_10.out).2.2 x82_4 p638 q638; obtain rfl : (⟨go41, 0, none⟩ : Addr) = ad638 := (by injection e638); obtain ⟨ce638, hce638, hMe638, hcc638⟩ := Kd.S_get HO_10.out z85 x82_4 p638 (by first | exact q638 | exact dA | (have e_ := (Kd.S_reads' HO_10.out).1; omega)); obtain ⟨ve638_0, rfl, ge638_0⟩ := k85_openM hMe638; have hv638_0 := hcc638 0 _ rfl; rw [Nat.add_zero] at hv638_0; replace hv638_0 := Option.some.inj (hv638_0.symm.trans hx638_0); rw [hv638_0] at ge638_0; have HL638_0 := Aside0.mk (show Kd.R (Kd.int .i64) 3 _ _ _ _ ((rd_T85 y637 x82_4).f0) from ge638_0); clear hv638_0 ge638_0; clear hcc638 hce638; (first | simp only [add_plain] at hx638_0 | simp only [add_at] at hx638_0 | simp only [Addr.add, Nat.zero_add] at hx638_0 | skip); (first | simp only [add_plain] at hx638_1 | simp only [add_at] at hx638_1 | simp only [Addr.add, Nat.zero_add] at hx638_1 | skip); have HR638_0 := Aside0.mk hi638_0; have HC638_0 := Aside0.mk hl638_0; clear hi638_0 hl638_0; replace p638 := eq_true p638; replace q638 := eq_true q638; have p43 : 0 ≤ (x82_4 : Int) := dA; have q43 : (x82_4 : Int) < ((x10_4.length : Int) : Int) := dA; obtain ⟨_, ce43, hcl43, hM43, hcc43, hfr43, _, _⟩ := Kd.S_elem HO_10.out z85 (x82_4 : Int) p43 q43; obtain ⟨ve43_0, rfl, ge43_0⟩ := k85_openM hM43; have hx43_0 : w45.cell? ⟨go41, (x82_4 : Int).toNat * 2, none⟩ = some (ve43_0) := hcc43 0 _ rfl; have hx43_1 : w45.cell? ⟨go41, (x82_4 : Int).toNat * 2 + 1, none⟩ = some (.int .i64 ((rd_T85 y637 x82_4).f1)) := hcc43 1 _ rfl; have hf43_0 : w45.frozen? ⟨go41, (x82_4 : Int).toNat * 2, none⟩ = false := hfr43 0; have hf43_1 : w45.frozen? ⟨go41, (x82_4 : Int).toNat * 2 + 1, none⟩ = false := hfr43 1; clear hcl43 hcc43 hfr43 hM43; replace p43 := eq_true p43; replace q43 := eq_true q43; have HX46 := Aside0.mk (show Kd.S k85 85 w45 w.heap.size (fun k_ => ((fun _ => True)) k_ ∧ ¬ ((fun _ => False)) k_) (.slice (some ⟨go41, 0, none⟩) x10_4.length co36) y637 from (sm HO_10 (fun k_ hk => ⟨trivial, fun e_ => e_⟩))); obtain ⟨oki46, ce46, hcl46, hM46, hcc46, hfr46, hoki46, hH46⟩ := Kd.S_elem HX46.out z85 (x82_4 : Int) (dA) (by have h_ : (x82_4 : Int) < ((x10_4.length : Int) : Int) := dA; first | exact h_ | (have e_ := (Kd.S_reads' HO_10.out).1; omega) | simpa using h_); obtain ⟨ve46_0, rfl, ge46_0⟩ := k85_openM hM46; have HP46 := Kd.S_seg hH46 (dA) (by have h_ : (x82_4 : Int) < ((x10_4.length : Int) : Int) := dA; first | exact h_ | (have e_ := (Kd.S_reads' HO_10.out).1; omega) | simpa using h_) (seg := [.int .i64 ji42]) (j := 1) (show 2 ≤ 2 from by decide) (x' := (⟨(rd_T85 y637 x82_4).f0, ji42⟩ : S85)) (k85_mkM _ _ _ (⟨(rd_T85 y637 x82_4).f0, ji42⟩ : S85) (Kd.R_mono ge46_0 (fun _ h_ => Or.inl h_))) (fun _ hk => hk) (fun k_ hk_ => hk_.elim); have hx46_1 := hcc46 1 _ rfl; (try simp only [show (k85).sz = 2 from rfl, Nat.mul_one, Nat.add_zero] at hx46_1); have hf46_1 := hfr46 1; (try simp only [show (k85).sz = 2 from rfl, Nat.mul_one, Nat.add_zero] at hf46_1); clear hcl46 hcc46 hfr46 hM46 hoki46 hH46) | ((with_reducible refine gate_store (t := 3) (p := 106) rfl ?_); refine store_event (t := 3) (p := 106) (v := ?vo_w47) (w1 := (w45.setCell ⟨go41, (x82_4 : Int).toNat * 2 + 1, none⟩ (.int .i64 ji42))) ?hg ?ho ?hn ?hr ?_; (case ho => rfl); (case hg => rfl); (case hn => rfl); (case hr => first | (go_simp; done) | (go_simp; rfl)); intro w47 hw; have hg : w45.grownBy w47 (some go41) := (by rw [hw]; exact HP46.2); have hp_ : Kd.S k85 85 w47 w.heap.size (fun _ => True) (.slice (some ⟨go41, 0, none⟩) x10_4.length co36) y639 := (by rw [hw, Ny639.out]; exact HP46.1); clear HP46; have n0_ := Aside0.mk (hp_); have n1_ := Aside0.mk (Kd.R_after (v := (.slice (some ⟨go41, 0, none⟩) x10_4.length co36)) (v1 := (.slice (some ⟨go41, 0, none⟩) x10_4.length co36)) (ok := (fun _ => True)) (by (with_reducible repeat (first | apply Kd.R_alloc | apply Kd.R_drewN | apply Kd.R_drew)); exact HL636_0.out) hg (.inl rfl)); have n2_ := Aside0.mk (Kd.R_after (v := (.slice (some ⟨go41, 0, none⟩) x10_4.length co36)) (v1 := (.slice (some ⟨go41, 0, none⟩) x10_4.length co36)) (ok := (fun _ => True)) (by (with_reducible repeat (first | apply Kd.R_alloc | apply Kd.R_drewN | apply Kd.R_drew)); exact HL638_0.out) hg (.inl rfl)); have n3_ := Aside0.mk ((by rw [hw]; exact below_set (HB.out) GB41.out : Below w.heap.size w w47)); clear HO_10; clear HL636_0; clear HL638_0; clear HB; have HO_10 := n0_; have HL636_0 := n1_; have HL638_0 := n2_; have HB := n3_; clear n0_ n1_ n2_ n3_; clear hg hw hp_))
           (try simp only [← hl10_4])
           go_roundg k4
           case measure => have := HJ6.out; have := HK2.out; have := HK3.out; have := HK4.out; omega
           case rel => exact ⟨(y639), (wrap64 (x15_4 - 1)), (wrap64 (x82_4 + 1)), rS, rS, H', ⟨by have := HJ6.out; have := HK2.out; have := HK3.out; have := HK4.out; omega⟩, ⟨by (try simp only [hl10_4]); (with_reducible repeat (first | apply Kd.S_alloc | apply Kd.S_drewN | apply Kd.S_drew)); exact HO_10.out⟩, ⟨bA⟩⟩
          rw [if_neg c38] at H
          have c38b0 := decide_eq_false c38
          clear c38
          have c48 : 0 ≤ x82_4 := ifN H
          replace H := ifT H
          have c48b0 := decide_eq_true c48
          clear c48
          have c49 : x82_4 < (x10_4.length : Int) := ifN H
          replace H := ifT H
          have c49b0 := decide_eq_true c49
          clear c49
          obtain ⟨ji50, hji50⟩ : ∃ j_ : Int, (mn ((rd_T85 x10_4 x82_4).f1) 60) = j_ := ⟨_, rfl⟩
          replace H : (impl_ShareGreen.l2 k4 (x10_4.set (x82_4 : Int).toNat (⟨(rd_T85 x10_4 x82_4).f0, ji50⟩ : S85)) x15_4 (x10_3.length : Int) (wrap64 (x82_4 + 1))) = some (r1, r2) := by first | (rw [hji50] at H; exact H) | (simp only [hji50] at H ⊢; exact H)
          have hji50_ : (if 60 < ((rd_T85 x10_4 x82_4).f1) then 60 else ((rd_T85 x10_4 x82_4).f1)) = ji50 := hji50
          obtain ⟨y641, hy641⟩ : ∃ y_ : List (S85), y_ = (x10_4.set (x82_4 : Int).toNat (⟨(rd_T85 x10_4 x82_4).f0, ji50⟩ : S85)) := ⟨_, rfl⟩
          replace H : (impl_ShareGreen.l2 k4 y641 x15_4 (x10_3.length : Int) (wrap64 (x82_4 + 1))) = some (r1, r2) := rH H hy641
          have Ny641 := Aside0.mk hy641
          clear hy641
          have H' := Aside0.mk H
          clear H
          obtain ⟨p640, q640⟩ : 0 ≤ (x82_4 : Int) ∧ x82_4 < (x10_4.length : Int) := ⟨dA, dA⟩
          obtain ⟨ad640, A640_0, c640_0, e640, hx640_0, hx640_1, hl640_0, hi640_0⟩ := at_T85 (Kd.S_reads' HO_10.out).2.2 x82_4 p640 q640
          cases e640
          obtain ⟨ce640, hce640, hMe640, hcc640⟩ := Kd.S_get HO_10.out z85 x82_4 p640 (by first | exact q640 | exact dA | (have e_ := (Kd.S_reads' HO_10.out).1; omega))
          obtain ⟨ve640_0, rfl, ge640_0⟩ := k85_openM hMe640
          have hv640_0 := hcc640 0 _ rfl
          rw [Nat.add_zero] at hv640_0
          replace hv640_0 := Option.some.inj (hv640_0.symm.trans hx640_0)
          rw [hv640_0] at ge640_0
          have HL640_0 := Aside0.mk (show Kd.R (Kd.int .i64) 3 _ _ _ _ ((rd_T85 x10_4 x82_4).f0) from ge640_0)
          clear hv640_0 ge640_0
          clear hcc640 hce640
          have HR640_0 := Aside0.mk hi640_0
          have HC640_0 := Aside0.mk hl640_0
          clear hi640_0 hl640_0
          obtain ⟨p640, q640⟩ := eT p640 q640
          obtain ⟨p51, q51⟩ : 0 ≤ (x82_4 : Int) ∧ (x82_4 : Int) < ((x10_4.length : Int) : Int) := ⟨dA, dA⟩
          obtain ⟨go51, co51, eo51, gb51, gl51, cl51, HG51⟩ := Kd.S_form HO_10.out (by omega)
          (first | cases eo51 | (injection eo51 with ea_ en_ ec_; (first | subst ea_ | (injection ea_ with ea_; subst ea_)); subst ec_; clear en_))
          have GB51 := Aside0.mk gb51
          have GG51 := Aside0.mk HG51
          clear gb51 gl51 HG51
          (first | simp only [add_plain] at hx640_0 | skip)
          (first | simp only [add_plain] at hx640_1 | skip)
          obtain ⟨_, ce51, hcl51, hM51, hcc51, hfr51, _, _⟩ := Kd.S_elem HO_10.out z85 (x82_4 : Int) p51 q51
          obtain ⟨ve51_0, rfl, ge51_0⟩ := k85_openM hM51
          have hx51_0 : wr.cell? ⟨go51, (x82_4 : Int).toNat * 2, none⟩ = some (ve51_0) := hcc51 0 _ rfl
          have hx51_1 : wr.cell? ⟨go51, (x82_4 : Int).toNat * 2 + 1, none⟩ = some (.int .i64 ((rd_T85 x10_4 x82_4).f1)) := hcc51 1 _ rfl
          have hf51_0 : wr.frozen? ⟨go51, (x82_4 : Int).toNat * 2, none⟩ = false := hfr51 0
          have hf51_1 : wr.frozen? ⟨go51, (x82_4 : Int).toNat * 2 + 1, none⟩ = false := hfr51 1
          clear hcl51 hcc51 hfr51 hM51
          obtain ⟨p51, q51⟩ := eT p51 q51
          have HX52 := Aside0.mk (show Kd.S k85 85 wr w.heap.size (fun k_ => ((fun _ => True)) k_ ∧ ¬ ((fun _ => False)) k_) (.slice (some ⟨go51, 0, none⟩) x10_4.length co36) x10_4 from (sm HO_10 (fun k_ hk => ⟨trivial, fun e_ => e_⟩)))
          obtain ⟨oki52, ce52, hcl52, hM52, hcc52, hfr52, hoki52, hH52⟩ := Kd.S_elem HX52.out z85 (x82_4 : Int) (dA) (by have h_ : (x82_4 : Int) < ((x10_4.length : Int) : Int) := dA; first | exact h_ | (have e_ := (Kd.S_reads' HO_10.out).1; omega) | simpa using h_)
          obtain ⟨ve52_0, rfl, ge52_0⟩ := k85_openM hM52
          have HP52 := Kd.S_seg hH52 (dA) (by have h_ : (x82_4 : Int) < ((x10_4.length : Int) : Int) := dA; first | exact h_ | (have e_ := (Kd.S_reads' HO_10.out).1; omega) | simpa using h_) (seg := [.int .i64 ji50]) (j := 1) (show 2 ≤ 2 from by decide) (x' := (⟨(rd_T85 x10_4 x82_4).f0, ji50⟩ : S85)) (k85_mkM _ _ _ (⟨(rd_T85 x10_4 x82_4).f0, ji50⟩ : S85) (Kd.R_mono ge52_0 (fun _ h_ => Or.inl h_))) (fun _ hk => hk) (fun k_ hk_ => hk_.elim)
          have hx52_1 := hcc52 1 _ rfl
          (try simp only [show (k85).sz = 2 from rfl, Nat.mul_one, Nat.add_zero] at hx52_1)
          have hf52_1 := hfr52 1
          (try simp only [show (k85).sz = 2 from rfl, Nat.mul_one, Nat.add_zero] at hf52_1)
          clear hcl52 hcc52 hfr52 hM52 hoki52 hH52
          go_wp2_with (first | ((with_reducible refine gate_store (t := 3) (p := 106) rfl ?_); refine store_event (t := 3) (p := 106) (v := ?vo_w53) (w1 := (wr.setCell ⟨go51, (x82_4 : Int).toNat * 2 + 1, none⟩ (.int .i64 ji50))) ?hg ?ho ?hn ?hr ?_; (case ho => rfl); (case hg => rfl); (case hn => rfl); (case hr => first | (go_simp; done) | (go_simp; rfl)); intro w53 hw; have hg : wr.grownBy w53 (some go51) := (by rw [hw]; exact HP52.2); have hp_ : Kd.S k85 85 w53 w.heap.size (fun _ => True) (.slice (some ⟨go51, 0, none⟩) x10_4.length co36) y641 := (by rw [hw, Ny641.out]; exact HP52.1); clear HP52; have n0_ := Aside0.mk (hp_); have n1_ := Aside0.mk (Kd.R_after (v := (.slice (some ⟨go51, 0, none⟩) x10_4.length co36)) (v1 := (.slice (some ⟨go51, 0, none⟩) x10_4.length co36)) (ok := (fun _ => True)) (by (with_reducible repeat (first | apply Kd.R_alloc | apply Kd.R_drewN | apply Kd.R_drew)); exact HL640_0.out) hg (.inl rfl)); have n2_ := Aside0.mk ((by rw [hw]; exact below_set (HB.out) GB51.out : Below w.heap.size w w53)); clear HO_10; clear HL640_0; clear HB; have HO_10 := n0_; have HL640_0 := n1_; have HB := n2_; clear n0_ n1_ n2_; clear hg hw hp_))
          (try simp only [← hl10_4])
          go_roundg k4
          case measure => have := HJ6.out; have := HK2.out; have := HK3.out; have := HK4.out; omega
          case rel => exact ⟨(y641), (x15_4), (wrap64 (x82_4 + 1)), rS, rS, H', ⟨by have := HJ6.out; have := HK2.out; have := HK3.out; have := HK4.out; omega⟩, ⟨by (try simp only [hl10_4]); (with_reducible repeat (first | apply Kd.S_alloc | apply Kd.S_drewN | apply Kd.S_drew)); exact HO_10.out⟩, ⟨bA⟩⟩
         rw [if_neg c37] at H
         have c37b0 := decide_eq_false c37
         (try have c37b0x : decide (x82_4 < (x10_4.length : Int)) = false := (by rw [← hl10_4]; exact c37b0))
         clear c37
         simp only [Option.some.injEq, Prod.mk.injEq] at H
         obtain ⟨rfl, rfl⟩ := H
         go_wp2
         go_ret2
         exact ⟨_, rA, sK HO_10, bA⟩

/-! ### slices_Equal_int_int: function 98 -/
def slices_Equal_int_int.l0 : Nat → List Int → List Int → Int → Int → Option (Bool)
 | 0, _, _, _, _ => none
 | k + 1, x0, x1, x12, x13 => if x13 < x12 then (if 0 ≤ x13 then (if x13 < (x0.length : Int) then (if x13 < (x1.length : Int) then (if (rd x0 x13) = (rd x1 x13) then (slices_Equal_int_int.l0 k x0 x1 x12 (wrap64 (x13 + 1))) else (some false)) else (none)) else (none)) else (none)) else (some true)
def slices_Equal_int_int.f (k : Nat) (l0 : List Int) (l1 : List Int) : Option (Bool) := if (l0.length : Int) = (l1.length : Int) then (slices_Equal_int_int.l0 k l0 l1 (l0.length : Int) 0) else (some false)
theorem slices_Equal_int_int.mono_l : ∀ k, (∀ y0 y1 y2 y3, LeO (slices_Equal_int_int.l0 k y0 y1 y2 y3) (slices_Equal_int_int.l0 (k + 1) y0 y1 y2 y3))
 | 0 => fun _ _ _ _ r h => by simp [slices_Equal_int_int.l0] at h
 | k + 1 => by
  have ih0 := slices_Equal_int_int.mono_l k
  ·
   intro y0 y1 y2 y3
   unfold slices_Equal_int_int.l0
   exact mz1 ih0
theorem slices_Equal_int_int.mono : ∀ a0 a1 k, LeO (slices_Equal_int_int.f k a0 a1) (slices_Equal_int_int.f (k + 1) a0 a1) := by
 intro a0 a1 k
 have ih0 := slices_Equal_int_int.mono_l k
 unfold slices_Equal_int_int.f
 exact mz1 ih0
set_option maxHeartbeats 8000000 in
set_option maxRecDepth 100000 in
theorem slices_Equal_int_int.calls (k : Nat) (A0 : Option Addr) (c0 : Nat) (l0 : List Int) (A1 : Option Addr) (c1 : Nat) (l1 : List Int) (r : Bool) (w : World) (hr0 : Kd.C (Kd.int .i64) w A0 l0.length l0) (hc0 : l0.length ≤ c0) (hr1 : Kd.C (Kd.int .i64) w A1 l1.length l1) (hc1 : l1.length ≤ c1) (h : slices_Equal_int_int.f k l0 l1 = some r) :
  Calls Try.prog 98 #[.slice A0 l0.length c0, .slice A1 l1.length c1] w fun e w' => e = .returned (.bool r) ∧ Drawn0 w w' := by
 have HR0 := Aside0.mk hr0
 have HC0 := Aside0.mk hc0
 clear hr0 hc0
 have HR1 := Aside0.mk hr1
 have HC1 := Aside0.mk hc1
 clear hr1 hc1
 have H : (if (l0.length : Int) = (l1.length : Int) then (slices_Equal_int_int.l0 k l0 l1 (l0.length : Int) 0) else (some false)) = some r := h
 clear h
 by_cases c3 : (l0.length : Int) = (l1.length : Int)
 ·
  rw [if_pos c3] at H
  have c3b0 : ((l0.length : Int) == (l1.length : Int)) = true := beq_iff_eq.mpr c3
  have c3b1 : ((l0.length : Int) != (l1.length : Int)) = false := bne_eq_false_iff_eq.mpr c3
  have c3b2 : (l0.length == l1.length) = true := by first | simpa using c3 | (simp at c3 ⊢; omega)
  clear c3
  have H' := Aside0.mk H
  clear H
  go_enter Try.func98, Try.ntmps98
  go_wp2
  repeat (go_quiet (fail); try go_wp2)
  go_loopg [13] k (fun kq v13 w' => ∃ (x13_1 : Int), v13 = .int .i64 x13_1 ∧ Aside0 (slices_Equal_int_int.l0 kq l0 l1 (l0.length : Int) x13_1 = some r) ∧ Aside0 (kq ≤ k) ∧ Drawn0 w w')
  case atStart => exact ⟨(0), rS, H', ⟨Nat.le_refl _⟩, by repeat (first | exact Drawn0.refl _ | apply Drawn0.step)⟩
  case round =>
   clear H'
   obtain ⟨x13_1, rfl, HA, HK1, ⟨m1, rfl⟩⟩ := hrel
   cases gk with
   | zero => exact absurd HA.out (by simp [slices_Equal_int_int.l0])
   | succ k1 =>
    have H := HA.out
    clear HA
    simp only [slices_Equal_int_int.l0] at H
    by_cases c4 : x13_1 < (l0.length : Int)
    ·
     rw [if_pos c4] at H
     have c4b0 := decide_eq_true c4
     clear c4
     have c5 : 0 ≤ x13_1 := ifN H
     replace H := ifT H
     have c5b0 := decide_eq_true c5
     clear c5
     have c6 : x13_1 < (l0.length : Int) := ifN H
     replace H := ifT H
     have c6b0 := decide_eq_true c6
     clear c6
     have c7 : x13_1 < (l1.length : Int) := ifN H
     replace H := ifT H
     have c7b0 := decide_eq_true c7
     clear c7
     by_cases c8 : (rd l0 x13_1) = (rd l1 x13_1)
     ·
      rw [if_pos c8] at H
      have c8b0 : ((rd l0 x13_1) == (rd l1 x13_1)) = true := beq_iff_eq.mpr c8
      have c8b1 : ((rd l0 x13_1) != (rd l1 x13_1)) = false := bne_eq_false_iff_eq.mpr c8
      clear c8
      have H' := Aside0.mk H
      clear H
      obtain ⟨p642, q642⟩ : 0 ≤ (x13_1 : Int) ∧ x13_1 < (l0.length : Int) := ⟨dA, dA⟩
      obtain ⟨ad642, e642, hx642_0⟩ := Kd.at_int HR0.out x13_1 p642 q642
      cases e642
      obtain ⟨p642, q642⟩ := eT p642 q642
      obtain ⟨p643, q643⟩ : 0 ≤ (x13_1 : Int) ∧ x13_1 < (l1.length : Int) := ⟨dA, dA⟩
      obtain ⟨ad643, e643, hx643_0⟩ := Kd.at_int HR1.out x13_1 p643 q643
      cases e643
      obtain ⟨p643, q643⟩ := eT p643 q643
      go_wp2
      repeat (go_quiet (fail); try go_wp2)
      go_roundg k1
      case measure => have := HK1.out; omega
      case rel => exact ⟨(wrap64 (x13_1 + 1)), rS, H', ⟨by have := HK1.out; omega⟩, by repeat (first | exact Drawn0.refl _ | apply Drawn0.step)⟩
     rw [if_neg c8] at H
     have c8b0 : ((rd l0 x13_1) == (rd l1 x13_1)) = false := beq_eq_false_iff_ne.mpr c8
     have c8b1 : ((rd l0 x13_1) != (rd l1 x13_1)) = true := bne_iff_ne.mpr c8
     obtain rfl := Option.some.inj H
     obtain ⟨p642, q642⟩ : 0 ≤ (x13_1 : Int) ∧ x13_1 < (l0.length : Int) := ⟨dA, dA⟩
     obtain ⟨ad642, e642, hx642_0⟩ := Kd.at_int HR0.out x13_1 p642 q642
     cases e642
     obtain ⟨p642, q642⟩ := eT p642 q642
     obtain ⟨p643, q643⟩ : 0 ≤ (x13_1 : Int) ∧ x13_1 < (l1.length : Int) := ⟨dA, dA⟩
     obtain ⟨ad643, e643, hx643_0⟩ := Kd.at_int HR1.out x13_1 p643 q643
     cases e643
     obtain ⟨p643, q643⟩ := eT p643 q643
     go_wp2
     repeat (go_quiet (fail); try go_wp2)
     go_ret
     exact ⟨rS, dD⟩
    rw [if_neg c4] at H
    have c4b0 := decide_eq_false c4
    clear c4
    obtain rfl := Option.some.inj H
    go_wp2
    repeat (go_quiet (fail); try go_wp2)
    go_ret
    exact ⟨rS, dD⟩
 rw [if_neg c3] at H
 have c3b0 : ((l0.length : Int) == (l1.length : Int)) = false := beq_eq_false_iff_ne.mpr c3
 have c3b1 : ((l0.length : Int) != (l1.length : Int)) = true := bne_iff_ne.mpr c3
 have c3b2 : (l0.length == l1.length) = false := by first | simpa using c3 | (simp at c3 ⊢; omega)
 obtain rfl := Option.some.inj H
 go_enter Try.func98, Try.ntmps98
 go_wp2
 repeat (go_quiet (fail); try go_wp2)
 go_ret
 exact ⟨rS, dD⟩

/-! ### impl_SameStages_1: function 107 -/
def impl_SameStages_1.f (k : Nat) (l0_0 : List Int) (a0_1 : Int) (l1_0 : List Int) (a1_1 : Int) : Option (Bool) := (slices_Equal_int_int.f k l0_0 l1_0).bind fun t646 => (some t646)
theorem impl_SameStages_1.mono : ∀ a0 a1 a2 a3 k, LeO (impl_SameStages_1.f k a0 a1 a2 a3) (impl_SameStages_1.f (k + 1) a0 a1 a2 a3) := by
 intro a0 a1 a2 a3 k
 unfold impl_SameStages_1.f
 exact mz1 slices_Equal_int_int.mono
set_option maxHeartbeats 8000000 in
set_option maxRecDepth 100000 in
theorem impl_SameStages_1.calls (k : Nat) (A0_0 : Option Addr) (c0_0 : Nat) (l0_0 : List Int) (a0_1 : Int) (A1_0 : Option Addr) (c1_0 : Nat) (l1_0 : List Int) (a1_1 : Int) (r : Bool) (w : World) (hr0_0 : Kd.C (Kd.int .i64) w A0_0 l0_0.length l0_0) (hc0_0 : l0_0.length ≤ c0_0) (hr1_0 : Kd.C (Kd.int .i64) w A1_0 l1_0.length l1_0) (hc1_0 : l1_0.length ≤ c1_0) (h : impl_SameStages_1.f k l0_0 a0_1 l1_0 a1_1 = some r) :
  Calls Try.prog 107 #[.agg #[.slice A0_0 l0_0.length c0_0, .int .i64 a0_1], .agg #[.slice A1_0 l1_0.length c1_0, .int .i64 a1_1]] w fun e w' => e = .returned (.bool r) ∧ Below w.heap.size w w' := by
 have hu85 := Try.underlying85
 have HR0_0 := Aside0.mk hr0_0
 have HC0_0 := Aside0.mk hc0_0
 clear hr0_0 hc0_0
 have HR1_0 := Aside0.mk hr1_0
 have HC1_0 := Aside0.mk hc1_0
 clear hr1_0 hc1_0
 have HB := Aside0.mk (Below.refl w.heap.size w)
 have H : ((slices_Equal_int_int.f k l0_0 l1_0).bind fun t646 => (some t646)) = some r := h
 clear h
 obtain ⟨t646, A3, H⟩ := bindE H
 try dsimp only at H
 obtain rfl := Option.some.inj H
 go_enter Try.func107, Try.ntmps107
 go_wp2_with (first | ((with_reducible refine gate_dst (N := 2) rfl ?_); refine bE (N := 2) (cs := #[.slice A0_0 l0_0.length c0_0, .int .i64 a0_1]) (t := 85) ?_; intro gb644 hg w4 hbox hb; have BK644 := Aside0.mk (hbox); have GW644 := gw w hg; have GE644 := gw w hg; replace HB := bs HB hb; clear hb hbox hg) | ((with_reducible refine gate_dst (N := 3) rfl ?_); refine bE (N := 3) (cs := #[.slice A1_0 l1_0.length c1_0, .int .i64 a1_1]) (t := 85) ?_; intro gb645 hg w5 hbox hb; have BK645 := Aside0.mk (hbox); have GW645 := gw w hg; have GE645 := gw w hg; replace HB := bs HB hb; have NB644_645 := nl BK644 hg; have NB645_644 := nr BK644 hg; replace BK644 := kb BK644 hb; clear hb hbox hg; have hnb6 := NB644_645.out; have hnc6 := NB645_644.out; obtain ⟨_, _, _, _⟩ := blkc2 BK644; have hcz8_0 : w5.cell? ⟨gb645, 0, none⟩ = some (.slice A1_0 l1_0.length c1_0) := bC BK645 0; have hcz8_1 : w5.cell? ⟨gb645, 1, none⟩ = some (.int .i64 a1_1) := bC BK645 1; have hfz8_0 := blk_frozen BK645.out 0; have hfz8_1 := blk_frozen BK645.out 1) | ((with_reducible refine gate_callee (f := 98) rfl ?_); refine gL (some 9) Try.func98 #[.slice A0_0 l0_0.length c0_0, .slice A1_0 l1_0.length c1_0] ?_; (with_reducible refine (slices_Equal_int_int.calls k _ _ l0_0 _ _ l1_0 t646 _ ?_ ?_ ?_ ?_ A3.out).mono ?_); exact cB HR0_0; exact HC0_0.out; exact cB HR1_0; exact HC1_0.out; rintro e w' ⟨rfl, ⟨nd, rfl⟩⟩; refine ⟨_, rfl, ?_⟩))
 go_ret
 exact ⟨rA, bG⟩

/-! ### impl_SameStages: function 53 -/
def impl_SameStages.l0 : Nat → List S85 → List S85 → Int → Option Bool
 | 0, _, _, _ => none
 | k + 1, x, y, i => if i < (x.length : Int) then (if 0 ≤ i then ((impl_SameStages_1.f k (rd_T85 x i).f0 (rd_T85 x i).f1 (rd_T85 y i).f0 (rd_T85 y i).f1).bind fun t => (if t = true then (impl_SameStages.l0 k x y (wrap64 (i + 1))) else (some false))) else (none)) else (some true)
def impl_SameStages.f (k : Nat) (l0 : List S85) (l1 : List S85) : Option Bool := if (l0.length : Int) = (l1.length : Int) then (impl_SameStages.l0 k l0 l1 0) else (some false)
theorem impl_SameStages.mono_l : ∀ k, (∀ y0 y1 y2, LeO (impl_SameStages.l0 k y0 y1 y2) (impl_SameStages.l0 (k + 1) y0 y1 y2))
 | 0 => fun _ _ _ r h => by simp [impl_SameStages.l0] at h
 | k + 1 => by
  have ih0 := impl_SameStages.mono_l k
  ·
   intro y0 y1 y2
   unfold impl_SameStages.l0
   repeat' first | (with_reducible first | exact LeO.refl _ | exact LeO.none _ | refine LeO.ite ?_ ?_ | refine LeO.bind ?_ (fun _ => ?_) | exact ih0 _ _ _ | exact impl_SameStages_1.mono _ _ _ _ _)
theorem impl_SameStages.mono : ∀ a0 a1 k, LeO (impl_SameStages.f k a0 a1) (impl_SameStages.f (k + 1) a0 a1) := by
 intro a0 a1 k
 have ih0 := impl_SameStages.mono_l k
 unfold impl_SameStages.f
 repeat' first | (with_reducible first | exact LeO.refl _ | exact LeO.none _ | refine LeO.ite ?_ ?_ | refine LeO.bind ?_ (fun _ => ?_) | exact ih0 _ _ _)
set_option maxHeartbeats 8000000 in
set_option maxRecDepth 100000 in
theorem impl_SameStages.eqf (k : Nat) (A0 : Option Addr) (c0 : Nat) (l0 : List S85) (A1 : Option Addr) (c1 : Nat) (l1 : List S85) (r : Bool) (w : World) (hr0 : Kd.C k85 w A0 l0.length l0) (hc0 : l0.length ≤ c0) (hr1 : Kd.C k85 w A1 l1.length l1) (hc1 : l1.length ≤ c1) (h : impl_SameStages.f k l0 l1 = some r) :
  Calls Try.prog 106 #[.slice A0 l0.length c0, .slice A1 l1.length c1, .func (.func 107) #[] #[]] w fun e w' => e = .returned (.bool r) ∧ Below w.heap.size w w' := by
 have hu := Try.underlying85
 have HR0 := Aside0.mk hr0
 have HC0 := Aside0.mk hc0
 have HR1 := Aside0.mk hr1
 have HC1 := Aside0.mk hc1
 have hlen : l0.length ≤ 9223372036854775807 := hr0.2.1
 clear hr0 hc0 hr1 hc1
 have HB := Aside0.mk (Below.refl w.heap.size w)
 by_cases hn : (l0.length : Int) = (l1.length : Int)
 ·
  have H : impl_SameStages.l0 k l0 l1 0 = some r := by unfold impl_SameStages.f at h; rw [if_pos hn] at h; exact h
  clear h
  have hnb : ((l0.length : Int) != (l1.length : Int)) = false := bne_eq_false_iff_eq.mpr hn
  have hnn : l0.length = l1.length := by omega
  have HN := Aside0.mk hnn
  have H' := Aside0.mk H
  clear H hn hnn
  go_enter Try.func106, Try.ntmps106
  go_wp2
  go_loopg [17] k (fun kq v17 w' => ∃ (x17 : Int), v17 = .int .i64 x17 ∧ Aside0 (impl_SameStages.l0 kq l0 l1 x17 = some r) ∧ Aside0 (kq ≤ k) ∧ Aside0 (Below w.heap.size w w'))
  case atStart => exact ⟨0, rfl, H', ⟨Nat.le_refl _⟩, HB⟩
  case round =>
   clear H' HB
   obtain ⟨x17, rfl, HA, HK1, HB⟩ := hrel
   cases gk with
   | zero => exact absurd HA.out (by simp [impl_SameStages.l0])
   | succ k1 =>
    have H := HA.out
    clear HA
    simp only [impl_SameStages.l0] at H
    by_cases c3 : x17 < (l0.length : Int)
    ·
     rw [if_pos c3] at H
     have c3b0 := decide_eq_true c3
     have c4 : 0 ≤ x17 := ifN H
     replace H := ifT H
     obtain ⟨t, A5, H⟩ := bindE H
     try dsimp only at H
     have p5 : 0 ≤ (x17 : Int) := c4
     have q5 : (x17 : Int) < (l0.length : Int) := c3
     have q6 : (x17 : Int) < (l1.length : Int) := by have := HN.out; omega
     obtain ⟨ad0, Ai0, ci0, e0, hx0, hy0, hl0, hi0⟩ := at_T85 HR0.out x17 p5 q5
     cases e0
     obtain ⟨ad1, Ai1, ci1, e1, hx1, hy1, hl1, hi1⟩ := at_T85 HR1.out x17 p5 q6
     cases e1
     replace hx0 := hC HB hx0
     replace hy0 := hC HB hy0
     replace hx1 := hC HB hx1
     replace hy1 := hC HB hy1
     have HI0 := Aside0.mk hi0
     have HI1 := Aside0.mk hi1
     have HL0 := Aside0.mk hl0
     have HL1 := Aside0.mk hl1
     have H' := Aside0.mk H
     clear hi0 hi1 hl0 hl1 H c3 c4
     replace p5 := eq_true p5
     replace q5 := eq_true q5
     replace q6 := eq_true q6
     have hx1a : ∀ o, (wr.alloc o).cell? (ad1.add ((x17 : Int).toNat * 2)) = some (.slice Ai1 (rd_T85 l1 x17).f0.length ci1) := fun o => (((Below.refl wr.heap.size wr).alloc (Nat.le_refl _) o).cell (World.block_lt_of_cell? wr _ hx1)).trans hx1
     have hy1a : ∀ o, (wr.alloc o).cell? ⟨(ad1.add ((x17 : Int).toNat * 2)).block, (ad1.add ((x17 : Int).toNat * 2)).off + 1, none⟩ = some (.int .i64 (rd_T85 l1 x17).f1) := fun o => (((Below.refl wr.heap.size wr).alloc (Nat.le_refl _) o).cell (World.block_lt_of_cell? wr _ hy1)).trans hy1
     cases t with
     | true =>
      go_wp2_with ((go_at_call 107; refine (impl_SameStages_1.calls k1 Ai0 ci0 _ _ Ai1 ci1 _ _ true _ ?s1 HL0.out ?s2 HL1.out A5.out).mono ?_; (case s1 => exact Kd.C_below HI0.out (below_alloc (below_alloc HB.out _) _)); (case s2 => exact Kd.C_below HI1.out (below_alloc (below_alloc HB.out _) _)); rintro e w1 ⟨rfl, hb1⟩))
      go_roundg k1
      case measure => have := HK1.out; omega
      case rel => exact ⟨wrap64 (x17 + 1), rfl, ⟨by have := H'.out; first | (rw [if_pos trivial] at this; exact this) | (rw [if_pos rfl] at this; exact this)⟩, ⟨by have := HK1.out; omega⟩, ⟨below_step (below_alloc (below_alloc HB.out _) _) hb1⟩⟩
     | false =>
      have hr : r = false := by
       have := H'.out
       rw [if_neg (by decide)] at this
       exact (Option.some.inj this).symm
      subst hr
      go_wp2_with ((go_at_call 107; refine (impl_SameStages_1.calls k1 Ai0 ci0 _ _ Ai1 ci1 _ _ false _ ?s1 HL0.out ?s2 HL1.out A5.out).mono ?_; (case s1 => exact Kd.C_below HI0.out (below_alloc (below_alloc HB.out _) _)); (case s2 => exact Kd.C_below HI1.out (below_alloc (below_alloc HB.out _) _)); rintro e w1 ⟨rfl, hb1⟩))
      go_ret
      exact ⟨rfl, below_step (below_alloc (below_alloc HB.out _) _) hb1⟩
    ·
     rw [if_neg c3] at H
     have c3b0 := decide_eq_false c3
     obtain rfl := Option.some.inj H
     go_wp2
     go_ret
     exact ⟨rfl, HB.out⟩
 ·
  have hr : r = false := by unfold impl_SameStages.f at h; rw [if_neg hn] at h; exact (Option.some.inj h).symm
  subst hr
  have hnb : ((l0.length : Int) != (l1.length : Int)) = true := bne_iff_ne.mpr hn
  go_enter Try.func106, Try.ntmps106
  go_wp2
  go_ret
  exact ⟨rfl, HB.out⟩
set_option maxHeartbeats 400000 in
set_option maxRecDepth 100000 in
theorem impl_SameStages.calls (k : Nat) (A0 : Option Addr) (c0 : Nat) (l0 : List S85) (A1 : Option Addr) (c1 : Nat) (l1 : List S85) (r : Bool) (w : World) (hr0 : Kd.C k85 w A0 l0.length l0) (hc0 : l0.length ≤ c0) (hr1 : Kd.C k85 w A1 l1.length l1) (hc1 : l1.length ≤ c1) (h : impl_SameStages.f k l0 l1 = some r) :
  Calls Try.prog 53 #[.slice A0 l0.length c0, .slice A1 l1.length c1] w fun e w' => e = .returned (.bool r) ∧ Below w.heap.size w w' := by
 have HR0 := Aside0.mk hr0
 have HC0 := Aside0.mk hc0
 have HR1 := Aside0.mk hr1
 have HC1 := Aside0.mk hc1
 have HH := Aside0.mk h
 clear hr0 hc0 hr1 hc1 h
 go_enter Try.func53, Try.ntmps53
 go_wp2_with (go_at_call 106; refine (impl_SameStages.eqf k A0 c0 l0 A1 c1 l1 r _ HR0.out HC0.out HR1.out HC1.out HH.out).mono ?_; rintro e w1 ⟨rfl, hb1⟩)
 go_ret
 exact ⟨rfl, hb1⟩

/-! ### impl_Cycle: function 56 -/
def impl_Cycle.l0 : Nat → List (S50) → List (S85) → Int → Int → Int → Option (Int)
 | 0, _, _, _, _, _ => none
 | k + 1, x0, x1, x5, x12, x13 => if x13 < x12 then ((impl_longOf.f k x0 x1 x13).bind fun t648 => (impl_Cycle.l0 k x0 x1 (wrap64 (x5 + t648)) x12 (wrap64 (x13 + 1)))) else (some x5)
def impl_Cycle.f (k : Nat) (l0 : List (S50)) (l1 : List (S85)) : Option (Int) := (impl_IsPlan.f k l0 l1).bind fun t647 => (if t647 = true then (impl_Cycle.l0 k l0 l1 0 (l1.length : Int) 0) else (some 0))
theorem impl_Cycle.mono_l : ∀ k, (∀ y0 y1 y2 y3 y4, LeO (impl_Cycle.l0 k y0 y1 y2 y3 y4) (impl_Cycle.l0 (k + 1) y0 y1 y2 y3 y4))
 | 0 => fun _ _ _ _ _ r h => by simp [impl_Cycle.l0] at h
 | k + 1 => by
  have ih0 := impl_Cycle.mono_l k
  ·
   intro y0 y1 y2 y3 y4
   unfold impl_Cycle.l0
   exact mz3 ih0 impl_IsPlan.mono impl_longOf.mono
theorem impl_Cycle.mono : ∀ a0 a1 k, LeO (impl_Cycle.f k a0 a1) (impl_Cycle.f (k + 1) a0 a1) := by
 intro a0 a1 k
 have ih0 := impl_Cycle.mono_l k
 unfold impl_Cycle.f
 exact mz3 ih0 impl_IsPlan.mono impl_longOf.mono
set_option maxHeartbeats 8000000 in
set_option maxRecDepth 100000 in
theorem impl_Cycle.calls (k : Nat) (A0 : Option Addr) (c0 : Nat) (l0 : List (S50)) (A1 : Option Addr) (c1 : Nat) (l1 : List (S85)) (r : Int) (w : World) (hr0 : Kd.C k50 w A0 l0.length l0) (hc0 : l0.length ≤ c0) (hr1 : Kd.C k85 w A1 l1.length l1) (hc1 : l1.length ≤ c1) (h : impl_Cycle.f k l0 l1 = some r) :
  Calls Try.prog 56 #[.slice A0 l0.length c0, .slice A1 l1.length c1] w fun e w' => e = .returned (.int .i64 r) ∧ Below w.heap.size w w' := by
 have HR0 := Aside0.mk hr0
 have HC0 := Aside0.mk hc0
 clear hr0 hc0
 have HR1 := Aside0.mk hr1
 have HC1 := Aside0.mk hc1
 clear hr1 hc1
 have HB := Aside0.mk (Below.refl w.heap.size w)
 have H : ((impl_IsPlan.f k l0 l1).bind fun t647 => (if t647 = true then (impl_Cycle.l0 k l0 l1 0 (l1.length : Int) 0) else (some 0))) = some r := h
 clear h
 obtain ⟨t647, A3, H⟩ := bindE H
 try dsimp only at H
 by_cases c4 : t647 = true
 ·
  subst c4
  have H1 : (impl_Cycle.l0 k l0 l1 0 (l1.length : Int) 0) = some r := by rw [if_pos rfl] at H; exact H
  clear H
  have H := H1
  clear H1
  have H' := Aside0.mk H
  clear H
  go_enter Try.func56, Try.ntmps56
  go_wp2_with (first | ((with_reducible refine gate_callee (f := 15) rfl ?_); refine gL (some 9) Try.func15 #[.slice A0 l0.length c0, .slice A1 l1.length c1] ?_; (with_reducible refine (impl_IsPlan.calls k _ _ l0 (fun k_ => k_ < w.heap.size) _ _ l1 true _ ?_ ?_ ?_ A3.out).mono ?_); exact cO HR0; exact HC0.out; exact Kd.V_mk HC1.out (Kd.F_below (Kd.C_F k85_heap HR1.out) bA); rintro e w5 ⟨rfl, hb⟩; refine ⟨_, rfl, ?_⟩; replace HB := bs HB hb; (try clear hb)))
  go_loopg [5, 13] k (fun kq v5 v13 w' => ∃ (x5_1 : Int) (x13_1 : Int), v5 = .int .i64 x5_1 ∧ v13 = .int .i64 x13_1 ∧ Aside0 (impl_Cycle.l0 kq l0 l1 x5_1 (l1.length : Int) x13_1 = some r) ∧ Aside0 (kq ≤ k) ∧ Aside0 (Below w.heap.size w w'))
  case atStart => exact ⟨(0), (0), rS, rS, H', ⟨Nat.le_refl _⟩, ⟨bA⟩⟩
  case round =>
   clear H'
   obtain ⟨x5_1, x13_1, rfl, rfl, HA, HK1, HB⟩ := hrel
   cases gk with
   | zero => exact absurd HA.out (by simp [impl_Cycle.l0])
   | succ k1 =>
    have H := HA.out
    clear HA
    simp only [impl_Cycle.l0] at H
    by_cases c6 : x13_1 < (l1.length : Int)
    ·
     rw [if_pos c6] at H
     have c6b0 := decide_eq_true c6
     clear c6
     obtain ⟨t648, A7, H⟩ := bindE H
     try dsimp only at H
     have H' := Aside0.mk H
     clear H
     go_wp2_with (first | ((with_reducible refine gate_callee (f := 108) rfl ?_); refine gL (some 20) Try.func108 #[.slice A0 l0.length c0, .slice A1 l1.length c1, .int .i64 x13_1] ?_; (with_reducible refine (impl_longOf.calls k1 _ _ l0 _ _ l1 x13_1 t648 _ ?_ ?_ ?_ ?_ A7.out).mono ?_); exact cB HR0; exact HC0.out; exact cB HR1; exact HC1.out; rintro e w8 ⟨rfl, hb⟩; refine ⟨_, rfl, ?_⟩; replace HB := bs HB hb; (try clear hb)))
     go_roundg k1
     case measure => have := HK1.out; omega
     case rel => exact ⟨(wrap64 (x5_1 + t648)), (wrap64 (x13_1 + 1)), rS, rS, H', ⟨by have := HK1.out; omega⟩, ⟨bA⟩⟩
    rw [if_neg c6] at H
    have c6b0 := decide_eq_false c6
    clear c6
    obtain rfl := Option.some.inj H
    go_wp2
    go_ret
    exact ⟨rA, bA⟩
 replace c4 := Bool.eq_false_iff.mpr c4
 subst c4
 have H1 : (some 0) = some r := by rw [if_neg (show ¬ (false = true) by decide)] at H; exact H
 clear H
 have H := H1
 clear H1
 obtain rfl := Option.some.inj H
 go_enter Try.func56, Try.ntmps56
 go_wp2_with (first | ((with_reducible refine gate_callee (f := 15) rfl ?_); refine gL (some 9) Try.func15 #[.slice A0 l0.length c0, .slice A1 l1.length c1] ?_; (with_reducible refine (impl_IsPlan.calls k _ _ l0 (fun k_ => k_ < w.heap.size) _ _ l1 false _ ?_ ?_ ?_ A3.out).mono ?_); exact cO HR0; exact HC0.out; exact Kd.V_mk HC1.out (Kd.F_below (Kd.C_F k85_heap HR1.out) bA); rintro e w9 ⟨rfl, hb⟩; refine ⟨_, rfl, ?_⟩; replace HB := bs HB hb; (try clear hb)))
 go_ret
 exact ⟨rA, bA⟩

/-! ### impl_GreenShare: function 55 -/
def impl_GreenShare.f (k : Nat) (l0 : List (S50)) (l1 : List (S85)) (a2 : Int) : Option (Int) := (impl_IsPlan.f k l0 l1).bind fun t649 => (if t649 = true then (if a2 < 0 then (some 0) else (if a2 ≥ (l1.length : Int) then (some 0) else (if 0 ≤ a2 then (if a2 < (l1.length : Int) then ((impl_Cycle.f k l0 l1).bind fun t651 => (if t651 = 0 then (none) else (some (wrap64 (Int.tdiv (wrap64 (100 * ((rd_T85 l1 a2).f1))) t651))))) else (none)) else (none)))) else (some 0))
theorem impl_GreenShare.mono : ∀ a0 a1 a2 k, LeO (impl_GreenShare.f k a0 a1 a2) (impl_GreenShare.f (k + 1) a0 a1 a2) := by
 intro a0 a1 a2 k
 unfold impl_GreenShare.f
 exact mz2 impl_Cycle.mono impl_IsPlan.mono
def impl_GreenShare.T3 : Bool × List (List Nat × List Nat) := (true, [([], []), ([], []), ([0, 1], [0, 1]), ([2], [2]), ([3], [3]), ([4], [4]), ([], []), ([], []), ([6, 7], [6, 7]), ([5, 8], [5, 8]), ([9, 8, 0, 1, 2, 3, 4, 5, 6, 7, 8, 9], [9])])
def impl_GreenShare.B3 : List Nat := [0, 0, 3, 7, 15, 31, 0, 0, 192, 511, 1023]
theorem impl_GreenShare.tab3 : rtab .any (opsOf Try.f55 3) = impl_GreenShare.T3 := by kernel_rfl
theorem impl_GreenShare.bits3 : waitsOk impl_GreenShare.T3.2 impl_GreenShare.B3 = true := by kernel_rfl
set_option maxHeartbeats 8000000 in
set_option maxRecDepth 100000 in
theorem impl_GreenShare.calls (k : Nat) (A0 : Option Addr) (c0 : Nat) (l0 : List (S50)) (A1 : Option Addr) (c1 : Nat) (l1 : List (S85)) (a2 : Int) (r : Int) (w : World) (hr0 : Kd.C k50 w A0 l0.length l0) (hc0 : l0.length ≤ c0) (hr1 : Kd.C k85 w A1 l1.length l1) (hc1 : l1.length ≤ c1) (h : impl_GreenShare.f k l0 l1 a2 = some r) :
  Calls Try.prog 55 #[.slice A0 l0.length c0, .slice A1 l1.length c1, .int .i64 a2] w fun e w' => e = .returned (.int .i64 r) ∧ Below w.heap.size w w' := by
 have HR0 := Aside0.mk hr0
 have HC0 := Aside0.mk hc0
 clear hr0 hc0
 have HR1 := Aside0.mk hr1
 have HC1 := Aside0.mk hc1
 clear hr1 hc1
 have HB := Aside0.mk (Below.refl w.heap.size w)
 have H : ((impl_IsPlan.f k l0 l1).bind fun t649 => (if t649 = true then (if a2 < 0 then (some 0) else (if a2 ≥ (l1.length : Int) then (some 0) else (if 0 ≤ a2 then (if a2 < (l1.length : Int) then ((impl_Cycle.f k l0 l1).bind fun t651 => (if t651 = 0 then (none) else (some (wrap64 (Int.tdiv (wrap64 (100 * ((rd_T85 l1 a2).f1))) t651))))) else (none)) else (none)))) else (some 0))) = some r := h
 clear h
 obtain ⟨t649, A4, H⟩ := bindE H
 try dsimp only at H
 by_cases c5 : t649 = true
 ·
  subst c5
  have H1 : (if a2 < 0 then (some 0) else (if a2 ≥ (l1.length : Int) then (some 0) else (if 0 ≤ a2 then (if a2 < (l1.length : Int) then ((impl_Cycle.f k l0 l1).bind fun t651 => (if t651 = 0 then (none) else (some (wrap64 (Int.tdiv (wrap64 (100 * ((rd_T85 l1 a2).f1))) t651))))) else (none)) else (none)))) = some r := by rw [if_pos rfl] at H; exact H
  clear H
  have H := H1
  clear H1
  by_cases c6 : a2 < 0
  ·
   rw [if_pos c6] at H
   have c6b0 := decide_eq_true c6
   clear c6
   obtain rfl := Option.some.inj H
   go_enter Try.func55, Try.ntmps55
   go_wp2_with (first | ((with_reducible refine gate_callee (f := 15) rfl ?_); refine gL (some 9) Try.func15 #[.slice A0 l0.length c0, .slice A1 l1.length c1] ?_; (with_reducible refine (impl_IsPlan.calls k _ _ l0 (fun k_ => k_ < w.heap.size) _ _ l1 true _ ?_ ?_ ?_ A4.out).mono ?_); exact cO HR0; exact HC0.out; exact Kd.V_mk HC1.out (Kd.F_below (Kd.C_F k85_heap HR1.out) bA); rintro e w7 ⟨rfl, hb⟩; refine ⟨_, rfl, ?_⟩; replace HB := bs HB hb; (try clear hb)))
   go_ret
   exact ⟨rA, bA⟩
  rw [if_neg c6] at H
  have c6b0 := decide_eq_false c6
  clear c6
  by_cases c8 : a2 ≥ (l1.length : Int)
  ·
   rw [if_pos c8] at H
   have c8b0 := decide_eq_true c8
   clear c8
   obtain rfl := Option.some.inj H
   go_enter Try.func55, Try.ntmps55
   go_wp2_with (first | ((with_reducible refine gate_callee (f := 15) rfl ?_); refine gL (some 9) Try.func15 #[.slice A0 l0.length c0, .slice A1 l1.length c1] ?_; (with_reducible refine (impl_IsPlan.calls k _ _ l0 (fun k_ => k_ < w.heap.size) _ _ l1 true _ ?_ ?_ ?_ A4.out).mono ?_); exact cO HR0; exact HC0.out; exact Kd.V_mk HC1.out (Kd.F_below (Kd.C_F k85_heap HR1.out) bA); rintro e w9 ⟨rfl, hb⟩; refine ⟨_, rfl, ?_⟩; replace HB := bs HB hb; (try clear hb)))
   go_ret
   exact ⟨rA, bA⟩
  rw [if_neg c8] at H
  have c8b0 := decide_eq_false c8
  clear c8
  have c10 : 0 ≤ a2 := ifN H
  replace H := ifT H
  have c10b0 := decide_eq_true c10
  clear c10
  have c11 : a2 < (l1.length : Int) := ifN H
  replace H := ifT H
  have c11b0 := decide_eq_true c11
  clear c11
  obtain ⟨t651, A12, H⟩ := bindE H
  try dsimp only at H
  have c13 : ¬ (t651 = 0) := ifN' H
  replace H := ifT' H
  have c13b0 : (t651 == 0) = false := beq_eq_false_iff_ne.mpr c13
  have c13b1 : (t651 != 0) = true := bne_iff_ne.mpr c13
  obtain rfl := Option.some.inj H
  go_enter Try.func55, Try.ntmps55
  try go_wp2_with (first | ((with_reducible refine gate_callee (f := 15) rfl ?_); refine gL (some 9) Try.func15 #[.slice A0 l0.length c0, .slice A1 l1.length c1] ?_; (with_reducible refine (impl_IsPlan.calls k _ _ l0 (fun k_ => k_ < w.heap.size) _ _ l1 true _ ?_ ?_ ?_ A4.out).mono ?_); exact cO HR0; exact HC0.out; exact Kd.V_mk HC1.out (Kd.F_below (Kd.C_F k85_heap HR1.out) bA); rintro e w14 ⟨rfl, hb⟩; refine ⟨_, rfl, ?_⟩; replace HB := bs HB hb; (try clear hb)))
  have HBo := HB
  replace HB := db HB
  obtain ⟨p650, q650⟩ : 0 ≤ (a2 : Int) ∧ a2 < (l1.length : Int) := ⟨dA, dA⟩
  obtain ⟨ad650, A650_0, c650_0, e650, hx650_0, hx650_1, hl650_0, hi650_0⟩ := at_T85 HR1.out a2 p650 q650
  have hw650_1 := hx650_1
  have hw650_0 := hx650_0
  cases e650
  replace hx650_0 := hC HB hx650_0
  replace hx650_1 := hC HB hx650_1
  have HR650_0 := Aside0.mk hi650_0
  have HC650_0 := Aside0.mk hl650_0
  clear hi650_0 hl650_0
  obtain ⟨p650, q650⟩ := eT p650 q650
  refine start_ (n := 11) (S := fun w' => w'.cell? (ad650.add ((a2).toNat * 2)) = some (.slice A650_0 ((rd_T85 l1 a2).f0).length c650_0) ∧ w'.cell? ⟨(ad650.add ((a2).toNat * 2)).block, (ad650.add ((a2).toNat * 2)).off + 1, none⟩ = some (.int .i64 ((rd_T85 l1 a2).f1))) (ds := []) (mb 11 0) (by kernel_rfl) rfl rfl ⟨(hC HB hw650_0), (hC HB hw650_1)⟩ (fun hHeld => ?_); refine with_tabW impl_GreenShare.tab3 impl_GreenShare.bits3 (fun HT_ HW_ => ?_)
  generalize w14.drew = w15 at HB HR650_0 hx650_0 hx650_1 hHeld ⊢
  refine pa 0 21 (mb 11 1) HT_ ?_
  refine pa 1 22 (mb 11 3) HT_ ?_
  refine pa 2 23 (mb 11 7) HT_ ?_
  refine pa 3 24 (mb 11 15) HT_ ?_
  refine pa 6 27 (mb 11 79) HT_ ?_
  refine pa 7 28 (mb 11 207) HT_ ?_
  refine ta2 4 25 (mb 11 223) HT_ HW_ hHeld ?_
  refine pa 5 26 (mb 11 255) HT_ ?_
  refine oa 8 29 (mb 11 511) HT_ (fun K hK => ?_)
  refine gA Try.func56 #[.slice A0 l0.length c0, .slice (some ad650) l1.length c1] ?_
  with_reducible refine (impl_Cycle.calls k _ _ l0 _ _ l1 t651 _ ?side1 ?side2 ?side3 ?side4 A12.out).mono ?_
  (case side1 => exact cB HR0)
  (case side2 => exact HC0.out)
  (case side3 => exact cB HR1)
  (case side4 => exact HC1.out)
  rintro e w16 ⟨rfl, hb⟩
  refine ⟨_, rfl, ?_⟩
  replace HB := bs HB hb
  (try clear hb)
  (try clear hb2)
  (try clear hk)
  (try clear hi)
  refine hK.out _ _ ⟨(hC HB hw650_0), (hC HB hw650_1)⟩ (fun hHeld => ?_)
  clear hK K
  refine nB ?_
  refine pa 9 30 (mb 11 1023) HT_ ?_
  refine pa 10 6 (mb 11 2047) HT_ ?_
  refine eA HT_ ?_
  try go_wp2
  go_ret
  exact ⟨rA, bA⟩
 replace c5 := Bool.eq_false_iff.mpr c5
 subst c5
 have H1 : (some 0) = some r := by rw [if_neg (show ¬ (false = true) by decide)] at H; exact H
 clear H
 have H := H1
 clear H1
 obtain rfl := Option.some.inj H
 go_enter Try.func55, Try.ntmps55
 go_wp2_with (first | ((with_reducible refine gate_callee (f := 15) rfl ?_); refine gL (some 9) Try.func15 #[.slice A0 l0.length c0, .slice A1 l1.length c1] ?_; (with_reducible refine (impl_IsPlan.calls k _ _ l0 (fun k_ => k_ < w.heap.size) _ _ l1 false _ ?_ ?_ ?_ A4.out).mono ?_); exact cO HR0; exact HC0.out; exact Kd.V_mk HC1.out (Kd.F_below (Kd.C_F k85_heap HR1.out) bA); rintro e w17 ⟨rfl, hb⟩; refine ⟨_, rfl, ?_⟩; replace HB := bs HB hb; (try clear hb)))
 go_ret
 exact ⟨rA, bA⟩

/-! ### impl_TotalGreen: function 57 -/
def impl_TotalGreen.l0 : Nat → Int → List (S85) → Int → Int → Option (Int)
 | 0, _, _, _, _ => none
 | k + 1, x3, x6, x7, x8 => if x8 < x7 then (if 0 ≤ x8 then (if x8 < (x6.length : Int) then (impl_TotalGreen.l0 k (wrap64 (x3 + (mx 0 (mn ((rd_T85 x6 x8).f1) 1000)))) x6 x7 (wrap64 (x8 + 1))) else (none)) else (none)) else (some x3)
def impl_TotalGreen.f (k : Nat) (l0 : List (S85)) : Option (Int) := impl_TotalGreen.l0 k 0 l0 (l0.length : Int) 0
theorem impl_TotalGreen.mono_l : ∀ k, (∀ y0 y1 y2 y3, LeO (impl_TotalGreen.l0 k y0 y1 y2 y3) (impl_TotalGreen.l0 (k + 1) y0 y1 y2 y3))
 | 0 => fun _ _ _ _ r h => by simp [impl_TotalGreen.l0] at h
 | k + 1 => by
  have ih0 := impl_TotalGreen.mono_l k
  ·
   intro y0 y1 y2 y3
   unfold impl_TotalGreen.l0
   exact mz1 ih0
theorem impl_TotalGreen.mono : ∀ a0 k, LeO (impl_TotalGreen.f k a0) (impl_TotalGreen.f (k + 1) a0) := by
 intro a0 k
 have ih0 := impl_TotalGreen.mono_l k
 unfold impl_TotalGreen.f
 exact mz1 ih0
set_option maxHeartbeats 8000000 in
set_option maxRecDepth 100000 in
theorem impl_TotalGreen.calls (k : Nat) (A0 : Option Addr) (c0 : Nat) (l0 : List (S85)) (r : Int) (w : World) (hr0 : Kd.C k85 w A0 l0.length l0) (hc0 : l0.length ≤ c0) (h : impl_TotalGreen.f k l0 = some r) :
  Calls Try.prog 57 #[.slice A0 l0.length c0] w fun e w' => e = .returned (.int .i64 r) ∧ Below w.heap.size w w' := by
 have hu85 := Try.underlying85
 have HR0 := Aside0.mk hr0
 have HC0 := Aside0.mk hc0
 clear hr0 hc0
 have HB := Aside0.mk (Below.refl w.heap.size w)
 have H : (impl_TotalGreen.l0 k 0 l0 (l0.length : Int) 0) = some r := h
 clear h
 have H' := Aside0.mk H
 clear H
 go_enter Try.func57, Try.ntmps57
 go_wp2
 go_loopg [3, 8] k (fun kq v3 v8 w' => ∃ (x3_1 : Int) (x8_1 : Int), v3 = .int .i64 x3_1 ∧ v8 = .int .i64 x8_1 ∧ Aside0 (impl_TotalGreen.l0 kq x3_1 l0 (l0.length : Int) x8_1 = some r) ∧ Aside0 (kq ≤ k) ∧ Aside0 (Below w.heap.size w w'))
 case atStart => exact ⟨(0), (0), rS, rS, H', ⟨Nat.le_refl _⟩, ⟨bA⟩⟩
 case round =>
  clear H'
  obtain ⟨x3_1, x8_1, rfl, rfl, HA, HK1, HB⟩ := hrel
  cases gk with
  | zero => exact absurd HA.out (by simp [impl_TotalGreen.l0])
  | succ k1 =>
   have H := HA.out
   clear HA
   simp only [impl_TotalGreen.l0] at H
   by_cases c2 : x8_1 < (l0.length : Int)
   ·
    rw [if_pos c2] at H
    have c2b0 := decide_eq_true c2
    clear c2
    have c3 : 0 ≤ x8_1 := ifN H
    replace H := ifT H
    have c3b0 := decide_eq_true c3
    clear c3
    have c4 : x8_1 < (l0.length : Int) := ifN H
    replace H := ifT H
    have c4b0 := decide_eq_true c4
    clear c4
    obtain ⟨ji5, hji5⟩ : ∃ j_ : Int, (mn ((rd_T85 l0 x8_1).f1) 1000) = j_ := ⟨_, rfl⟩
    replace H : (impl_TotalGreen.l0 k1 (wrap64 (x3_1 + (mx 0 (ji5)))) l0 (l0.length : Int) (wrap64 (x8_1 + 1))) = some r := by first | (rw [hji5] at H; exact H) | (simp only [hji5] at H ⊢; exact H)
    have hji5_ : (if 1000 < ((rd_T85 l0 x8_1).f1) then 1000 else ((rd_T85 l0 x8_1).f1)) = ji5 := hji5
    obtain ⟨ji6, hji6⟩ : ∃ j_ : Int, (mx 0 (ji5)) = j_ := ⟨_, rfl⟩
    replace H : (impl_TotalGreen.l0 k1 (wrap64 (x3_1 + (ji6))) l0 (l0.length : Int) (wrap64 (x8_1 + 1))) = some r := by first | (rw [hji6] at H; exact H) | (simp only [hji6] at H ⊢; exact H)
    have hji6_ : (if 0 < (ji5) then (ji5) else 0) = ji6 := hji6
    have H' := Aside0.mk H
    clear H
    obtain ⟨p652, q652⟩ : 0 ≤ (x8_1 : Int) ∧ x8_1 < (l0.length : Int) := ⟨dA, dA⟩
    obtain ⟨ad652, A652_0, c652_0, e652, hx652_0, hx652_1, hl652_0, hi652_0⟩ := at_T85 HR0.out x8_1 p652 q652
    cases e652
    replace hx652_0 := hC HB hx652_0
    replace hx652_1 := hC HB hx652_1
    have HR652_0 := Aside0.mk hi652_0
    have HC652_0 := Aside0.mk hl652_0
    clear hi652_0 hl652_0
    obtain ⟨p652, q652⟩ := eT p652 q652
    go_wp2_with (first | ((with_reducible refine gate_dst (N := 5) rfl ?_); refine bE (N := 5) (cs := #[.slice none 0 0, .int .i64 0]) (t := 85) ?_; intro gb653 hg w7 hbox hb; have BK653 := Aside0.mk (hbox); have GW653 := gw w hg; have GE653 := gw w hg; replace HB := bs HB hb; clear hb hbox hg; obtain ⟨_, _, _, _⟩ := blkc2 BK653))
    go_roundg k1
    case measure => have := HK1.out; omega
    case rel => exact ⟨(wrap64 (x3_1 + (ji6))), (wrap64 (x8_1 + 1)), (by first | rfl | (simp; done) | (simp only [← hji6] <;> (first | rfl | simp)) | (simp [*]; done)), rS, H', ⟨by have := HK1.out; omega⟩, ⟨bG⟩⟩
   rw [if_neg c2] at H
   have c2b0 := decide_eq_false c2
   clear c2
   obtain rfl := Option.some.inj H
   go_wp2
   go_ret
   exact ⟨rA, bA⟩

/-! ### impl_EqualPlans_1: function 109 -/
def impl_EqualPlans_1.f (k : Nat) (l0_0 : List Int) (a0_1 : Int) (l1_0 : List Int) (a1_1 : Int) : Option (Bool) := if a0_1 = a1_1 then ((slices_Equal_int_int.f k l0_0 l1_0).bind fun t656 => (some t656)) else (some false)
theorem impl_EqualPlans_1.mono : ∀ a0 a1 a2 a3 k, LeO (impl_EqualPlans_1.f k a0 a1 a2 a3) (impl_EqualPlans_1.f (k + 1) a0 a1 a2 a3) := by
 intro a0 a1 a2 a3 k
 unfold impl_EqualPlans_1.f
 exact mz1 slices_Equal_int_int.mono
set_option maxHeartbeats 8000000 in
set_option maxRecDepth 100000 in
theorem impl_EqualPlans_1.calls (k : Nat) (A0_0 : Option Addr) (c0_0 : Nat) (l0_0 : List Int) (a0_1 : Int) (A1_0 : Option Addr) (c1_0 : Nat) (l1_0 : List Int) (a1_1 : Int) (r : Bool) (w : World) (hr0_0 : Kd.C (Kd.int .i64) w A0_0 l0_0.length l0_0) (hc0_0 : l0_0.length ≤ c0_0) (hr1_0 : Kd.C (Kd.int .i64) w A1_0 l1_0.length l1_0) (hc1_0 : l1_0.length ≤ c1_0) (h : impl_EqualPlans_1.f k l0_0 a0_1 l1_0 a1_1 = some r) :
  Calls Try.prog 109 #[.agg #[.slice A0_0 l0_0.length c0_0, .int .i64 a0_1], .agg #[.slice A1_0 l1_0.length c1_0, .int .i64 a1_1]] w fun e w' => e = .returned (.bool r) ∧ Below w.heap.size w w' := by
 have hu85 := Try.underlying85
 have HR0_0 := Aside0.mk hr0_0
 have HC0_0 := Aside0.mk hc0_0
 clear hr0_0 hc0_0
 have HR1_0 := Aside0.mk hr1_0
 have HC1_0 := Aside0.mk hc1_0
 clear hr1_0 hc1_0
 have HB := Aside0.mk (Below.refl w.heap.size w)
 have H : (if a0_1 = a1_1 then ((slices_Equal_int_int.f k l0_0 l1_0).bind fun t656 => (some t656)) else (some false)) = some r := h
 clear h
 by_cases c3 : a0_1 = a1_1
 ·
  rw [if_pos c3] at H
  have c3b0 : (a0_1 == a1_1) = true := beq_iff_eq.mpr c3
  have c3b1 : (a0_1 != a1_1) = false := bne_eq_false_iff_eq.mpr c3
  clear c3
  obtain ⟨t656, A4, H⟩ := bindE H
  try dsimp only at H
  obtain rfl := Option.some.inj H
  go_enter Try.func109, Try.ntmps109
  go_wp2_with (first | ((with_reducible refine gate_dst (N := 2) rfl ?_); refine bE (N := 2) (cs := #[.slice A0_0 l0_0.length c0_0, .int .i64 a0_1]) (t := 85) ?_; intro gb654 hg w5 hbox hb; have BK654 := Aside0.mk (hbox); have GW654 := gw w hg; have GE654 := gw w hg; replace HB := bs HB hb; clear hb hbox hg) | ((with_reducible refine gate_dst (N := 3) rfl ?_); refine bE (N := 3) (cs := #[.slice A1_0 l1_0.length c1_0, .int .i64 a1_1]) (t := 85) ?_; intro gb655 hg w6 hbox hb; have BK655 := Aside0.mk (hbox); have GW655 := gw w hg; have GE655 := gw w hg; replace HB := bs HB hb; have NB654_655 := nl BK654 hg; have NB655_654 := nr BK654 hg; replace BK654 := kb BK654 hb; clear hb hbox hg; have hnb7 := NB654_655.out; have hnc7 := NB655_654.out; obtain ⟨_, _, _, _⟩ := blkc2 BK654; have hcz9_0 : w6.cell? ⟨gb655, 0, none⟩ = some (.slice A1_0 l1_0.length c1_0) := bC BK655 0; have hcz9_1 : w6.cell? ⟨gb655, 1, none⟩ = some (.int .i64 a1_1) := bC BK655 1; have hfz9_0 := blk_frozen BK655.out 0; have hfz9_1 := blk_frozen BK655.out 1) | (go_at_call 98; (with_reducible refine (slices_Equal_int_int.calls k _ _ l0_0 _ _ l1_0 t656 _ ?_ ?_ ?_ ?_ A4.out).mono ?_); exact cB HR0_0; exact HC0_0.out; exact cB HR1_0; exact HC1_0.out; rintro e w' ⟨rfl, ⟨nd, rfl⟩⟩))
  go_ret
  exact ⟨rA, bG⟩
 rw [if_neg c3] at H
 have c3b0 : (a0_1 == a1_1) = false := beq_eq_false_iff_ne.mpr c3
 have c3b1 : (a0_1 != a1_1) = true := bne_iff_ne.mpr c3
 obtain rfl := Option.some.inj H
 go_enter Try.func109, Try.ntmps109
 go_wp2_with (first | ((with_reducible refine gate_dst (N := 2) rfl ?_); refine bE (N := 2) (cs := #[.slice A0_0 l0_0.length c0_0, .int .i64 a0_1]) (t := 85) ?_; intro gb654 hg w10 hbox hb; have BK654 := Aside0.mk (hbox); have GW654 := gw w hg; have GE654 := gw w hg; replace HB := bs HB hb; clear hb hbox hg) | ((with_reducible refine gate_dst (N := 3) rfl ?_); refine bE (N := 3) (cs := #[.slice A1_0 l1_0.length c1_0, .int .i64 a1_1]) (t := 85) ?_; intro gb655 hg w11 hbox hb; have BK655 := Aside0.mk (hbox); have GW655 := gw w hg; have GE655 := gw w hg; replace HB := bs HB hb; have NB654_655 := nl BK654 hg; have NB655_654 := nr BK654 hg; replace BK654 := kb BK654 hb; clear hb hbox hg; have hnb12 := NB654_655.out; have hnc12 := NB655_654.out; obtain ⟨_, _, _, _⟩ := blkc2 BK654; obtain ⟨_, _, _, _⟩ := blkc2 BK655))
 go_ret
 exact ⟨rA, bG⟩

/-! ### impl_EqualPlans: function 58 -/
def impl_EqualPlans.l0 : Nat → List S85 → List S85 → Int → Option Bool
 | 0, _, _, _ => none
 | k + 1, x, y, i => if i < (x.length : Int) then (if 0 ≤ i then ((impl_EqualPlans_1.f k (rd_T85 x i).f0 (rd_T85 x i).f1 (rd_T85 y i).f0 (rd_T85 y i).f1).bind fun t => (if t = true then (impl_EqualPlans.l0 k x y (wrap64 (i + 1))) else (some false))) else (none)) else (some true)
def impl_EqualPlans.f (k : Nat) (l0 : List S85) (l1 : List S85) : Option Bool := if (l0.length : Int) = (l1.length : Int) then (impl_EqualPlans.l0 k l0 l1 0) else (some false)
theorem impl_EqualPlans.mono_l : ∀ k, (∀ y0 y1 y2, LeO (impl_EqualPlans.l0 k y0 y1 y2) (impl_EqualPlans.l0 (k + 1) y0 y1 y2))
 | 0 => fun _ _ _ r h => by simp [impl_EqualPlans.l0] at h
 | k + 1 => by
  have ih0 := impl_EqualPlans.mono_l k
  ·
   intro y0 y1 y2
   unfold impl_EqualPlans.l0
   repeat' first | (with_reducible first | exact LeO.refl _ | exact LeO.none _ | refine LeO.ite ?_ ?_ | refine LeO.bind ?_ (fun _ => ?_) | exact ih0 _ _ _ | exact impl_EqualPlans_1.mono _ _ _ _ _)
theorem impl_EqualPlans.mono : ∀ a0 a1 k, LeO (impl_EqualPlans.f k a0 a1) (impl_EqualPlans.f (k + 1) a0 a1) := by
 intro a0 a1 k
 have ih0 := impl_EqualPlans.mono_l k
 unfold impl_EqualPlans.f
 repeat' first | (with_reducible first | exact LeO.refl _ | exact LeO.none _ | refine LeO.ite ?_ ?_ | refine LeO.bind ?_ (fun _ => ?_) | exact ih0 _ _ _)
set_option maxHeartbeats 8000000 in
set_option maxRecDepth 100000 in
theorem impl_EqualPlans.eqf (k : Nat) (A0 : Option Addr) (c0 : Nat) (l0 : List S85) (A1 : Option Addr) (c1 : Nat) (l1 : List S85) (r : Bool) (w : World) (hr0 : Kd.C k85 w A0 l0.length l0) (hc0 : l0.length ≤ c0) (hr1 : Kd.C k85 w A1 l1.length l1) (hc1 : l1.length ≤ c1) (h : impl_EqualPlans.f k l0 l1 = some r) :
  Calls Try.prog 106 #[.slice A0 l0.length c0, .slice A1 l1.length c1, .func (.func 109) #[] #[]] w fun e w' => e = .returned (.bool r) ∧ Below w.heap.size w w' := by
 have hu := Try.underlying85
 have HR0 := Aside0.mk hr0
 have HC0 := Aside0.mk hc0
 have HR1 := Aside0.mk hr1
 have HC1 := Aside0.mk hc1
 have hlen : l0.length ≤ 9223372036854775807 := hr0.2.1
 clear hr0 hc0 hr1 hc1
 have HB := Aside0.mk (Below.refl w.heap.size w)
 by_cases hn : (l0.length : Int) = (l1.length : Int)
 ·
  have H : impl_EqualPlans.l0 k l0 l1 0 = some r := by unfold impl_EqualPlans.f at h; rw [if_pos hn] at h; exact h
  clear h
  have hnb : ((l0.length : Int) != (l1.length : Int)) = false := bne_eq_false_iff_eq.mpr hn
  have hnn : l0.length = l1.length := by omega
  have HN := Aside0.mk hnn
  have H' := Aside0.mk H
  clear H hn hnn
  go_enter Try.func106, Try.ntmps106
  go_wp2
  go_loopg [17] k (fun kq v17 w' => ∃ (x17 : Int), v17 = .int .i64 x17 ∧ Aside0 (impl_EqualPlans.l0 kq l0 l1 x17 = some r) ∧ Aside0 (kq ≤ k) ∧ Aside0 (Below w.heap.size w w'))
  case atStart => exact ⟨0, rfl, H', ⟨Nat.le_refl _⟩, HB⟩
  case round =>
   clear H' HB
   obtain ⟨x17, rfl, HA, HK1, HB⟩ := hrel
   cases gk with
   | zero => exact absurd HA.out (by simp [impl_EqualPlans.l0])
   | succ k1 =>
    have H := HA.out
    clear HA
    simp only [impl_EqualPlans.l0] at H
    by_cases c3 : x17 < (l0.length : Int)
    ·
     rw [if_pos c3] at H
     have c3b0 := decide_eq_true c3
     have c4 : 0 ≤ x17 := ifN H
     replace H := ifT H
     obtain ⟨t, A5, H⟩ := bindE H
     try dsimp only at H
     have p5 : 0 ≤ (x17 : Int) := c4
     have q5 : (x17 : Int) < (l0.length : Int) := c3
     have q6 : (x17 : Int) < (l1.length : Int) := by have := HN.out; omega
     obtain ⟨ad0, Ai0, ci0, e0, hx0, hy0, hl0, hi0⟩ := at_T85 HR0.out x17 p5 q5
     cases e0
     obtain ⟨ad1, Ai1, ci1, e1, hx1, hy1, hl1, hi1⟩ := at_T85 HR1.out x17 p5 q6
     cases e1
     replace hx0 := hC HB hx0
     replace hy0 := hC HB hy0
     replace hx1 := hC HB hx1
     replace hy1 := hC HB hy1
     have HI0 := Aside0.mk hi0
     have HI1 := Aside0.mk hi1
     have HL0 := Aside0.mk hl0
     have HL1 := Aside0.mk hl1
     have H' := Aside0.mk H
     clear hi0 hi1 hl0 hl1 H c3 c4
     replace p5 := eq_true p5
     replace q5 := eq_true q5
     replace q6 := eq_true q6
     have hx1a : ∀ o, (wr.alloc o).cell? (ad1.add ((x17 : Int).toNat * 2)) = some (.slice Ai1 (rd_T85 l1 x17).f0.length ci1) := fun o => (((Below.refl wr.heap.size wr).alloc (Nat.le_refl _) o).cell (World.block_lt_of_cell? wr _ hx1)).trans hx1
     have hy1a : ∀ o, (wr.alloc o).cell? ⟨(ad1.add ((x17 : Int).toNat * 2)).block, (ad1.add ((x17 : Int).toNat * 2)).off + 1, none⟩ = some (.int .i64 (rd_T85 l1 x17).f1) := fun o => (((Below.refl wr.heap.size wr).alloc (Nat.le_refl _) o).cell (World.block_lt_of_cell? wr _ hy1)).trans hy1
     cases t with
     | true =>
      go_wp2_with ((go_at_call 109; refine (impl_EqualPlans_1.calls k1 Ai0 ci0 _ _ Ai1 ci1 _ _ true _ ?s1 HL0.out ?s2 HL1.out A5.out).mono ?_; (case s1 => exact Kd.C_below HI0.out (below_alloc (below_alloc HB.out _) _)); (case s2 => exact Kd.C_below HI1.out (below_alloc (below_alloc HB.out _) _)); rintro e w1 ⟨rfl, hb1⟩))
      go_roundg k1
      case measure => have := HK1.out; omega
      case rel => exact ⟨wrap64 (x17 + 1), rfl, ⟨by have := H'.out; first | (rw [if_pos trivial] at this; exact this) | (rw [if_pos rfl] at this; exact this)⟩, ⟨by have := HK1.out; omega⟩, ⟨below_step (below_alloc (below_alloc HB.out _) _) hb1⟩⟩
     | false =>
      have hr : r = false := by
       have := H'.out
       rw [if_neg (by decide)] at this
       exact (Option.some.inj this).symm
      subst hr
      go_wp2_with ((go_at_call 109; refine (impl_EqualPlans_1.calls k1 Ai0 ci0 _ _ Ai1 ci1 _ _ false _ ?s1 HL0.out ?s2 HL1.out A5.out).mono ?_; (case s1 => exact Kd.C_below HI0.out (below_alloc (below_alloc HB.out _) _)); (case s2 => exact Kd.C_below HI1.out (below_alloc (below_alloc HB.out _) _)); rintro e w1 ⟨rfl, hb1⟩))
      go_ret
      exact ⟨rfl, below_step (below_alloc (below_alloc HB.out _) _) hb1⟩
    ·
     rw [if_neg c3] at H
     have c3b0 := decide_eq_false c3
     obtain rfl := Option.some.inj H
     go_wp2
     go_ret
     exact ⟨rfl, HB.out⟩
 ·
  have hr : r = false := by unfold impl_EqualPlans.f at h; rw [if_neg hn] at h; exact (Option.some.inj h).symm
  subst hr
  have hnb : ((l0.length : Int) != (l1.length : Int)) = true := bne_iff_ne.mpr hn
  go_enter Try.func106, Try.ntmps106
  go_wp2
  go_ret
  exact ⟨rfl, HB.out⟩
set_option maxHeartbeats 400000 in
set_option maxRecDepth 100000 in
theorem impl_EqualPlans.calls (k : Nat) (A0 : Option Addr) (c0 : Nat) (l0 : List S85) (A1 : Option Addr) (c1 : Nat) (l1 : List S85) (r : Bool) (w : World) (hr0 : Kd.C k85 w A0 l0.length l0) (hc0 : l0.length ≤ c0) (hr1 : Kd.C k85 w A1 l1.length l1) (hc1 : l1.length ≤ c1) (h : impl_EqualPlans.f k l0 l1 = some r) :
  Calls Try.prog 58 #[.slice A0 l0.length c0, .slice A1 l1.length c1] w fun e w' => e = .returned (.bool r) ∧ Below w.heap.size w w' := by
 have HR0 := Aside0.mk hr0
 have HC0 := Aside0.mk hc0
 have HR1 := Aside0.mk hr1
 have HC1 := Aside0.mk hc1
 have HH := Aside0.mk h
 clear hr0 hc0 hr1 hc1 h
 go_enter Try.func58, Try.ntmps58
 go_wp2_with (go_at_call 106; refine (impl_EqualPlans.eqf k A0 c0 l0 A1 c1 l1 r _ HR0.out HC0.out HR1.out HC1.out HH.out).mono ?_; rintro e w1 ⟨rfl, hb1⟩)
 go_ret
 exact ⟨rfl, hb1⟩

/-! ### laws_FnShared: function 7 -/
mutual
def laws_FnShared.j0 : Nat → List (S50) → List (S85) → Int → List (S85) → Bool → Bool → Option (Bool)
 | 0, _, _, _, _, _, _ => none
 | k + 1, x3, x4, x6, x7, x8, x45 => if x45 = true then (none) else (if x8 = true then (laws_FnShared.l0 k x3 x6 x7 false 0) else ((impl_EqualPlans.f k x4 x7).bind fun t683 => (if t683 = true then (some true) else (none))))
def laws_FnShared.l0 : Nat → List (S50) → Int → List (S85) → Bool → Int → Option (Bool)
 | 0, _, _, _, _, _ => none
 | k + 1, x3, x6, x7, x9, x10 => if x10 < (x7.length : Int) then (if x9 = true then (laws_FnShared.j2 k x3 x6 x7 true x10) else (if 0 ≤ x10 then (laws_FnShared.j2 k x3 x6 x7 (((rd_T85 x7 x10).f1) == 60) x10) else (none))) else ((impl_IsPlan.f k x3 x7).bind fun t678 => (if t678 = true then ((impl_Cycle.f k x3 x7).bind fun t679 => (if t679 > x6 then (none) else (if x9 = true then ((impl_TotalGreen.f k x7).bind fun t680 => (if t680 > x6 then (none) else (some true))) else ((impl_Cycle.f k x3 x7).bind fun t681 => (if t681 = x6 then ((impl_TotalGreen.f k x7).bind fun t682 => (if t682 > x6 then (none) else (some true))) else (none)))))) else (none)))
def laws_FnShared.j2 : Nat → List (S50) → Int → List (S85) → Bool → Int → Option (Bool)
 | 0, _, _, _, _, _ => none
 | k + 1, x3, x6, x7, x9, x10 => (impl_GreenShare.f k x3 x7 x10).bind fun t676 => (if t676 < 0 then (none) else ((impl_GreenShare.f k x3 x7 x10).bind fun t677 => (if t677 > 100 then (none) else (laws_FnShared.l0 k x3 x6 x7 x9 (wrap64 (x10 + 1))))))
end
def laws_FnShared.f (k : Nat) (l0 : List Int) : Option (Bool) := (laws_big.f l0).bind fun t657 => (if t657 = true then (some true) else ((spec_DrawShareGreen.f k l0).bind fun bt658 => ((impl_ShareGreen.f k bt658.1 bt658.2.1 bt658.2.2.1 bt658.2.2.2).bind fun bt668 => ((impl_SameStages.f k bt658.2.1 bt668.1).bind fun t672 => (if t672 = true then ((impl_SpareGreen.f k bt658.1 bt658.2.1 bt658.2.2.2).bind fun t673 => (if t673 ≥ 0 then ((impl_AreDetectors.f k bt658.1 bt658.2.2.1).bind fun t674 => (laws_FnShared.j0 k bt658.1 bt658.2.1 bt658.2.2.2 bt668.1 bt668.2 (bt668.2 != t674))) else (laws_FnShared.j0 k bt658.1 bt658.2.1 bt658.2.2.2 bt668.1 bt668.2 (bt668.2 != false)))) else (laws_FnShared.j0 k bt658.1 bt658.2.1 bt658.2.2.2 bt668.1 bt668.2 true))))))
theorem laws_FnShared.mono_l : ∀ k, (∀ y0 y1 y2 y3 y4 y5, LeO (laws_FnShared.j0 k y0 y1 y2 y3 y4 y5) (laws_FnShared.j0 (k + 1) y0 y1 y2 y3 y4 y5)) ∧ (∀ y0 y1 y2 y3 y4, LeO (laws_FnShared.l0 k y0 y1 y2 y3 y4) (laws_FnShared.l0 (k + 1) y0 y1 y2 y3 y4)) ∧ (∀ y0 y1 y2 y3 y4, LeO (laws_FnShared.j2 k y0 y1 y2 y3 y4) (laws_FnShared.j2 (k + 1) y0 y1 y2 y3 y4))
 | 0 => ⟨fun _ _ _ _ _ _ r h => by simp [laws_FnShared.j0] at h, fun _ _ _ _ _ r h => by simp [laws_FnShared.l0] at h, fun _ _ _ _ _ r h => by simp [laws_FnShared.j2] at h⟩
 | k + 1 => by
  obtain ⟨ih0, ih1, ih2⟩ := laws_FnShared.mono_l k
  refine ⟨?_, ?_, ?_⟩
  ·
   intro y0 y1 y2 y3 y4 y5
   unfold laws_FnShared.j0
   repeat' first | (with_reducible first | exact LeO.refl _ | exact LeO.none _ | refine LeO.ite ?_ ?_ | refine LeO.bind ?_ (fun _ => ?_) | exact ih0 _ _ _ _ _ _ | exact ih1 _ _ _ _ _ | exact ih2 _ _ _ _ _ | exact impl_AreDetectors.mono _ _ _ | exact impl_Cycle.mono _ _ _ | exact impl_EqualPlans.mono _ _ _ | exact impl_GreenShare.mono _ _ _ _ | exact impl_IsPlan.mono _ _ _ | exact impl_SameStages.mono _ _ _ | exact impl_ShareGreen.mono _ _ _ _ _ | exact impl_SpareGreen.mono _ _ _ _ | exact impl_TotalGreen.mono _ _ | exact spec_DrawShareGreen.mono _ _)
  ·
   intro y0 y1 y2 y3 y4
   unfold laws_FnShared.l0
   repeat' first | (with_reducible first | exact LeO.refl _ | exact LeO.none _ | refine LeO.ite ?_ ?_ | refine LeO.bind ?_ (fun _ => ?_) | exact ih0 _ _ _ _ _ _ | exact ih1 _ _ _ _ _ | exact ih2 _ _ _ _ _ | exact impl_AreDetectors.mono _ _ _ | exact impl_Cycle.mono _ _ _ | exact impl_EqualPlans.mono _ _ _ | exact impl_GreenShare.mono _ _ _ _ | exact impl_IsPlan.mono _ _ _ | exact impl_SameStages.mono _ _ _ | exact impl_ShareGreen.mono _ _ _ _ _ | exact impl_SpareGreen.mono _ _ _ _ | exact impl_TotalGreen.mono _ _ | exact spec_DrawShareGreen.mono _ _)
  ·
   intro y0 y1 y2 y3 y4
   unfold laws_FnShared.j2
   repeat' first | (with_reducible first | exact LeO.refl _ | exact LeO.none _ | refine LeO.ite ?_ ?_ | refine LeO.bind ?_ (fun _ => ?_) | exact ih0 _ _ _ _ _ _ | exact ih1 _ _ _ _ _ | exact ih2 _ _ _ _ _ | exact impl_AreDetectors.mono _ _ _ | exact impl_Cycle.mono _ _ _ | exact impl_EqualPlans.mono _ _ _ | exact impl_GreenShare.mono _ _ _ _ | exact impl_IsPlan.mono _ _ _ | exact impl_SameStages.mono _ _ _ | exact impl_ShareGreen.mono _ _ _ _ _ | exact impl_SpareGreen.mono _ _ _ _ | exact impl_TotalGreen.mono _ _ | exact spec_DrawShareGreen.mono _ _)
theorem laws_FnShared.mono : ∀ a0 k, LeO (laws_FnShared.f k a0) (laws_FnShared.f (k + 1) a0) := by
 intro a0 k
 obtain ⟨ih0, ih1, ih2⟩ := laws_FnShared.mono_l k
 unfold laws_FnShared.f
 repeat' first | (with_reducible first | exact LeO.refl _ | exact LeO.none _ | refine LeO.ite ?_ ?_ | refine LeO.bind ?_ (fun _ => ?_) | exact ih0 _ _ _ _ _ _ | exact ih1 _ _ _ _ _ | exact ih2 _ _ _ _ _ | exact impl_AreDetectors.mono _ _ _ | exact impl_Cycle.mono _ _ _ | exact impl_EqualPlans.mono _ _ _ | exact impl_GreenShare.mono _ _ _ _ | exact impl_IsPlan.mono _ _ _ | exact impl_SameStages.mono _ _ _ | exact impl_ShareGreen.mono _ _ _ _ _ | exact impl_SpareGreen.mono _ _ _ _ | exact impl_TotalGreen.mono _ _ | exact spec_DrawShareGreen.mono _ _)
set_option maxHeartbeats 8000000 in
set_option maxRecDepth 100000 in
theorem laws_FnShared.calls (k : Nat) (A0 : Option Addr) (c0 : Nat) (l0 : List Int) (r : Bool) (w : World) (hr0 : Kd.C (Kd.int .u8) w A0 l0.length l0) (hc0 : l0.length ≤ c0) (h : laws_FnShared.f k l0 = some r) :
  Calls Try.prog 7 #[.slice A0 l0.length c0] w fun e w' => e = .returned (.bool r) ∧ Below w.heap.size w w' := by
 have HR0 := Aside0.mk hr0
 have HC0 := Aside0.mk hc0
 clear hr0 hc0
 have HB := Aside0.mk (Below.refl w.heap.size w)
 have H : ((laws_big.f l0).bind fun t657 => (if t657 = true then (some true) else ((spec_DrawShareGreen.f k l0).bind fun bt658 => ((impl_ShareGreen.f k bt658.1 bt658.2.1 bt658.2.2.1 bt658.2.2.2).bind fun bt668 => ((impl_SameStages.f k bt658.2.1 bt668.1).bind fun t672 => (if t672 = true then ((impl_SpareGreen.f k bt658.1 bt658.2.1 bt658.2.2.2).bind fun t673 => (if t673 ≥ 0 then ((impl_AreDetectors.f k bt658.1 bt658.2.2.1).bind fun t674 => (laws_FnShared.j0 k bt658.1 bt658.2.1 bt658.2.2.2 bt668.1 bt668.2 (bt668.2 != t674))) else (laws_FnShared.j0 k bt658.1 bt658.2.1 bt658.2.2.2 bt668.1 bt668.2 (bt668.2 != false)))) else (laws_FnShared.j0 k bt658.1 bt658.2.1 bt658.2.2.2 bt668.1 bt668.2 true))))))) = some r := h
 clear h
 obtain ⟨t657, A2, H⟩ := bindE H
 try dsimp only at H
 by_cases c3 : t657 = true
 ·
  subst c3
  have H1 : (some true) = some r := by rw [if_pos rfl] at H; exact H
  clear H
  have H := H1
  clear H1
  obtain rfl := Option.some.inj H
  go_enter Try.func7, Try.ntmps7
  go_wp2_with (first | ((with_reducible refine gate_callee (f := 10) rfl ?_); refine gL (some 12) Try.func10 #[.slice A0 l0.length c0] ?_; (with_reducible refine (laws_big.calls _ _ l0 true _ ?_ ?_ A2.out).mono ?_); exact cO HR0; exact HC0.out; rintro e w' ⟨rfl, ⟨nd, rfl⟩⟩; refine ⟨_, rfl, ?_⟩))
  go_ret
  exact ⟨rA, bA⟩
 replace c3 := Bool.eq_false_iff.mpr c3
 subst c3
 have H1 : ((spec_DrawShareGreen.f k l0).bind fun bt658 => ((impl_ShareGreen.f k bt658.1 bt658.2.1 bt658.2.2.1 bt658.2.2.2).bind fun bt668 => ((impl_SameStages.f k bt658.2.1 bt668.1).bind fun t672 => (if t672 = true then ((impl_SpareGreen.f k bt658.1 bt658.2.1 bt658.2.2.2).bind fun t673 => (if t673 ≥ 0 then ((impl_AreDetectors.f k bt658.1 bt658.2.2.1).bind fun t674 => (laws_FnShared.j0 k bt658.1 bt658.2.1 bt658.2.2.2 bt668.1 bt668.2 (bt668.2 != t674))) else (laws_FnShared.j0 k bt658.1 bt658.2.1 bt658.2.2.2 bt668.1 bt668.2 (bt668.2 != false)))) else (laws_FnShared.j0 k bt658.1 bt658.2.1 bt658.2.2.2 bt668.1 bt668.2 true))))) = some r := by rw [if_neg (show ¬ (false = true) by decide)] at H; exact H
 clear H
 have H := H1
 clear H1
 obtain ⟨⟨t658, t661, t664, t667⟩, A4, H⟩ := bindE H
 try dsimp only at H
 obtain ⟨⟨t668, t669⟩, A5, H⟩ := bindE H
 try dsimp only at H
 have HC6 := Aside0.mk H
 clear H
 go_enter Try.func7, Try.ntmps7
 go_upto_region 5 with (first | ((with_reducible refine gate_callee (f := 10) rfl ?_); refine gL (some 12) Try.func10 #[.slice A0 l0.length c0] ?_; (with_reducible refine (laws_big.calls _ _ l0 false _ ?_ ?_ A2.out).mono ?_); exact cO HR0; exact HC0.out; rintro e w' ⟨rfl, ⟨nd, rfl⟩⟩; refine ⟨_, rfl, ?_⟩) | ((with_reducible refine gate_callee (f := 51) rfl ?_); refine gL (some 15) Try.func51 #[.slice A0 l0.length c0] ?_; (with_reducible refine (spec_DrawShareGreen.calls k _ _ l0 t658 t661 t664 t667 _ ?_ ?_ A4.out).mono ?_); exact cO HR0; exact HC0.out; rintro e w7 ⟨v659, v662, v665, rfl, ho0, ho1, ho2, hb⟩; refine ⟨_, rfl, ?_⟩; have HO660 := rl w (Kd.R_mono (ok' := fun k_ => True) ho0 (fun _ hk_ => trivial)); have HO663 := Aside0.mk (Kd.V_lower (Kd.V_mono (ok' := n2 v659 v665) ho1 (fun k_ hk_ => ⟨hk_.2.1, hk_.2.2⟩)) (below_size bA)); have HO666 := rl w (Kd.R_mono (ok' := fun k_ => True) ho2 (fun _ hk_ => trivial)); replace HB := bs HB hb; (try clear hb); (try clear ho0); (try clear ho1); (try clear ho2); obtain ⟨Ao8, co8, eo8⟩ := Kd.R_slice HO660.out; subst eo8; obtain ⟨Ao9, co9, eo9⟩ := Kd.V_slice HO663.out; subst eo9; obtain ⟨Ao10, co10, eo10⟩ := Kd.R_slice HO666.out; subst eo10) | ((with_reducible refine gate_callee (f := 52) rfl ?_); refine gL (some 25) Try.func52 #[.slice Ao8 t658.length co8, .slice Ao9 t661.length co9, .slice Ao10 t664.length co10, .int .i64 t667] ?_; (with_reducible refine (impl_ShareGreen.calls k _ _ t658 _ _ t661 _ _ t664 t667 t668 t669 _ ?_ ?_ ?_ ?_ ?_ ?_ A5.out).mono ?_); exact cO ⟨(Kd.R_reads' HO660.out).2.2⟩; exact (Kd.R_reads' HO660.out).2.1; (focus repeat (first | exact (Kd.V_reads' HO663.out).2.2 | (with_reducible refine Kd.C_alloc ?_ _) | (with_reducible refine Kd.C_drewN ?_ _) | (with_reducible refine Kd.C_drew ?_))); exact (Kd.V_reads' HO663.out).2.1; exact cO ⟨(Kd.R_reads' HO666.out).2.2⟩; exact (Kd.R_reads' HO666.out).2.1; rintro e w11 ⟨v670, rfl, ho0, hb⟩; refine ⟨_, rfl, ?_⟩; have n0_ := rb HO660 hb; have n1_ := Aside0.mk (Kd.V_elder' (by (with_reducible repeat (first | apply Kd.V_alloc | apply Kd.V_drewN | apply Kd.V_drew)); exact HO663.out) (Kd.S_base ho0) hb); have n2_ := rb HO666 hb; have n3_ := sl w ho0; have n4_ := bs HB hb; clear HO660; clear HO663; clear HO666; clear HB; have HO660 := n0_; have HO663 := n1_; have HO666 := n2_; have HO671 := n3_; have HB := n4_; clear n0_ n1_ n2_ n3_ n4_; (try clear hb); (try clear ho0)))
 (try simp only [Act.put, List.setIfInBounds_toArray, List.set_cons_zero, List.set_cons_succ])
 go_cut [45] (fun v45 wc => ∃ (kq : Nat) (x45_5 : Bool), v45 = .bool x45_5 ∧ Aside0 (laws_FnShared.j0 kq t658 t661 t667 t668 t669 x45_5 = some r) ∧ Aside0 (kq ≤ k) ∧ Aside0 (Kd.R k50 50 wc w.heap.size (fun _ => True) (.slice Ao8 t658.length co8) t658) ∧ Aside0 (Kd.V k85 85 wc w.heap.size (n2 (.slice Ao8 t658.length co8) v670) (.slice Ao9 t661.length co9) t661) ∧ Aside0 (Kd.S k85 85 wc w.heap.size (fun _ => True) v670 t668) ∧ Aside0 (Below w.heap.size w wc))
 case first =>
  have H := HC6.out
  clear HC6
  obtain ⟨t672, A12, H⟩ := bindE H
  try dsimp only at H
  by_cases c13 : t672 = true
  ·
   subst c13
   have H1 : ((impl_SpareGreen.f k t658 t661 t667).bind fun t673 => (if t673 ≥ 0 then ((impl_AreDetectors.f k t658 t664).bind fun t674 => (laws_FnShared.j0 k t658 t661 t667 t668 t669 (t669 != t674))) else (laws_FnShared.j0 k t658 t661 t667 t668 t669 (t669 != false)))) = some r := by rw [if_pos rfl] at H; exact H
   clear H
   have H := H1
   clear H1
   obtain ⟨t673, A14, H⟩ := bindE H
   try dsimp only at H
   by_cases c15 : t673 ≥ 0
   ·
    rw [if_pos c15] at H
    have c15b0 := decide_eq_true c15
    clear c15
    (first | rw [c15b0] | (simp only [i64_w, i32_w]; rw [c15b0]) | skip)
    obtain ⟨t674, A16, H⟩ := bindE H
    try dsimp only at H
    have H' := Aside0.mk H
    clear H
    obtain ⟨Ao17, co17, eo17⟩ := Kd.S_slice HO671.out
    subst eo17
    go_wp2_with (first | ((with_reducible refine gate_callee (f := 53) rfl ?_); refine gL (some 30) Try.func53 #[.slice Ao9 t661.length co9, .slice Ao17 t668.length co17] ?_; (with_reducible refine (impl_SameStages.calls k _ _ t661 _ _ t668 true _ ?_ ?_ ?_ ?_ A12.out).mono ?_); (focus repeat (first | exact (Kd.V_reads' HO663.out).2.2 | (with_reducible refine Kd.C_alloc ?_ _) | (with_reducible refine Kd.C_drewN ?_ _) | (with_reducible refine Kd.C_drew ?_))); exact (Kd.V_reads' HO663.out).2.1; (focus repeat (first | exact (Kd.S_reads' HO671.out).2.2 | (with_reducible refine Kd.C_alloc ?_ _) | (with_reducible refine Kd.C_drewN ?_ _) | (with_reducible refine Kd.C_drew ?_))); exact (Kd.S_reads' HO671.out).2.1; rintro e w18 ⟨rfl, hb⟩; refine ⟨_, rfl, ?_⟩; have n0_ := rb HO660 hb; have n1_ := Aside0.mk (Kd.V_below (by (with_reducible repeat (first | apply Kd.V_alloc | apply Kd.V_drewN | apply Kd.V_drew)); exact HO663.out) hb); have n2_ := rb HO666 hb; have n3_ := sb HO671 hb; have n4_ := bs HB hb; clear HO660; clear HO663; clear HO666; clear HO671; clear HB; have HO660 := n0_; have HO663 := n1_; have HO666 := n2_; have HO671 := n3_; have HB := n4_; clear n0_ n1_ n2_ n3_ n4_; (try clear hb)) | (go_at_call 54; (with_reducible refine (impl_SpareGreen.calls k _ _ t658 _ _ t661 t667 t673 _ ?_ ?_ ?_ ?_ A14.out).mono ?_); exact cO ⟨(Kd.R_reads' HO660.out).2.2⟩; exact (Kd.R_reads' HO660.out).2.1; (focus repeat (first | exact (Kd.V_reads' HO663.out).2.2 | (with_reducible refine Kd.C_alloc ?_ _) | (with_reducible refine Kd.C_drewN ?_ _) | (with_reducible refine Kd.C_drew ?_))); exact (Kd.V_reads' HO663.out).2.1; rintro e w19 ⟨rfl, hb⟩; have n0_ := rb HO660 hb; have n1_ := Aside0.mk (Kd.V_below (by (with_reducible repeat (first | apply Kd.V_alloc | apply Kd.V_drewN | apply Kd.V_drew)); exact HO663.out) hb); have n2_ := rb HO666 hb; have n3_ := sb HO671 hb; have n4_ := bs HB hb; clear HO660; clear HO663; clear HO666; clear HO671; clear HB; have HO660 := n0_; have HO663 := n1_; have HO666 := n2_; have HO671 := n3_; have HB := n4_; clear n0_ n1_ n2_ n3_ n4_; (try clear hb)) | (go_at_call 26; (with_reducible refine (impl_AreDetectors.calls k _ _ t658 _ _ t664 t674 _ ?_ ?_ ?_ ?_ A16.out).mono ?_); exact cO ⟨(Kd.R_reads' HO660.out).2.2⟩; exact (Kd.R_reads' HO660.out).2.1; exact cO ⟨(Kd.R_reads' HO666.out).2.2⟩; exact (Kd.R_reads' HO666.out).2.1; rintro e w20 ⟨rfl, hb⟩; have n0_ := rb HO660 hb; have n1_ := Aside0.mk (Kd.V_below (by (with_reducible repeat (first | apply Kd.V_alloc | apply Kd.V_drewN | apply Kd.V_drew)); exact HO663.out) hb); have n2_ := rb HO666 hb; have n3_ := sb HO671 hb; have n4_ := bs HB hb; clear HO660; clear HO663; clear HO666; clear HO671; clear HB; have HO660 := n0_; have HO663 := n1_; have HO666 := n2_; have HO671 := n3_; have HB := n4_; clear n0_ n1_ n2_ n3_ n4_; (try clear hb)))
    go_meet
    case rel => exact ⟨_, ((t669 != t674)), rS, H', ⟨oL⟩, ⟨rK HO660⟩, ⟨by (with_reducible repeat (first | apply Kd.V_alloc | apply Kd.V_drewN | apply Kd.V_drew)); exact Kd.V_mono HO663.out (fun _ hk => ⟨hk.1.1, hk.2⟩)⟩, ⟨sK HO671⟩, ⟨bA⟩⟩
   rw [if_neg c15] at H
   have c15b0 := decide_eq_false c15
   clear c15
   (first | rw [c15b0] | (simp only [i64_w, i32_w]; rw [c15b0]) | skip)
   have H' := Aside0.mk H
   clear H
   obtain ⟨Ao21, co21, eo21⟩ := Kd.S_slice HO671.out
   subst eo21
   go_wp2_with (first | ((with_reducible refine gate_callee (f := 53) rfl ?_); refine gL (some 30) Try.func53 #[.slice Ao9 t661.length co9, .slice Ao21 t668.length co21] ?_; (with_reducible refine (impl_SameStages.calls k _ _ t661 _ _ t668 true _ ?_ ?_ ?_ ?_ A12.out).mono ?_); (focus repeat (first | exact (Kd.V_reads' HO663.out).2.2 | (with_reducible refine Kd.C_alloc ?_ _) | (with_reducible refine Kd.C_drewN ?_ _) | (with_reducible refine Kd.C_drew ?_))); exact (Kd.V_reads' HO663.out).2.1; (focus repeat (first | exact (Kd.S_reads' HO671.out).2.2 | (with_reducible refine Kd.C_alloc ?_ _) | (with_reducible refine Kd.C_drewN ?_ _) | (with_reducible refine Kd.C_drew ?_))); exact (Kd.S_reads' HO671.out).2.1; rintro e w22 ⟨rfl, hb⟩; refine ⟨_, rfl, ?_⟩; have n0_ := rb HO660 hb; have n1_ := Aside0.mk (Kd.V_below (by (with_reducible repeat (first | apply Kd.V_alloc | apply Kd.V_drewN | apply Kd.V_drew)); exact HO663.out) hb); have n2_ := rb HO666 hb; have n3_ := sb HO671 hb; have n4_ := bs HB hb; clear HO660; clear HO663; clear HO666; clear HO671; clear HB; have HO660 := n0_; have HO663 := n1_; have HO666 := n2_; have HO671 := n3_; have HB := n4_; clear n0_ n1_ n2_ n3_ n4_; (try clear hb)) | (go_at_call 54; (with_reducible refine (impl_SpareGreen.calls k _ _ t658 _ _ t661 t667 t673 _ ?_ ?_ ?_ ?_ A14.out).mono ?_); exact cO ⟨(Kd.R_reads' HO660.out).2.2⟩; exact (Kd.R_reads' HO660.out).2.1; (focus repeat (first | exact (Kd.V_reads' HO663.out).2.2 | (with_reducible refine Kd.C_alloc ?_ _) | (with_reducible refine Kd.C_drewN ?_ _) | (with_reducible refine Kd.C_drew ?_))); exact (Kd.V_reads' HO663.out).2.1; rintro e w23 ⟨rfl, hb⟩; have n0_ := rb HO660 hb; have n1_ := Aside0.mk (Kd.V_below (by (with_reducible repeat (first | apply Kd.V_alloc | apply Kd.V_drewN | apply Kd.V_drew)); exact HO663.out) hb); have n2_ := rb HO666 hb; have n3_ := sb HO671 hb; have n4_ := bs HB hb; clear HO660; clear HO663; clear HO666; clear HO671; clear HB; have HO660 := n0_; have HO663 := n1_; have HO666 := n2_; have HO671 := n3_; have HB := n4_; clear n0_ n1_ n2_ n3_ n4_; (try clear hb)))
   go_meet
   case rel => exact ⟨_, ((t669 != false)), rS, H', ⟨oL⟩, ⟨rK HO660⟩, ⟨by (with_reducible repeat (first | apply Kd.V_alloc | apply Kd.V_drewN | apply Kd.V_drew)); exact Kd.V_mono HO663.out (fun _ hk => ⟨hk.1.1, hk.2⟩)⟩, ⟨sK HO671⟩, ⟨bA⟩⟩
  replace c13 := Bool.eq_false_iff.mpr c13
  subst c13
  have H1 : (laws_FnShared.j0 k t658 t661 t667 t668 t669 true) = some r := by rw [if_neg (show ¬ (false = true) by decide)] at H; exact H
  clear H
  have H := H1
  clear H1
  have H' := Aside0.mk H
  clear H
  obtain ⟨Ao24, co24, eo24⟩ := Kd.S_slice HO671.out
  subst eo24
  go_wp2_with (first | ((with_reducible refine gate_callee (f := 53) rfl ?_); refine gL (some 30) Try.func53 #[.slice Ao9 t661.length co9, .slice Ao24 t668.length co24] ?_; (with_reducible refine (impl_SameStages.calls k _ _ t661 _ _ t668 false _ ?_ ?_ ?_ ?_ A12.out).mono ?_); (focus repeat (first | exact (Kd.V_reads' HO663.out).2.2 | (with_reducible refine Kd.C_alloc ?_ _) | (with_reducible refine Kd.C_drewN ?_ _) | (with_reducible refine Kd.C_drew ?_))); exact (Kd.V_reads' HO663.out).2.1; (focus repeat (first | exact (Kd.S_reads' HO671.out).2.2 | (with_reducible refine Kd.C_alloc ?_ _) | (with_reducible refine Kd.C_drewN ?_ _) | (with_reducible refine Kd.C_drew ?_))); exact (Kd.S_reads' HO671.out).2.1; rintro e w25 ⟨rfl, hb⟩; refine ⟨_, rfl, ?_⟩; have n0_ := rb HO660 hb; have n1_ := Aside0.mk (Kd.V_below (by (with_reducible repeat (first | apply Kd.V_alloc | apply Kd.V_drewN | apply Kd.V_drew)); exact HO663.out) hb); have n2_ := rb HO666 hb; have n3_ := sb HO671 hb; have n4_ := bs HB hb; clear HO660; clear HO663; clear HO666; clear HO671; clear HB; have HO660 := n0_; have HO663 := n1_; have HO666 := n2_; have HO671 := n3_; have HB := n4_; clear n0_ n1_ n2_ n3_ n4_; (try clear hb)))
  go_meet
  case rel => exact ⟨_, (true), rS, H', ⟨oL⟩, ⟨rK HO660⟩, ⟨by (with_reducible repeat (first | apply Kd.V_alloc | apply Kd.V_drewN | apply Kd.V_drew)); exact Kd.V_mono HO663.out (fun _ hk => ⟨hk.1.1, hk.2⟩)⟩, ⟨sK HO671⟩, ⟨bA⟩⟩
 case rest =>
  clear HC6
  obtain ⟨kq, x45_5, rfl, HA, HJ5, HO_3, HO_4, HO_7, HB⟩ := hcut
  cases kq with
  | zero => exact absurd HA.out (by simp [laws_FnShared.j0])
  | succ kj5 =>
   have H := HA.out
   clear HA
   simp only [laws_FnShared.j0] at H
   have c26 := ifN' H
   replace H := ifT' H
   replace c26 := Bool.eq_false_iff.mpr c26
   subst c26
   by_cases c27 : t669 = true
   ·
    subst c27
    have H1 : (laws_FnShared.l0 kj5 t658 t667 t668 false 0) = some r := by rw [if_pos rfl] at H; exact H
    clear H
    have H := H1
    clear H1
    have H' := Aside0.mk H
    clear H
    go_wp2
    go_loopg [9, 10] kj5 (fun kq v9 v10 w' => ∃ (x9_2 : Bool) (x10_2 : Int), v9 = .bool x9_2 ∧ v10 = .int .i64 x10_2 ∧ Aside0 (laws_FnShared.l0 kq t658 t667 t668 x9_2 x10_2 = some r) ∧ Aside0 (kq ≤ kj5) ∧ Aside0 (Kd.R k50 50 w' w.heap.size (fun _ => True) (.slice Ao8 t658.length co8) t658) ∧ Aside0 (Kd.S k85 85 w' w.heap.size (fun _ => True) v670 t668) ∧ Aside0 (Below w.heap.size w w'))
    case atStart => exact ⟨(false), (0), rS, rS, H', ⟨Nat.le_refl _⟩, ⟨rK HO_3⟩, ⟨sK HO_7⟩, ⟨bA⟩⟩
    case round =>
     clear H'
     obtain ⟨x9_2, x10_2, rfl, rfl, HA, HK2, HO_3, HO_7, HB⟩ := hrel
     cases gk with
     | zero => exact absurd HA.out (by simp [laws_FnShared.l0])
     | succ k2 =>
      have H := HA.out
      clear HA
      simp only [laws_FnShared.l0] at H
      by_cases c28 : x10_2 < (t668.length : Int)
      ·
       rw [if_pos c28] at H
       have c28b0 := decide_eq_true c28
       clear c28
       have HC29 := Aside0.mk H
       clear H
       obtain ⟨Ao30, co30, eo30⟩ := Kd.S_slice HO_7.out
       subst eo30
       go_upto_region 12 with (fail)
       go_cut [9] (fun v9 wc => ∃ (kq : Nat) (x9_28 : Bool), v9 = .bool x9_28 ∧ Aside0 (laws_FnShared.j2 kq t658 t667 t668 x9_28 x10_2 = some r) ∧ Aside0 (kq ≤ k2) ∧ Aside0 (Kd.R k50 50 wc w.heap.size (fun _ => True) (.slice Ao8 t658.length co8) t658) ∧ Aside0 (Kd.S k85 85 wc w.heap.size (fun _ => True) (.slice Ao30 t668.length co30) t668) ∧ Aside0 (Below w.heap.size w wc))
       case first =>
        have H := HC29.out
        clear HC29
        by_cases c31 : x9_2 = true
        ·
         subst c31
         have H1 : (laws_FnShared.j2 k2 t658 t667 t668 true x10_2) = some r := by rw [if_pos rfl] at H; exact H
         clear H
         have H := H1
         clear H1
         have H' := Aside0.mk H
         clear H
         go_wp2
         go_meet
         case rel => exact ⟨_, (true), rS, H', ⟨by have := HJ5.out; have := HK2.out; first | omega | exact Nat.le_refl _⟩, ⟨rK HO_3⟩, ⟨sK HO_7⟩, ⟨bA⟩⟩
        replace c31 := Bool.eq_false_iff.mpr c31
        subst c31
        have H1 : (if 0 ≤ x10_2 then (laws_FnShared.j2 k2 t658 t667 t668 (((rd_T85 t668 x10_2).f1) == 60) x10_2) else (none)) = some r := by rw [if_neg (show ¬ (false = true) by decide)] at H; exact H
        clear H
        have H := H1
        clear H1
        have c32 : 0 ≤ x10_2 := ifN H
        replace H := ifT H
        have c32b0 := decide_eq_true c32
        clear c32
        (first | rw [c32b0] | (simp only [i64_w, i32_w]; rw [c32b0]) | skip)
        have H' := Aside0.mk H
        clear H
        obtain ⟨p675, q675⟩ : 0 ≤ (x10_2 : Int) ∧ x10_2 < (t668.length : Int) := ⟨dA, dA⟩
        obtain ⟨ad675, A675_0, c675_0, e675, hx675_0, hx675_1, hl675_0, hi675_0⟩ := at_T85 (Kd.S_reads' HO_7.out).2.2 x10_2 p675 q675
        cases e675
        obtain ⟨ce675, hce675, hMe675, hcc675⟩ := Kd.S_get HO_7.out z85 x10_2 p675 (by first | exact q675 | exact dA | (have e_ := (Kd.S_reads' HO_7.out).1; omega))
        obtain ⟨ve675_0, rfl, ge675_0⟩ := k85_openM hMe675
        have hv675_0 := hcc675 0 _ rfl
        rw [Nat.add_zero] at hv675_0
        replace hv675_0 := Option.some.inj (hv675_0.symm.trans hx675_0)
        rw [hv675_0] at ge675_0
        have HL675_0 := Aside0.mk (show Kd.R (Kd.int .i64) 3 _ _ _ _ ((rd_T85 t668 x10_2).f0) from ge675_0)
        clear hv675_0 ge675_0
        clear hcc675 hce675
        have HR675_0 := Aside0.mk hi675_0
        have HC675_0 := Aside0.mk hl675_0
        clear hi675_0 hl675_0
        obtain ⟨p675, q675⟩ := eT p675 q675
        go_wp2
        go_meet
        case rel => exact ⟨_, ((((rd_T85 t668 x10_2).f1) == 60)), rS, H', ⟨by have := HJ5.out; have := HK2.out; first | omega | exact Nat.le_refl _⟩, ⟨rK HO_3⟩, ⟨sK HO_7⟩, ⟨bA⟩⟩
       case rest =>
        clear HC29
        obtain ⟨kq, x9_28, rfl, HA, HJ28, HO_3, HO_7, HB⟩ := hcut
        cases kq with
        | zero => exact absurd HA.out (by simp [laws_FnShared.j2])
        | succ kj28 =>
         have H := HA.out
         clear HA
         simp only [laws_FnShared.j2] at H
         obtain ⟨t676, A33, H⟩ := bindE H
         try dsimp only at H
         have c34 : ¬ (t676 < 0) := ifN' H
         replace H := ifT' H
         have c34b0 := decide_eq_false c34
         clear c34
         obtain ⟨t677, A35, H⟩ := bindE H
         try dsimp only at H
         have c36 : ¬ (t677 > 100) := ifN' H
         replace H := ifT' H
         have c36b0 := decide_eq_false c36
         clear c36
         have H' := Aside0.mk H
         clear H
         go_wp2_with (first | ((with_reducible refine gate_callee (f := 55) rfl ?_); refine gL (some 65) Try.func55 #[.slice Ao8 t658.length co8, .slice Ao30 t668.length co30, .int .i64 x10_2] ?_; (with_reducible refine (impl_GreenShare.calls kj28 _ _ t658 _ _ t668 x10_2 t676 _ ?_ ?_ ?_ ?_ A33.out).mono ?_); exact cO ⟨(Kd.R_reads' HO_3.out).2.2⟩; exact (Kd.R_reads' HO_3.out).2.1; (focus repeat (first | exact (Kd.S_reads' HO_7.out).2.2 | (with_reducible refine Kd.C_alloc ?_ _) | (with_reducible refine Kd.C_drewN ?_ _) | (with_reducible refine Kd.C_drew ?_))); exact (Kd.S_reads' HO_7.out).2.1; rintro e w37 ⟨rfl, hb⟩; refine ⟨_, rfl, ?_⟩; replace HO_3 := rb HO_3 hb; replace HO_7 := sb HO_7 hb; replace HB := bs HB hb; (try clear hb)) | (go_at_call 55; (with_reducible refine (impl_GreenShare.calls kj28 _ _ t658 _ _ t668 x10_2 t677 _ ?_ ?_ ?_ ?_ A35.out).mono ?_); exact cO ⟨(Kd.R_reads' HO_3.out).2.2⟩; exact (Kd.R_reads' HO_3.out).2.1; (focus repeat (first | exact (Kd.S_reads' HO_7.out).2.2 | (with_reducible refine Kd.C_alloc ?_ _) | (with_reducible refine Kd.C_drewN ?_ _) | (with_reducible refine Kd.C_drew ?_))); exact (Kd.S_reads' HO_7.out).2.1; rintro e w38 ⟨rfl, hb⟩; replace HO_3 := rb HO_3 hb; replace HO_7 := sb HO_7 hb; replace HB := bs HB hb; (try clear hb)))
         go_roundg kj28
         case measure => have := HJ5.out; have := HK2.out; have := HJ28.out; omega
         case rel => exact ⟨(x9_28), (wrap64 (x10_2 + 1)), rS, rS, H', ⟨by have := HJ5.out; have := HK2.out; have := HJ28.out; omega⟩, ⟨rK HO_3⟩, ⟨sK HO_7⟩, ⟨bA⟩⟩
      rw [if_neg c28] at H
      have c28b0 := decide_eq_false c28
      clear c28
      obtain ⟨t678, A39, H⟩ := bindE H
      try dsimp only at H
      have c40 := ifN H
      replace H := ifT H
      subst c40
      obtain ⟨t679, A41, H⟩ := bindE H
      try dsimp only at H
      have c42 : ¬ (t679 > t667) := ifN' H
      replace H := ifT' H
      have c42b0 := decide_eq_false c42
      clear c42
      by_cases c43 : x9_2 = true
      ·
       subst c43
       have H1 : ((impl_TotalGreen.f k2 t668).bind fun t680 => (if t680 > t667 then (none) else (some true))) = some r := by rw [if_pos rfl] at H; exact H
       clear H
       have H := H1
       clear H1
       obtain ⟨t680, A44, H⟩ := bindE H
       try dsimp only at H
       have c45 : ¬ (t680 > t667) := ifN' H
       replace H := ifT' H
       have c45b0 := decide_eq_false c45
       clear c45
       obtain rfl := Option.some.inj H
       obtain ⟨Ao46, co46, eo46⟩ := Kd.S_slice HO_7.out
       subst eo46
       go_wp2_with (first | ((with_reducible refine gate_callee (f := 15) rfl ?_); refine gL (some 76) Try.func15 #[.slice Ao8 t658.length co8, .slice Ao46 t668.length co46] ?_; (with_reducible refine (impl_IsPlan.calls k2 _ _ t658 (fun k_ => (True ∧ some k_ ≠ (.slice Ao8 t658.length co8 : Value).ownBlock)) _ _ t668 true _ ?_ ?_ ?_ A39.out).mono ?_); exact cO ⟨(Kd.R_reads' HO_3.out).2.2⟩; exact (Kd.R_reads' HO_3.out).2.1; exact Kd.S_V (Kd.S_apart' (HO_7.out) (Kd.R_typed HO_3.out) (by decide)); rintro e w47 ⟨rfl, hb⟩; refine ⟨_, rfl, ?_⟩; replace HO_3 := rb HO_3 hb; replace HO_7 := sb HO_7 hb; replace HB := bs HB hb; (try clear hb)) | (go_at_call 56; (with_reducible refine (impl_Cycle.calls k2 _ _ t658 _ _ t668 t679 _ ?_ ?_ ?_ ?_ A41.out).mono ?_); exact cO ⟨(Kd.R_reads' HO_3.out).2.2⟩; exact (Kd.R_reads' HO_3.out).2.1; (focus repeat (first | exact (Kd.S_reads' HO_7.out).2.2 | (with_reducible refine Kd.C_alloc ?_ _) | (with_reducible refine Kd.C_drewN ?_ _) | (with_reducible refine Kd.C_drew ?_))); exact (Kd.S_reads' HO_7.out).2.1; rintro e w48 ⟨rfl, hb⟩; replace HO_3 := rb HO_3 hb; replace HO_7 := sb HO_7 hb; replace HB := bs HB hb; (try clear hb)) | (go_at_call 57; (with_reducible refine (impl_TotalGreen.calls k2 _ _ t668 t680 _ ?_ ?_ A44.out).mono ?_); (focus repeat (first | exact (Kd.S_reads' HO_7.out).2.2 | (with_reducible refine Kd.C_alloc ?_ _) | (with_reducible refine Kd.C_drewN ?_ _) | (with_reducible refine Kd.C_drew ?_))); exact (Kd.S_reads' HO_7.out).2.1; rintro e w49 ⟨rfl, hb⟩; replace HO_3 := rb HO_3 hb; replace HO_7 := sb HO_7 hb; replace HB := bs HB hb; (try clear hb)))
       go_ret
       exact ⟨rA, bA⟩
      replace c43 := Bool.eq_false_iff.mpr c43
      subst c43
      have H1 : ((impl_Cycle.f k2 t658 t668).bind fun t681 => (if t681 = t667 then ((impl_TotalGreen.f k2 t668).bind fun t682 => (if t682 > t667 then (none) else (some true))) else (none))) = some r := by rw [if_neg (show ¬ (false = true) by decide)] at H; exact H
      clear H
      have H := H1
      clear H1
      obtain ⟨t681, A50, H⟩ := bindE H
      try dsimp only at H
      have e_ : t681 = t679 := Option.some.inj (A50.out.symm.trans A41.out)
      subst e_
      have c51 : t681 = t667 := ifN H
      replace H := ifT H
      have c51b0 : (t681 == t667) = true := beq_iff_eq.mpr c51
      have c51b1 : (t681 != t667) = false := bne_eq_false_iff_eq.mpr c51
      clear c51
      obtain ⟨t682, A52, H⟩ := bindE H
      try dsimp only at H
      have c53 : ¬ (t682 > t667) := ifN' H
      replace H := ifT' H
      have c53b0 := decide_eq_false c53
      clear c53
      obtain rfl := Option.some.inj H
      obtain ⟨Ao54, co54, eo54⟩ := Kd.S_slice HO_7.out
      subst eo54
      go_wp2_with (first | ((with_reducible refine gate_callee (f := 15) rfl ?_); refine gL (some 76) Try.func15 #[.slice Ao8 t658.length co8, .slice Ao54 t668.length co54] ?_; (with_reducible refine (impl_IsPlan.calls k2 _ _ t658 (fun k_ => (True ∧ some k_ ≠ (.slice Ao8 t658.length co8 : Value).ownBlock)) _ _ t668 true _ ?_ ?_ ?_ A39.out).mono ?_); exact cO ⟨(Kd.R_reads' HO_3.out).2.2⟩; exact (Kd.R_reads' HO_3.out).2.1; exact Kd.S_V (Kd.S_apart' (HO_7.out) (Kd.R_typed HO_3.out) (by decide)); rintro e w55 ⟨rfl, hb⟩; refine ⟨_, rfl, ?_⟩; replace HO_3 := rb HO_3 hb; replace HO_7 := sb HO_7 hb; replace HB := bs HB hb; (try clear hb)) | (go_at_call 56; (with_reducible refine (impl_Cycle.calls k2 _ _ t658 _ _ t668 t679 _ ?_ ?_ ?_ ?_ A41.out).mono ?_); exact cO ⟨(Kd.R_reads' HO_3.out).2.2⟩; exact (Kd.R_reads' HO_3.out).2.1; (focus repeat (first | exact (Kd.S_reads' HO_7.out).2.2 | (with_reducible refine Kd.C_alloc ?_ _) | (with_reducible refine Kd.C_drewN ?_ _) | (with_reducible refine Kd.C_drew ?_))); exact (Kd.S_reads' HO_7.out).2.1; rintro e w56 ⟨rfl, hb⟩; replace HO_3 := rb HO_3 hb; replace HO_7 := sb HO_7 hb; replace HB := bs HB hb; (try clear hb)) | (go_at_call 56; (with_reducible refine (impl_Cycle.calls k2 _ _ t658 _ _ t668 t681 _ ?_ ?_ ?_ ?_ A50.out).mono ?_); exact cO ⟨(Kd.R_reads' HO_3.out).2.2⟩; exact (Kd.R_reads' HO_3.out).2.1; (focus repeat (first | exact (Kd.S_reads' HO_7.out).2.2 | (with_reducible refine Kd.C_alloc ?_ _) | (with_reducible refine Kd.C_drewN ?_ _) | (with_reducible refine Kd.C_drew ?_))); exact (Kd.S_reads' HO_7.out).2.1; rintro e w57 ⟨rfl, hb⟩; replace HO_3 := rb HO_3 hb; replace HO_7 := sb HO_7 hb; replace HB := bs HB hb; (try clear hb)) | (go_at_call 57; (with_reducible refine (impl_TotalGreen.calls k2 _ _ t668 t682 _ ?_ ?_ A52.out).mono ?_); (focus repeat (first | exact (Kd.S_reads' HO_7.out).2.2 | (with_reducible refine Kd.C_alloc ?_ _) | (with_reducible refine Kd.C_drewN ?_ _) | (with_reducible refine Kd.C_drew ?_))); exact (Kd.S_reads' HO_7.out).2.1; rintro e w58 ⟨rfl, hb⟩; replace HO_3 := rb HO_3 hb; replace HO_7 := sb HO_7 hb; replace HB := bs HB hb; (try clear hb)))
      go_ret
      exact ⟨rA, bA⟩
   replace c27 := Bool.eq_false_iff.mpr c27
   subst c27
   have H1 : ((impl_EqualPlans.f kj5 t661 t668).bind fun t683 => (if t683 = true then (some true) else (none))) = some r := by rw [if_neg (show ¬ (false = true) by decide)] at H; exact H
   clear H
   have H := H1
   clear H1
   obtain ⟨t683, A59, H⟩ := bindE H
   try dsimp only at H
   have c60 := ifN H
   replace H := ifT H
   subst c60
   obtain rfl := Option.some.inj H
   obtain ⟨Ao61, co61, eo61⟩ := Kd.S_slice HO_7.out
   subst eo61
   go_wp2_with (first | ((with_reducible refine gate_callee (f := 58) rfl ?_); refine gL (some 104) Try.func58 #[.slice Ao9 t661.length co9, .slice Ao61 t668.length co61] ?_; (with_reducible refine (impl_EqualPlans.calls kj5 _ _ t661 _ _ t668 true _ ?_ ?_ ?_ ?_ A59.out).mono ?_); (focus repeat (first | exact (Kd.V_reads' HO_4.out).2.2 | (with_reducible refine Kd.C_alloc ?_ _) | (with_reducible refine Kd.C_drewN ?_ _) | (with_reducible refine Kd.C_drew ?_))); exact (Kd.V_reads' HO_4.out).2.1; (focus repeat (first | exact (Kd.S_reads' HO_7.out).2.2 | (with_reducible refine Kd.C_alloc ?_ _) | (with_reducible refine Kd.C_drewN ?_ _) | (with_reducible refine Kd.C_drew ?_))); exact (Kd.S_reads' HO_7.out).2.1; rintro e w62 ⟨rfl, hb⟩; refine ⟨_, rfl, ?_⟩; have n0_ := rb HO_3 hb; have n1_ := Aside0.mk (Kd.V_below (by (with_reducible repeat (first | apply Kd.V_alloc | apply Kd.V_drewN | apply Kd.V_drew)); exact HO_4.out) hb); have n2_ := sb HO_7 hb; have n3_ := bs HB hb; clear HO_3; clear HO_4; clear HO_7; clear HB; have HO_3 := n0_; have HO_4 := n1_; have HO_7 := n2_; have HB := n3_; clear n0_ n1_ n2_ n3_; (try clear hb)))
   go_ret
   exact ⟨rA, bA⟩

end Go.Proofs.Ytjgonpcajedkjaa.P
