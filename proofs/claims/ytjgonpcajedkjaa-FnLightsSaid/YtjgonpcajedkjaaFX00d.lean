/- Printed by myprint.py (wip/tools) over the kit's print: what Go's functions compute, and that they do. Lean checks it. -/
import Derived.Test.YtjgonpcajedkjaaF0
import Derived.Test.YtjgonpcajedkjaaFX00
import Derived.Test.YtjgonpcajedkjaaFX00b
import Derived.Test.YtjgonpcajedkjaaFX00c
namespace Go.Proofs.Ytjgonpcajedkjaa.P
open Go.RowKit Go.Proofs.YtjgonpcajedkjaaW.PrintWords Go.Proofs.YtjgonpcajedkjaaW.PrintLast Go.Proofs.YtjgonpcajedkjaaW.PrintMore Go.Proofs.Ytjgonpcajedkjaa.Sq
attribute [local go_sem] max2_int min2_int max_two min_two max_three min_three max_four min_four
set_option linter.unusedVariables false
set_option linter.unusedSimpArgs false

/-! ### spec_l8Any: function 82 -/
def spec_l8Any.f (k : Nat) (s0_0 : List Int) (s0_1 : Int) (s0_2 : Int) : Option ((List (S50)) × (List (S85)) × Int × Int) := (spec_l8Draw.f k s0_0 s0_1 s0_2).bind fun bt536 => (if (bt536.2.1.length : Int) = 0 then (some (bt536.1, bt536.2.1, bt536.2.2.1, bt536.2.2.2)) else ((spec_l1Below.f s0_0 bt536.2.2.1 bt536.2.2.2 (bt536.2.1.length : Int)).bind fun bt544 => ((spec_l1Below.f s0_0 bt544.2.1 bt544.2.2 10).bind fun bt547 => (if bt547.1 = 0 then ((spec_l1Int.f s0_0 bt547.2.1 bt547.2.2 (([4, 60, 61, 9223372036854775807] : List Int))).bind fun bt553 => (if 0 ≤ bt544.1 then (if bt544.1 < (bt536.2.1.length : Int) then (some (bt536.1, (bt536.2.1.set (bt544.1 : Int).toNat (⟨(rd_T85 bt536.2.1 bt544.1).f0, bt553.1⟩ : S85)), bt553.2.1, bt553.2.2)) else (none)) else (none))) else (if bt547.1 = 1 then (if 0 ≤ bt544.1 then (if bt544.1 < (bt536.2.1.length : Int) then (if 1 ≤ (((rd_T85 bt536.2.1 bt544.1).f0).length : Int) then (some (bt536.1, (bt536.2.1.set (bt544.1 : Int).toNat (⟨(((rd_T85 bt536.2.1 bt544.1).f0).drop 1), (rd_T85 bt536.2.1 bt544.1).f1⟩ : S85)), bt547.2.1, bt547.2.2)) else (none)) else (none)) else (none)) else (if bt547.1 = 2 then ((spec_l5Any.f k s0_0 bt547.2.1 bt547.2.2).bind fun bt564 => (some (bt564.1, bt536.2.1, bt564.2.1, bt564.2.2))) else (if bt547.1 = 3 then (if 1 ≤ (bt536.2.1.length : Int) then (some (bt536.1, (bt536.2.1.drop 1), bt547.2.1, bt547.2.2)) else (none)) else (some (bt536.1, bt536.2.1, bt547.2.1, bt547.2.2)))))))))
theorem spec_l8Any.mono : ∀ a0 a1 a2 k, LeO (spec_l8Any.f k a0 a1 a2) (spec_l8Any.f (k + 1) a0 a1 a2) := by
 intro a0 a1 a2 k
 unfold spec_l8Any.f
 exact mz2 spec_l5Any.mono spec_l8Draw.mono
set_option maxHeartbeats 8000000 in
set_option maxRecDepth 100000 in
theorem spec_l8Any.calls (k : Nat) (g : Nat) (s0_0 : List Int) (s0_1 : Int) (s0_2 : Int) (r1 : List (S50)) (r2 : List (S85)) (r3 : Int) (r4 : Int) (w0 w : World) (hI : IsS138 w0 w g s0_0 s0_1 s0_2) (hB : Below w0.heap.size w0 w) (h : spec_l8Any.f k s0_0 s0_1 s0_2 = some (r1, r2, r3, r4)) :
  Calls Try.prog 82 #[.pointer (some ⟨g, 0, none⟩)] w fun e w' => ∃ v0_ v1_ : Value, e = .returned (.tuple #[v0_, v1_]) ∧ Kd.R k50 50 w' w.heap.size (fun k_ => (w.heap.size ≤ k_)) v0_ r1 ∧ Kd.V k85 85 w' w.heap.size (fun k_ => (w.heap.size ≤ k_) ∧ some k_ ≠ (v0_ : Value).ownBlock) v1_ r2 ∧ IsS138 w0 w' g s0_0 r3 r4 ∧ Below w0.heap.size w0 w' ∧ KeepBut w w' g none := by
 have HI0 := Aside0.mk hI
 have HK := Aside0.mk (KeepBut.refl w g none)
 have HL := Aside0.mk hB.size
 clear hI
 have HW0 := Aside0.mk hB.size
 have HB := Aside0.mk hB
 clear hB
 have H : ((spec_l8Draw.f k s0_0 s0_1 s0_2).bind fun bt536 => (if (bt536.2.1.length : Int) = 0 then (some (bt536.1, bt536.2.1, bt536.2.2.1, bt536.2.2.2)) else ((spec_l1Below.f s0_0 bt536.2.2.1 bt536.2.2.2 (bt536.2.1.length : Int)).bind fun bt544 => ((spec_l1Below.f s0_0 bt544.2.1 bt544.2.2 10).bind fun bt547 => (if bt547.1 = 0 then ((spec_l1Int.f s0_0 bt547.2.1 bt547.2.2 (([4, 60, 61, 9223372036854775807] : List Int))).bind fun bt553 => (if 0 ≤ bt544.1 then (if bt544.1 < (bt536.2.1.length : Int) then (some (bt536.1, (bt536.2.1.set (bt544.1 : Int).toNat (⟨(rd_T85 bt536.2.1 bt544.1).f0, bt553.1⟩ : S85)), bt553.2.1, bt553.2.2)) else (none)) else (none))) else (if bt547.1 = 1 then (if 0 ≤ bt544.1 then (if bt544.1 < (bt536.2.1.length : Int) then (if 1 ≤ (((rd_T85 bt536.2.1 bt544.1).f0).length : Int) then (some (bt536.1, (bt536.2.1.set (bt544.1 : Int).toNat (⟨(((rd_T85 bt536.2.1 bt544.1).f0).drop 1), (rd_T85 bt536.2.1 bt544.1).f1⟩ : S85)), bt547.2.1, bt547.2.2)) else (none)) else (none)) else (none)) else (if bt547.1 = 2 then ((spec_l5Any.f k s0_0 bt547.2.1 bt547.2.2).bind fun bt564 => (some (bt564.1, bt536.2.1, bt564.2.1, bt564.2.2))) else (if bt547.1 = 3 then (if 1 ≤ (bt536.2.1.length : Int) then (some (bt536.1, (bt536.2.1.drop 1), bt547.2.1, bt547.2.2)) else (none)) else (some (bt536.1, bt536.2.1, bt547.2.1, bt547.2.2)))))))))) = some (r1, r2, r3, r4) := h
 clear h
 obtain ⟨⟨t536, t539, t542, t543⟩, A2, H⟩ := bindE H
 try dsimp only at H
 by_cases c3 : (t539.length : Int) = 0
 ·
  rw [if_pos c3] at H
  have c3b0 : ((t539.length : Int) == 0) = true := beq_iff_eq.mpr c3
  have c3b1 : ((t539.length : Int) != 0) = false := bne_eq_false_iff_eq.mpr c3
  clear c3
  simp only [Option.some.injEq, Prod.mk.injEq] at H
  obtain ⟨rfl, rfl, rfl, rfl⟩ := H
  go_enter Try.func82, Try.ntmps82
  go_wp2_with (first | ((with_reducible refine gate_callee (f := 124) rfl ?_); refine gL (some 9) Try.func124 #[.pointer (some ⟨g, 0, none⟩)] ?_; (with_reducible refine (spec_l8Draw.calls k g s0_0 s0_1 s0_2 t536 t539 t542 t543 w0 _ ?_ ?_ A2.out).mono ?_); exact sI1380 HI0.out; exact sB1 HB.out (IsS138.ge HI0.out); rintro e w4 ⟨v537, v540, rfl, ho0, ho1, hi, hb, hk⟩; refine ⟨_, rfl, ?_⟩; have HO538 := Aside0.mk (Kd.R_lower (Kd.R_newM (M := fun k_ => (w.heap.size ≤ k_)) ho0 (keep_size (w := w) (g := g) (row := none) (by exact sK0 HK.out)) (fun k_ h_ => h_)) (keep_size (w := w) (g := g) (row := none) (by exact sK0 HK.out))); have HO541 := Aside0.mk (Kd.N_lower (Kd.N_mono (ok' := fun k_ => (w.heap.size ≤ k_) ∧ some k_ ≠ (v537 : Value).ownBlock ∧ k_ ≠ g) (Kd.S_N (Kd.S_bound (Kd.S_apart' ho1 (Kd.R_typed ho0) (by decide)))) (fun k_ hk_ => ⟨(Nat.le_trans (keep_size (w := w) (g := g) (row := none) (by exact sK0 HK.out)) hk_.2.1), hk_.1.2, (IsS138.fresh (by exact sI1380 HI0.out) k_ hk_.2.1)⟩)) (keep_size (w := w) (g := g) (row := none) (by exact sK0 HK.out))); replace HK := Aside0.mk (KeepBut.trans (by exact sK0 HK.out) hk (.inl rfl)); replace HB := Aside0.mk (hb); replace HI0 := Aside0.mk (hi); (try clear hb); (try clear hk); (try clear hi); (try clear ho0); (try clear ho1); obtain ⟨Ao5, co5, eo5⟩ := Kd.N_slice HO541.out; subst eo5))
  go_ret2
  exact ⟨_, _, rA, rm HO538 (fun _ hk => hk.1), Kd.N_V (nm HO541 (fun _ hk => ⟨hk.1, hk.2.1⟩)), by exact sI1380 HI0.out, by exact sB1 HB.out (IsS138.ge HI0.out), by exact sK0 HK.out⟩
 rw [if_neg c3] at H
 have c3b0 : ((t539.length : Int) == 0) = false := beq_eq_false_iff_ne.mpr c3
 have c3b1 : ((t539.length : Int) != 0) = true := bne_iff_ne.mpr c3
 have c3b2 : ¬ (t539 = []) := fun h_ => c3 (by rw [h_]; rfl)
 obtain ⟨⟨t544, t545, t546⟩, A6, H⟩ := bindE H
 try dsimp only at H
 obtain ⟨⟨t547, t548, t549⟩, A7, H⟩ := bindE H
 try dsimp only at H
 by_cases c8 : t547 = 0
 ·
  rw [if_pos c8] at H
  have c8b0 : (t547 == 0) = true := beq_iff_eq.mpr c8
  have c8b1 : (t547 != 0) = false := bne_eq_false_iff_eq.mpr c8
  clear c8
  obtain ⟨y550, hy550⟩ : ∃ y_ : List Int, y_ = (([4, 60, 61, 9223372036854775807] : List Int)) := ⟨_, rfl⟩
  replace H : ((spec_l1Int.f s0_0 t548 t549 y550).bind fun bt553 => (if 0 ≤ t544 then (if t544 < (t539.length : Int) then (some (t536, (t539.set (t544 : Int).toNat (⟨(rd_T85 t539 t544).f0, bt553.1⟩ : S85)), bt553.2.1, bt553.2.2)) else (none)) else (none))) = some (r1, r2, r3, r4) := rH H hy550
  have Ny550 := Aside0.mk hy550
  clear hy550
  obtain ⟨⟨t553, t554, t555⟩, A9, H⟩ := bindE H
  try dsimp only at H
  have c10 : 0 ≤ t544 := ifN H
  replace H := ifT H
  have c10b0 := decide_eq_true c10
  clear c10
  have c11 : t544 < (t539.length : Int) := ifN H
  replace H := ifT H
  have c11b0 := decide_eq_true c11
  clear c11
  obtain ⟨y556, hy556⟩ : ∃ y_ : List (S85), y_ = (t539.set (t544 : Int).toNat (⟨(rd_T85 t539 t544).f0, t553⟩ : S85)) := ⟨_, rfl⟩
  replace H : (some (t536, y556, t554, t555)) = some (r1, r2, r3, r4) := rH H hy556
  have Ny556 := Aside0.mk hy556
  clear hy556
  simp only [Option.some.injEq, Prod.mk.injEq] at H
  obtain ⟨rfl, rfl, rfl, rfl⟩ := H
  go_enter Try.func82, Try.ntmps82
  go_wp2_with (first | ((with_reducible refine gate_callee (f := 124) rfl ?_); refine gL (some 9) Try.func124 #[.pointer (some ⟨g, 0, none⟩)] ?_; (with_reducible refine (spec_l8Draw.calls k g s0_0 s0_1 s0_2 t536 t539 t542 t543 w0 _ ?_ ?_ A2.out).mono ?_); exact sI1380 HI0.out; exact sB1 HB.out (IsS138.ge HI0.out); rintro e w13 ⟨v537, v540, rfl, ho0, ho1, hi, hb, hk⟩; refine ⟨_, rfl, ?_⟩; have HO538 := Aside0.mk (Kd.R_lower (Kd.R_newM (M := fun k_ => (w.heap.size ≤ k_)) ho0 (keep_size (w := w) (g := g) (row := none) (by exact sK0 HK.out)) (fun k_ h_ => h_)) (keep_size (w := w) (g := g) (row := none) (by exact sK0 HK.out))); have HO541 := Aside0.mk (Kd.N_lower (Kd.N_mono (ok' := fun k_ => (w.heap.size ≤ k_) ∧ some k_ ≠ (v537 : Value).ownBlock ∧ k_ ≠ g) (Kd.S_N (Kd.S_bound (Kd.S_apart' ho1 (Kd.R_typed ho0) (by decide)))) (fun k_ hk_ => ⟨(Nat.le_trans (keep_size (w := w) (g := g) (row := none) (by exact sK0 HK.out)) hk_.2.1), hk_.1.2, (IsS138.fresh (by exact sI1380 HI0.out) k_ hk_.2.1)⟩)) (keep_size (w := w) (g := g) (row := none) (by exact sK0 HK.out))); replace HK := Aside0.mk (KeepBut.trans (by exact sK0 HK.out) hk (.inl rfl)); replace HB := Aside0.mk (hb); replace HI0 := Aside0.mk (hi); (try clear hb); (try clear hk); (try clear hi); (try clear ho0); (try clear ho1); obtain ⟨Ao14, co14, eo14⟩ := Kd.N_slice HO541.out; subst eo14) | ((with_reducible refine gate_callee (f := 84) rfl ?_); refine gL (some 20) Try.func84 #[.pointer (some ⟨g, 0, none⟩), .int .i64 (t539.length : Int)] ?_; (with_reducible refine (spec_l1Below.calls g s0_0 t542 t543 (t539.length : Int) t544 t545 t546 w0 _ ?_ ?_ A6.out).mono ?_); exact sI1380 HI0.out; exact sB1 HB.out (IsS138.ge HI0.out); rintro e w15 ⟨rfl, hi, hb, hk⟩; refine ⟨_, rfl, ?_⟩; have n0_ := Aside0.mk (Kd.R_mono (Kd.R_keep (IsS138.apart (show IsS138 w0 _ g s0_0 t542 t543 from by exact sI1380 HI0.out) (rK HO538) (by decide)) hk (fun _ h => h.2)) (fun _ h => h.1)); have n1_ := Aside0.mk (Kd.N_mono (Kd.N_keep (Kd.N_mono (ok := fun k_ => (((w.heap.size ≤ k_)) ∧ (some k_ ≠ (v537 : Value).ownBlock ∧ k_ ≠ g))) (by (with_reducible repeat (first | apply Kd.N_alloc | apply Kd.N_drewN | apply Kd.N_drew)); exact HO541.out) (fun k_ hk_ => (⟨hk_, hk_.2.2⟩ : _ ∧ k_ ≠ g))) hk (fun _ h => h.2)) (fun _ h => h.1)); have n2_ := Aside0.mk (KeepBut.trans (by exact sK0 HK.out) hk (.inl rfl)); have n3_ := Aside0.mk (hb); have n4_ := Aside0.mk (hi); clear HO538; clear HO541; clear HK; clear HB; clear HI0; have HO538 := n0_; have HO541 := n1_; have HK := n2_; have HB := n3_; have HI0 := n4_; clear n0_ n1_ n2_ n3_ n4_; (try clear hb); (try clear hk); (try clear hi)) | ((with_reducible refine gate_callee (f := 84) rfl ?_); refine gL (some 22) Try.func84 #[.pointer (some ⟨g, 0, none⟩), .int .i64 10] ?_; (with_reducible refine (spec_l1Below.calls g s0_0 t545 t546 10 t547 t548 t549 w0 _ ?_ ?_ A7.out).mono ?_); exact sI1380 HI0.out; exact sB1 HB.out (IsS138.ge HI0.out); rintro e w16 ⟨rfl, hi, hb, hk⟩; refine ⟨_, rfl, ?_⟩; have n0_ := Aside0.mk (Kd.R_mono (Kd.R_keep (IsS138.apart (show IsS138 w0 _ g s0_0 t545 t546 from by exact sI1380 HI0.out) (rK HO538) (by decide)) hk (fun _ h => h.2)) (fun _ h => h.1)); have n1_ := Aside0.mk (Kd.N_mono (Kd.N_keep (Kd.N_mono (ok := fun k_ => (((w.heap.size ≤ k_)) ∧ (some k_ ≠ (v537 : Value).ownBlock ∧ k_ ≠ g))) (by (with_reducible repeat (first | apply Kd.N_alloc | apply Kd.N_drewN | apply Kd.N_drew)); exact HO541.out) (fun k_ hk_ => (⟨hk_, hk_.2.2⟩ : _ ∧ k_ ≠ g))) hk (fun _ h => h.2)) (fun _ h => h.1)); have n2_ := Aside0.mk (KeepBut.trans (by exact sK0 HK.out) hk (.inl rfl)); have n3_ := Aside0.mk (hb); have n4_ := Aside0.mk (hi); clear HO538; clear HO541; clear HK; clear HB; clear HI0; have HO538 := n0_; have HO541 := n1_; have HK := n2_; have HB := n3_; have HI0 := n4_; clear n0_ n1_ n2_ n3_ n4_; (try clear hb); (try clear hk); (try clear hi)) | ((with_reducible refine gate_dst (N := 28) rfl ?_); refine Kd.R_lit (Kd.int .i64) _ 3 ?hg (N := 28) ?hd (xs := ([4, 60, 61, 9223372036854775807] : List Int)) (inner := [.int .i64 4, .int .i64 60, .int .i64 61, .int .i64 9223372036854775807]) (ok := fun _ => True) (okp := fun _ => True) ?hr ?hp (fun _ hk => hk) trivial (Below.refl _ _) (Nat.le_refl _) (by simp) ?_; (case hd => rfl); (case hg => rfl); (case hr => first | (go_simp; done) | (go_simp; rfl)); (case hp => exact (Reps.one (show Kd.M (Kd.int .i64) _ _ _ 4 [.int .i64 4] from rfl) (Reps.one (show Kd.M (Kd.int .i64) _ _ _ 60 [.int .i64 60] from rfl) (Reps.one (show Kd.M (Kd.int .i64) _ _ _ 61 [.int .i64 61] from rfl) (Reps.one (show Kd.M (Kd.int .i64) _ _ _ 9223372036854775807 [.int .i64 9223372036854775807] from rfl) (Reps.none _ _)))))); intro v551 w17 ho18 hb hg_ hnew_; clear hg_ hnew_; (first | rw [← Ny550.out] at ho18 | (simp only [Int.reduceToNat] at ho18; rw [← Ny550.out] at ho18)); have n0_ := rb HO538 hb; have n1_ := Aside0.mk (Kd.N_elder' (by (with_reducible repeat (first | apply Kd.N_alloc | apply Kd.N_drewN | apply Kd.N_drew)); exact HO541.out) (Kd.R_base ho18) hb); have n2_ := Aside0.mk (Kd.R_lower (Kd.R_newM (M := fun k_ => (w.heap.size ≤ k_)) ho18 (keep_size (w := w) (g := g) (row := none) (by exact sK0 HK.out)) (fun k_ h_ => h_)) (keep_size (w := w) (g := g) (row := none) (by exact sK0 HK.out))); have n3_ := Aside0.mk (IsS138.below (by exact sI1380 HI0.out) hb); have n4_ := Aside0.mk (KeepBut.trans (by exact sK0 HK.out) (KeepBut.of_below hb g none) (.inl rfl)); have n5_ := Aside0.mk (below_step (by exact sB1 HB.out (IsS138.ge HI0.out)) hb); clear HO538; clear HO541; clear HI0; clear HK; clear HB; have HO538 := n0_; have HO541 := n1_; have HO552 := n2_; have HI0 := n3_; have HK := n4_; have HB := n5_; clear n0_ n1_ n2_ n3_ n4_ n5_; clear hb ho18; obtain ⟨Ao19, co19, eo19⟩ := Kd.R_slice HO552.out; subst eo19) | ((with_reducible refine gate_callee (f := 94) rfl ?_); refine gL (some 29) Try.func94 #[.pointer (some ⟨g, 0, none⟩), .slice Ao19 y550.length co19] ?_; (with_reducible refine (spec_l1Int.calls g s0_0 t548 t549 _ _ y550 t553 t554 t555 w0 _ ?_ ?_ ?_ ?_ ?_ A9.out).mono ?_); exact sI1380 HI0.out; exact sB1 HB.out (IsS138.ge HI0.out); exact cO ⟨(Kd.R_reads' HO552.out).2.2⟩; exact (Kd.R_reads' HO552.out).2.1; exact far_slice (IsS138.own_ne HI0.out HO552.out (by decide)); rintro e w20 ⟨rfl, hi, hb, hk⟩; refine ⟨_, rfl, ?_⟩; have n0_ := Aside0.mk (Kd.R_mono (Kd.R_keep (IsS138.apart (show IsS138 w0 _ g s0_0 t548 t549 from by exact sI1380 HI0.out) (rK HO538) (by decide)) hk (fun _ h => h.2)) (fun _ h => h.1)); have n1_ := Aside0.mk (Kd.N_mono (Kd.N_keep (Kd.N_mono (ok := fun k_ => ((((w.heap.size ≤ k_)) ∧ (some k_ ≠ (v537 : Value).ownBlock ∧ k_ ≠ g)) ∧ some k_ ≠ (.slice Ao19 y550.length co19 : Value).ownBlock)) (by (with_reducible repeat (first | apply Kd.N_alloc | apply Kd.N_drewN | apply Kd.N_drew)); exact HO541.out) (fun k_ hk_ => (⟨hk_, hk_.1.2.2⟩ : _ ∧ k_ ≠ g))) hk (fun _ h => h.2)) (fun _ h => h.1)); have n2_ := Aside0.mk (Kd.R_mono (Kd.R_keep (IsS138.apart (show IsS138 w0 _ g s0_0 t548 t549 from by exact sI1380 HI0.out) (rK HO552) (by decide)) hk (fun _ h => h.2)) (fun _ h => h.1)); have n3_ := Aside0.mk (KeepBut.trans (by exact sK0 HK.out) hk (.inl rfl)); have n4_ := Aside0.mk (hb); have n5_ := Aside0.mk (hi); clear HO538; clear HO541; clear HO552; clear HK; clear HB; clear HI0; have HO538 := n0_; have HO541 := n1_; have HO552 := n2_; have HK := n3_; have HB := n4_; have HI0 := n5_; clear n0_ n1_ n2_ n3_ n4_ n5_; (try clear hb); (try clear hk); (try clear hi); have p12 : 0 ≤ (t544 : Int) := dA; have q12 : (t544 : Int) < ((t539.length : Int) : Int) := dA; obtain ⟨go12, co12, eo12, gb12, gl12, cl12, HG12⟩ := Kd.N_form HO541.out (by omega); (first | cases eo12 | (injection eo12 with ea_ en_ ec_; (first | subst ea_ | (injection ea_ with ea_; subst ea_)); subst ec_; clear en_)); have GB12 := Aside0.mk gb12; have GG12 := Aside0.mk HG12; clear gb12 gl12 HG12; obtain ⟨ce12, hcl12, hM12, hcc12, hfr12⟩ := Kd.N_elem HO541.out z85 (t544 : Int) p12 q12; obtain ⟨ua12_0, uc12_0, rfl, ul12_0, ge12_0⟩ := k85_openF hM12; have hx12_0 : w20.cell? ⟨go12, (t544 : Int).toNat * 2, none⟩ = some (.slice ua12_0 ((rd_T85 t539 t544).f0).length uc12_0) := hcc12 0 _ rfl; have hx12_1 : w20.cell? ⟨go12, (t544 : Int).toNat * 2 + 1, none⟩ = some (.int .i64 ((rd_T85 t539 t544).f1)) := hcc12 1 _ rfl; have hf12_0 : w20.frozen? ⟨go12, (t544 : Int).toNat * 2, none⟩ = false := hfr12 0; have hf12_1 : w20.frozen? ⟨go12, (t544 : Int).toNat * 2 + 1, none⟩ = false := hfr12 1; clear hcl12 hcc12 hfr12 hM12; replace p12 := eq_true p12; replace q12 := eq_true q12; have n_ := Aside0.mk (Kd.N_mono (ok' := (fun k_ => (w.heap.size ≤ k_) ∧ some k_ ≠ (v537 : Value).ownBlock ∧ some k_ ≠ (.slice Ao19 y550.length co19 : Value).ownBlock)) HO541.out (fun k_ hk => ⟨hk.1.1, ⟨hk.1.2.1, hk.2⟩⟩)); clear HO541; have HO541 := n_; clear n_; have HX21 := Aside0.mk (show Kd.N k85 85 w20 w.heap.size (fun k_ => (w.heap.size ≤ k_) ∧ some k_ ≠ (v537 : Value).ownBlock ∧ some k_ ≠ (.slice Ao19 y550.length co19 : Value).ownBlock) (.slice (some ⟨go12, 0, none⟩) t539.length co14) t539 from (by (with_reducible repeat (first | apply Kd.N_alloc | apply Kd.N_drewN | apply Kd.N_drew)); exact HO541.out)); obtain ⟨ce21, hcl21, hM21, hcc21, hfr21⟩ := Kd.N_elem HX21.out z85 (t544 : Int) (dA) (by have h_ : (t544 : Int) < ((t539.length : Int) : Int) := dA; first | exact h_ | (have e_ := (Kd.N_reads' HO541.out).1; omega) | simpa using h_); obtain ⟨ua21_0, uc21_0, rfl, ul21_0, ge21_0⟩ := k85_openF hM21; have HP21 := Kd.N_seg HX21.out (t544 : Int) (dA) (by have h_ : (t544 : Int) < ((t539.length : Int) : Int) := dA; first | exact h_ | (have e_ := (Kd.N_reads' HO541.out).1; omega) | simpa using h_) (seg := [.int .i64 t553]) (j := 1) hcl21 hcc21 (show 2 ≤ 2 from by decide) (x' := (⟨(rd_T85 t539 t544).f0, t553⟩ : S85)) (k85_mkF _ _ (⟨(rd_T85 t539 t544).f0, t553⟩ : S85) ul21_0 ge21_0) (fun _ hk => hk); have hx21_1 := hcc21 1 _ rfl; (try simp only [show (k85).sz = 2 from rfl, Nat.mul_one, Nat.add_zero] at hx21_1); have hf21_1 := hfr21 1; (try simp only [show (k85).sz = 2 from rfl, Nat.mul_one, Nat.add_zero] at hf21_1); clear hcl21 hcc21 hfr21 hM21) | ((with_reducible refine gate_store (t := 3) (p := 31) rfl ?_); refine store_event (t := 3) (p := 31) (v := ?vo_w22) (w1 := (w20.setCell ⟨go12, (t544 : Int).toNat * 2 + 1, none⟩ (.int .i64 t553))) ?hg ?ho ?hn ?hr ?_; (case ho => rfl); (case hg => rfl); (case hn => rfl); (case hr => first | (go_simp; done) | (go_simp; rfl)); intro w22 hw; have hg : w20.grownBy w22 (some go12) := (by rw [hw]; exact HP21.2); have hp_ : Kd.N k85 85 w22 w.heap.size (fun k_ => (w.heap.size ≤ k_) ∧ some k_ ≠ (v537 : Value).ownBlock ∧ some k_ ≠ (.slice Ao19 y550.length co19 : Value).ownBlock) (.slice (some ⟨go12, 0, none⟩) t539.length co14) y556 := (by rw [hw, Ny556.out]; exact HP21.1); clear HP21; have n0_ := Aside0.mk (IsS138.grown (by exact sI1380 HI0.out) hg (IsS138.own_neN HI0.out HO541.out (by decide))); have n1_ := Aside0.mk (Kd.R_over' (v := (.slice (some ⟨go12, 0, none⟩) t539.length co14)) (rK HO538) (Kd.N_typed HO541.out) (by decide) hg); have n2_ := Aside0.mk (hp_); have n3_ := Aside0.mk (Kd.R_over' (v := (.slice (some ⟨go12, 0, none⟩) t539.length co14)) (rK HO552) (Kd.N_typed HO541.out) (by decide) hg); have n4_ := Aside0.mk ((by rw [hw]; exact below_set (HB.out) (Nat.le_trans HL.out GB12.out) : Below w0.heap.size w0 w22)); have n5_ := Aside0.mk (KeepBut.trans (by exact sK0 HK.out) (KeepBut.of_grown hg g) (Kd.N_base2 HO541.out)); clear HI0; clear HO538; clear HO541; clear HO552; clear HB; clear HK; have HI0 := n0_; have HO538 := n1_; have HO541 := n2_; have HO552 := n3_; have HB := n4_; have HK := n5_; clear n0_ n1_ n2_ n3_ n4_ n5_; clear hg hw hp_))
  go_ret2
  exact ⟨_, _, rA, rm HO538 (fun _ hk => hk.1), Kd.N_V (nm HO541 (fun _ hk => ⟨hk.1, hk.2.1⟩)), by exact sI1380 HI0.out, by exact sB1 HB.out (IsS138.ge HI0.out), by exact sK0 HK.out⟩
 rw [if_neg c8] at H
 have c8b0 : (t547 == 0) = false := beq_eq_false_iff_ne.mpr c8
 have c8b1 : (t547 != 0) = true := bne_iff_ne.mpr c8
 by_cases c23 : t547 = 1
 ·
  rw [if_pos c23] at H
  have c23b0 : (t547 == 1) = true := beq_iff_eq.mpr c23
  have c23b1 : (t547 != 1) = false := bne_eq_false_iff_eq.mpr c23
  clear c23
  have c24 : 0 ≤ t544 := ifN H
  replace H := ifT H
  have c24b0 := decide_eq_true c24
  clear c24
  have c25 : t544 < (t539.length : Int) := ifN H
  replace H := ifT H
  have c25b0 := decide_eq_true c25
  clear c25
  have c26 : 1 ≤ (((rd_T85 t539 t544).f0).length : Int) := ifN H
  replace H := ifT H
  have c26b0 := eq_true c26
  have c26b1 := decide_eq_true c26
  clear c26
  obtain ⟨y558, hy558⟩ : ∃ y_ : List Int, y_ = (((rd_T85 t539 t544).f0).drop 1) := ⟨_, rfl⟩
  replace H : (some (t536, (t539.set (t544 : Int).toNat (⟨y558, (rd_T85 t539 t544).f1⟩ : S85)), t548, t549)) = some (r1, r2, r3, r4) := rH H hy558
  have Ny558 := Aside0.mk hy558
  clear hy558
  obtain ⟨y563, hy563⟩ : ∃ y_ : List (S85), y_ = (t539.set (t544 : Int).toNat (⟨y558, (rd_T85 t539 t544).f1⟩ : S85)) := ⟨_, rfl⟩
  replace H : (some (t536, y563, t548, t549)) = some (r1, r2, r3, r4) := rH H hy563
  have Ny563 := Aside0.mk hy563
  clear hy563
  simp only [Option.some.injEq, Prod.mk.injEq] at H
  obtain ⟨rfl, rfl, rfl, rfl⟩ := H
  go_enter Try.func82, Try.ntmps82
  go_wp2_with (first | ((with_reducible refine gate_callee (f := 124) rfl ?_); refine gL (some 9) Try.func124 #[.pointer (some ⟨g, 0, none⟩)] ?_; (with_reducible refine (spec_l8Draw.calls k g s0_0 s0_1 s0_2 t536 t539 t542 t543 w0 _ ?_ ?_ A2.out).mono ?_); exact sI1380 HI0.out; exact sB1 HB.out (IsS138.ge HI0.out); rintro e w28 ⟨v537, v540, rfl, ho0, ho1, hi, hb, hk⟩; refine ⟨_, rfl, ?_⟩; have HO538 := Aside0.mk (Kd.R_lower (Kd.R_newM (M := fun k_ => (w.heap.size ≤ k_)) ho0 (keep_size (w := w) (g := g) (row := none) (by exact sK0 HK.out)) (fun k_ h_ => h_)) (keep_size (w := w) (g := g) (row := none) (by exact sK0 HK.out))); have HO541 := Aside0.mk (Kd.N_lower (Kd.N_mono (ok' := fun k_ => (w.heap.size ≤ k_) ∧ some k_ ≠ (v537 : Value).ownBlock ∧ k_ ≠ g) (Kd.S_N (Kd.S_bound (Kd.S_apart' ho1 (Kd.R_typed ho0) (by decide)))) (fun k_ hk_ => ⟨(Nat.le_trans (keep_size (w := w) (g := g) (row := none) (by exact sK0 HK.out)) hk_.2.1), hk_.1.2, (IsS138.fresh (by exact sI1380 HI0.out) k_ hk_.2.1)⟩)) (keep_size (w := w) (g := g) (row := none) (by exact sK0 HK.out))); replace HK := Aside0.mk (KeepBut.trans (by exact sK0 HK.out) hk (.inl rfl)); replace HB := Aside0.mk (hb); replace HI0 := Aside0.mk (hi); (try clear hb); (try clear hk); (try clear hi); (try clear ho0); (try clear ho1); obtain ⟨Ao29, co29, eo29⟩ := Kd.N_slice HO541.out; subst eo29) | ((with_reducible refine gate_callee (f := 84) rfl ?_); refine gL (some 20) Try.func84 #[.pointer (some ⟨g, 0, none⟩), .int .i64 (t539.length : Int)] ?_; (with_reducible refine (spec_l1Below.calls g s0_0 t542 t543 (t539.length : Int) t544 t545 t546 w0 _ ?_ ?_ A6.out).mono ?_); exact sI1380 HI0.out; exact sB1 HB.out (IsS138.ge HI0.out); rintro e w30 ⟨rfl, hi, hb, hk⟩; refine ⟨_, rfl, ?_⟩; have n0_ := Aside0.mk (Kd.R_mono (Kd.R_keep (IsS138.apart (show IsS138 w0 _ g s0_0 t542 t543 from by exact sI1380 HI0.out) (rK HO538) (by decide)) hk (fun _ h => h.2)) (fun _ h => h.1)); have n1_ := Aside0.mk (Kd.N_mono (Kd.N_keep (Kd.N_mono (ok := fun k_ => (((w.heap.size ≤ k_)) ∧ (some k_ ≠ (v537 : Value).ownBlock ∧ k_ ≠ g))) (by (with_reducible repeat (first | apply Kd.N_alloc | apply Kd.N_drewN | apply Kd.N_drew)); exact HO541.out) (fun k_ hk_ => (⟨hk_, hk_.2.2⟩ : _ ∧ k_ ≠ g))) hk (fun _ h => h.2)) (fun _ h => h.1)); have n2_ := Aside0.mk (KeepBut.trans (by exact sK0 HK.out) hk (.inl rfl)); have n3_ := Aside0.mk (hb); have n4_ := Aside0.mk (hi); clear HO538; clear HO541; clear HK; clear HB; clear HI0; have HO538 := n0_; have HO541 := n1_; have HK := n2_; have HB := n3_; have HI0 := n4_; clear n0_ n1_ n2_ n3_ n4_; (try clear hb); (try clear hk); (try clear hi)) | ((with_reducible refine gate_callee (f := 84) rfl ?_); refine gL (some 22) Try.func84 #[.pointer (some ⟨g, 0, none⟩), .int .i64 10] ?_; (with_reducible refine (spec_l1Below.calls g s0_0 t545 t546 10 t547 t548 t549 w0 _ ?_ ?_ A7.out).mono ?_); exact sI1380 HI0.out; exact sB1 HB.out (IsS138.ge HI0.out); rintro e w31 ⟨rfl, hi, hb, hk⟩; refine ⟨_, rfl, ?_⟩; have n0_ := Aside0.mk (Kd.R_mono (Kd.R_keep (IsS138.apart (show IsS138 w0 _ g s0_0 t545 t546 from by exact sI1380 HI0.out) (rK HO538) (by decide)) hk (fun _ h => h.2)) (fun _ h => h.1)); have n1_ := Aside0.mk (Kd.N_mono (Kd.N_keep (Kd.N_mono (ok := fun k_ => (((w.heap.size ≤ k_)) ∧ (some k_ ≠ (v537 : Value).ownBlock ∧ k_ ≠ g))) (by (with_reducible repeat (first | apply Kd.N_alloc | apply Kd.N_drewN | apply Kd.N_drew)); exact HO541.out) (fun k_ hk_ => (⟨hk_, hk_.2.2⟩ : _ ∧ k_ ≠ g))) hk (fun _ h => h.2)) (fun _ h => h.1)); have n2_ := Aside0.mk (KeepBut.trans (by exact sK0 HK.out) hk (.inl rfl)); have n3_ := Aside0.mk (hb); have n4_ := Aside0.mk (hi); clear HO538; clear HO541; clear HK; clear HB; clear HI0; have HO538 := n0_; have HO541 := n1_; have HK := n2_; have HB := n3_; have HI0 := n4_; clear n0_ n1_ n2_ n3_ n4_; (try clear hb); (try clear hk); (try clear hi); have p557 : 0 ≤ (t544 : Int) := dA; have q557 : t544 < (t539.length : Int) := dA; obtain ⟨ad557, A557_0, c557_0, e557, hx557_0, hx557_1, hl557_0, hi557_0⟩ := at_T85 (Kd.N_reads' HO541.out).2.2 t544 p557 q557; cases e557; obtain ⟨ce557, hce557, hMe557, hcc557⟩ := Kd.N_get HO541.out z85 t544 p557 (by first | exact q557 | exact dA | (have e_ := (Kd.N_reads' HO541.out).1; omega)); obtain ⟨ua557_0, uc557_0, rfl, ul557_0, ge557_0⟩ := k85_openF hMe557; have hv557_0 := hcc557 0 _ rfl; rw [Nat.add_zero] at hv557_0; replace hv557_0 := Option.some.inj (hv557_0.symm.trans hx557_0); injection hv557_0 with hva_ hvn_ hvc_; rw [hva_] at ge557_0; rw [hvc_] at ul557_0; have HL557_0 := Aside0.mk (show Kd.V (Kd.int .i64) 3 _ w.heap.size _ _ ((rd_T85 t539 t544).f0) from Kd.V_mk ul557_0 ge557_0); clear hva_ hvn_ hvc_ ge557_0 ul557_0; clear hcc557 hce557; have HR557_0 := Aside0.mk hi557_0; have HC557_0 := Aside0.mk hl557_0; clear hi557_0 hl557_0; replace p557 := eq_true p557; replace q557 := eq_true q557; have q32 : (1 : Int) ≤ ((((rd_T85 t539 t544).f0).length : Int) : Int) := dA; obtain ⟨i032, hi032, _, hsz32, _⟩ := info_parts info3; have hroom32 : ((rd_T85 t539 t544).f0).length ≤ c557_0 := HC557_0.out; have hC32 : Kd.F (Kd.int .i64) _ _ A557_0 ((rd_T85 t539 t544).f0).length ((rd_T85 t539 t544).f0) := (Kd.V_at (base := w.heap.size) HL557_0.out).2.2; have hcut32 := cut_from (P := Try.prog) 35 3 .i64 Try.underlying35 hi032 1 hsz32 A557_0 ((rd_T85 t539 t544).f0).length c557_0 1 (by omega) q32; have hr32 := Kd.F_cut (m := (1 : Int).toNat) (c := c557_0) hC32 (by omega) hroom32; obtain ⟨A32, hA32⟩ : ∃ z_, z_ = (if c557_0 = (1 : Int).toNat then A557_0 else (A557_0 : Option Addr).map (·.add ((1 : Int).toNat * 1))) := ⟨_, rfl⟩; obtain ⟨c32, hc32⟩ : ∃ z_, z_ = c557_0 - (1 : Int).toNat := ⟨_, rfl⟩; have hy32 : y558.length = ((rd_T85 t539 t544).f0).length - (1 : Int).toNat := (by rw [Ny558.out, List.length_drop] <;> omega); rw [show ((rd_T85 t539 t544).f0).drop (1 : Int).toNat = y558 from Ny558.out.symm] at hr32; replace hr32 : Kd.F (Kd.int .i64) _ _ A32 y558.length y558 := (by rw [hA32]; exact hr32); rw [← hy32, ← hA32, ← hc32] at hcut32; have HO562 := Aside0.mk (show Kd.V (Kd.int .i64) 3 _ w.heap.size _ (.slice A32 y558.length c32) y558 from Kd.V_mk (by rw [hy32, hc32]; exact Nat.sub_le_sub_right hroom32 _) hr32); have HC562 := Aside0.mk (show y558.length ≤ c32 from by rw [hy32, hc32]; exact Nat.sub_le_sub_right hroom32 _); clear hr32 hC32 hroom32 hi032 hsz32 hc32; have KY32 := Aside0.mk hy32; have KA32 := Aside0.mk hA32; clear hy32 hA32; replace q32 := eq_true q32; have p27 : 0 ≤ (t544 : Int) := dA; have q27 : (t544 : Int) < ((t539.length : Int) : Int) := dA; obtain ⟨go27, co27, eo27, gb27, gl27, cl27, HG27⟩ := Kd.N_form HO541.out (by omega); (first | cases eo27 | (injection eo27 with ea_ en_ ec_; (first | subst ea_ | (injection ea_ with ea_; subst ea_)); subst ec_; clear en_)); have GB27 := Aside0.mk gb27; have GG27 := Aside0.mk HG27; clear gb27 gl27 HG27; (first | simp only [add_plain] at hx557_0 | skip); (first | simp only [add_plain] at hx557_1 | skip); obtain ⟨ce27, hcl27, hM27, hcc27, hfr27⟩ := Kd.N_elem HO541.out z85 (t544 : Int) p27 q27; obtain ⟨ua27_0, uc27_0, rfl, ul27_0, ge27_0⟩ := k85_openF hM27; have hx27_0 : w31.cell? ⟨go27, (t544 : Int).toNat * 2, none⟩ = some (.slice ua27_0 ((rd_T85 t539 t544).f0).length uc27_0) := hcc27 0 _ rfl; have hx27_1 : w31.cell? ⟨go27, (t544 : Int).toNat * 2 + 1, none⟩ = some (.int .i64 ((rd_T85 t539 t544).f1)) := hcc27 1 _ rfl; have hf27_0 : w31.frozen? ⟨go27, (t544 : Int).toNat * 2, none⟩ = false := hfr27 0; have hf27_1 : w31.frozen? ⟨go27, (t544 : Int).toNat * 2 + 1, none⟩ = false := hfr27 1; clear hcl27 hcc27 hfr27 hM27; replace p27 := eq_true p27; replace q27 := eq_true q27; have HX33 := Aside0.mk (show Kd.N k85 85 w31 w.heap.size (fun k_ => (w.heap.size ≤ k_) ∧ some k_ ≠ (v537 : Value).ownBlock ∧ k_ ≠ g) (.slice (some ⟨go27, 0, none⟩) t539.length co29) t539 from (by (with_reducible repeat (first | apply Kd.N_alloc | apply Kd.N_drewN | apply Kd.N_drew)); exact HO541.out)); obtain ⟨ce33, hcl33, hM33, hcc33, hfr33⟩ := Kd.N_elem HX33.out z85 (t544 : Int) (dA) (by have h_ : (t544 : Int) < ((t539.length : Int) : Int) := dA; first | exact h_ | (have e_ := (Kd.N_reads' HO541.out).1; omega) | simpa using h_); obtain ⟨ua33_0, uc33_0, rfl, ul33_0, ge33_0⟩ := k85_openF hM33; have HP33 := Kd.N_seg HX33.out (t544 : Int) (dA) (by have h_ : (t544 : Int) < ((t539.length : Int) : Int) := dA; first | exact h_ | (have e_ := (Kd.N_reads' HO541.out).1; omega) | simpa using h_) (seg := [.slice A32 y558.length c32]) (j := 0) hcl33 hcc33 (show 1 ≤ 2 from by decide) (x' := (⟨y558, (rd_T85 t539 t544).f1⟩ : S85)) (k85_mkF _ _ (⟨y558, (rd_T85 t539 t544).f1⟩ : S85) (Kd.V_reads' (Kd.V_mono (ok' := (fun k_ => ((fun k_ => (w.heap.size ≤ k_) ∧ some k_ ≠ (v537 : Value).ownBlock ∧ k_ ≠ g)) k_ ∧ k_ ≠ go27)) (HO562.out) (fun k_ hk => ⟨⟨hk.1.1, ⟨hk.1.2.1, hk.1.2.2⟩⟩, fun e_ => (hk.2) (by rw [e_]; rfl)⟩))).2.1 (Kd.V_F (Kd.V_mono (ok' := (fun k_ => ((fun k_ => (w.heap.size ≤ k_) ∧ some k_ ≠ (v537 : Value).ownBlock ∧ k_ ≠ g)) k_ ∧ k_ ≠ go27)) (HO562.out) (fun k_ hk => ⟨⟨hk.1.1, ⟨hk.1.2.1, hk.1.2.2⟩⟩, fun e_ => (hk.2) (by rw [e_]; rfl)⟩)))) (fun _ hk => hk); have hx33_0 := hcc33 0 _ rfl; (try simp only [show (k85).sz = 2 from rfl, Nat.mul_one, Nat.add_zero] at hx33_0); have hf33_0 := hfr33 0; (try simp only [show (k85).sz = 2 from rfl, Nat.mul_one, Nat.add_zero] at hf33_0); clear hcl33 hcc33 hfr33 hM33) | ((with_reducible refine gate_store (t := 35) (p := 43) rfl ?_); refine store_event (t := 35) (p := 43) (v := ?vo_w34) (w1 := (w31.setCell ⟨go27, (t544 : Int).toNat * 2, none⟩ (.slice A32 y558.length c32))) ?hg ?ho ?hn ?hr ?_; (case ho => rfl); (case hg => rfl); (case hn => rfl); (case hr => first | (go_simp; done) | (go_simp; rfl)); intro w34 hw; have hg : w31.grownBy w34 (some go27) := (by rw [hw]; exact HP33.2); have hp_ : Kd.N k85 85 w34 w.heap.size (fun k_ => (w.heap.size ≤ k_) ∧ some k_ ≠ (v537 : Value).ownBlock ∧ k_ ≠ g) (.slice (some ⟨go27, 0, none⟩) t539.length co29) y563 := (by rw [hw, Ny563.out]; exact HP33.1); clear HP33; have n0_ := Aside0.mk (IsS138.grown (by exact sI1380 HI0.out) hg (IsS138.own_neN HI0.out HO541.out (by decide))); have n1_ := Aside0.mk (Kd.R_over' (v := (.slice (some ⟨go27, 0, none⟩) t539.length co29)) (rK HO538) (Kd.N_typed HO541.out) (by decide) hg); have n2_ := Aside0.mk (hp_); have n3_ := Aside0.mk (Kd.V_afterv (v := (.slice (some ⟨go27, 0, none⟩) t539.length co29)) (v1 := (.slice (some ⟨go27, 0, none⟩) t539.length co29)) (ok := (fun k_ => (w.heap.size ≤ k_) ∧ some k_ ≠ (v537 : Value).ownBlock ∧ k_ ≠ g)) (by (with_reducible repeat (first | apply Kd.V_alloc | apply Kd.V_drewN | apply Kd.V_drew)); exact HL557_0.out) hg (.inl rfl)); have n4_ := Aside0.mk (Kd.V_afterv (v := (.slice (some ⟨go27, 0, none⟩) t539.length co29)) (v1 := (.slice (some ⟨go27, 0, none⟩) t539.length co29)) (ok := (fun k_ => (w.heap.size ≤ k_) ∧ some k_ ≠ (v537 : Value).ownBlock ∧ k_ ≠ g)) (by (with_reducible repeat (first | apply Kd.V_alloc | apply Kd.V_drewN | apply Kd.V_drew)); exact HO562.out) hg (.inl rfl)); have n5_ := Aside0.mk ((by rw [hw]; exact below_set (HB.out) (Nat.le_trans HL.out GB27.out) : Below w0.heap.size w0 w34)); have n6_ := Aside0.mk (KeepBut.trans (by exact sK0 HK.out) (KeepBut.of_grown hg g) (Kd.N_base2 HO541.out)); clear HI0; clear HO538; clear HO541; clear HL557_0; clear HO562; clear HB; clear HK; have HI0 := n0_; have HO538 := n1_; have HO541 := n2_; have HL557_0 := n3_; have HO562 := n4_; have HB := n5_; have HK := n6_; clear n0_ n1_ n2_ n3_ n4_ n5_ n6_; clear hg hw hp_))
  go_ret2
  exact ⟨_, _, rA, rm HO538 (fun _ hk => hk.1), Kd.N_V (nm HO541 (fun _ hk => ⟨hk.1, hk.2.1⟩)), by exact sI1380 HI0.out, by exact sB1 HB.out (IsS138.ge HI0.out), by exact sK0 HK.out⟩
 rw [if_neg c23] at H
 have c23b0 : (t547 == 1) = false := beq_eq_false_iff_ne.mpr c23
 have c23b1 : (t547 != 1) = true := bne_iff_ne.mpr c23
 by_cases c35 : t547 = 2
 ·
  rw [if_pos c35] at H
  have c35b0 : (t547 == 2) = true := beq_iff_eq.mpr c35
  have c35b1 : (t547 != 2) = false := bne_eq_false_iff_eq.mpr c35
  clear c35
  obtain ⟨⟨t564, t567, t568⟩, A36, H⟩ := bindE H
  try dsimp only at H
  simp only [Option.some.injEq, Prod.mk.injEq] at H
  obtain ⟨rfl, rfl, rfl, rfl⟩ := H
  go_enter Try.func82, Try.ntmps82
  go_wp2_with (first | ((with_reducible refine gate_callee (f := 124) rfl ?_); refine gL (some 9) Try.func124 #[.pointer (some ⟨g, 0, none⟩)] ?_; (with_reducible refine (spec_l8Draw.calls k g s0_0 s0_1 s0_2 t536 t539 t542 t543 w0 _ ?_ ?_ A2.out).mono ?_); exact sI1380 HI0.out; exact sB1 HB.out (IsS138.ge HI0.out); rintro e w37 ⟨v537, v540, rfl, ho0, ho1, hi, hb, hk⟩; refine ⟨_, rfl, ?_⟩; have HO538 := Aside0.mk (Kd.R_lower (Kd.R_newM (M := fun k_ => (w.heap.size ≤ k_)) ho0 (keep_size (w := w) (g := g) (row := none) (by exact sK0 HK.out)) (fun k_ h_ => h_)) (keep_size (w := w) (g := g) (row := none) (by exact sK0 HK.out))); have HO541 := Aside0.mk (Kd.N_lower (Kd.N_mono (ok' := fun k_ => (w.heap.size ≤ k_) ∧ some k_ ≠ (v537 : Value).ownBlock ∧ k_ ≠ g) (Kd.S_N (Kd.S_bound (Kd.S_apart' ho1 (Kd.R_typed ho0) (by decide)))) (fun k_ hk_ => ⟨(Nat.le_trans (keep_size (w := w) (g := g) (row := none) (by exact sK0 HK.out)) hk_.2.1), hk_.1.2, (IsS138.fresh (by exact sI1380 HI0.out) k_ hk_.2.1)⟩)) (keep_size (w := w) (g := g) (row := none) (by exact sK0 HK.out))); replace HK := Aside0.mk (KeepBut.trans (by exact sK0 HK.out) hk (.inl rfl)); replace HB := Aside0.mk (hb); replace HI0 := Aside0.mk (hi); (try clear hb); (try clear hk); (try clear hi); (try clear ho0); (try clear ho1); obtain ⟨Ao38, co38, eo38⟩ := Kd.N_slice HO541.out; subst eo38) | ((with_reducible refine gate_callee (f := 84) rfl ?_); refine gL (some 20) Try.func84 #[.pointer (some ⟨g, 0, none⟩), .int .i64 (t539.length : Int)] ?_; (with_reducible refine (spec_l1Below.calls g s0_0 t542 t543 (t539.length : Int) t544 t545 t546 w0 _ ?_ ?_ A6.out).mono ?_); exact sI1380 HI0.out; exact sB1 HB.out (IsS138.ge HI0.out); rintro e w39 ⟨rfl, hi, hb, hk⟩; refine ⟨_, rfl, ?_⟩; have n0_ := Aside0.mk (Kd.R_mono (Kd.R_keep (IsS138.apart (show IsS138 w0 _ g s0_0 t542 t543 from by exact sI1380 HI0.out) (rK HO538) (by decide)) hk (fun _ h => h.2)) (fun _ h => h.1)); have n1_ := Aside0.mk (Kd.N_mono (Kd.N_keep (Kd.N_mono (ok := fun k_ => (((w.heap.size ≤ k_)) ∧ (some k_ ≠ (v537 : Value).ownBlock ∧ k_ ≠ g))) (by (with_reducible repeat (first | apply Kd.N_alloc | apply Kd.N_drewN | apply Kd.N_drew)); exact HO541.out) (fun k_ hk_ => (⟨hk_, hk_.2.2⟩ : _ ∧ k_ ≠ g))) hk (fun _ h => h.2)) (fun _ h => h.1)); have n2_ := Aside0.mk (KeepBut.trans (by exact sK0 HK.out) hk (.inl rfl)); have n3_ := Aside0.mk (hb); have n4_ := Aside0.mk (hi); clear HO538; clear HO541; clear HK; clear HB; clear HI0; have HO538 := n0_; have HO541 := n1_; have HK := n2_; have HB := n3_; have HI0 := n4_; clear n0_ n1_ n2_ n3_ n4_; (try clear hb); (try clear hk); (try clear hi)) | ((with_reducible refine gate_callee (f := 84) rfl ?_); refine gL (some 22) Try.func84 #[.pointer (some ⟨g, 0, none⟩), .int .i64 10] ?_; (with_reducible refine (spec_l1Below.calls g s0_0 t545 t546 10 t547 t548 t549 w0 _ ?_ ?_ A7.out).mono ?_); exact sI1380 HI0.out; exact sB1 HB.out (IsS138.ge HI0.out); rintro e w40 ⟨rfl, hi, hb, hk⟩; refine ⟨_, rfl, ?_⟩; have n0_ := Aside0.mk (Kd.R_mono (Kd.R_keep (IsS138.apart (show IsS138 w0 _ g s0_0 t545 t546 from by exact sI1380 HI0.out) (rK HO538) (by decide)) hk (fun _ h => h.2)) (fun _ h => h.1)); have n1_ := Aside0.mk (Kd.N_mono (Kd.N_keep (Kd.N_mono (ok := fun k_ => (((w.heap.size ≤ k_)) ∧ (some k_ ≠ (v537 : Value).ownBlock ∧ k_ ≠ g))) (by (with_reducible repeat (first | apply Kd.N_alloc | apply Kd.N_drewN | apply Kd.N_drew)); exact HO541.out) (fun k_ hk_ => (⟨hk_, hk_.2.2⟩ : _ ∧ k_ ≠ g))) hk (fun _ h => h.2)) (fun _ h => h.1)); have n2_ := Aside0.mk (KeepBut.trans (by exact sK0 HK.out) hk (.inl rfl)); have n3_ := Aside0.mk (hb); have n4_ := Aside0.mk (hi); clear HO538; clear HO541; clear HK; clear HB; clear HI0; have HO538 := n0_; have HO541 := n1_; have HK := n2_; have HB := n3_; have HI0 := n4_; clear n0_ n1_ n2_ n3_ n4_; (try clear hb); (try clear hk); (try clear hi)) | ((with_reducible refine gate_callee (f := 125) rfl ?_); refine gL (some 47) Try.func125 #[.pointer (some ⟨g, 0, none⟩)] ?_; (with_reducible refine (spec_l5Any.calls k g s0_0 t548 t549 t564 t567 t568 w0 _ ?_ ?_ A36.out).mono ?_); exact sI1380 HI0.out; exact sB1 HB.out (IsS138.ge HI0.out); rintro e w41 ⟨v565, rfl, ho0, hi, hb, hk⟩; refine ⟨_, rfl, ?_⟩; have n0_ := Aside0.mk (Kd.R_mono (Kd.R_told (Kd.R_oldK (IsS138.apart (show IsS138 w0 _ g s0_0 t548 t549 from by exact sI1380 HI0.out) (rK HO538) (by decide)) hk) (Kd.R_base ho0)) (fun _ h_ => h_.1)); have n1_ := Aside0.mk (Kd.N_mono (Kd.N_told (Kd.N_oldK (Kd.N_mono (ok := fun k_ => (((w.heap.size ≤ k_)) ∧ (some k_ ≠ (v537 : Value).ownBlock ∧ k_ ≠ g))) (by (with_reducible repeat (first | apply Kd.N_alloc | apply Kd.N_drewN | apply Kd.N_drew)); exact HO541.out) (fun k_ hk_ => (⟨hk_, hk_.2.2⟩ : _ ∧ k_ ≠ g))) hk) (Kd.R_base ho0)) (fun _ h_ => h_.1)); have n2_ := Aside0.mk (Kd.R_lower (Kd.R_new' (Kd.R_newM (M := fun k_ => (w.heap.size ≤ k_)) ho0 (keep_size (w := w) (g := g) (row := none) (by exact sK0 HK.out)) (fun k_ h_ => h_)) (Kd.R_lt (rK HO538))) (keep_size (w := w) (g := g) (row := none) (by exact sK0 HK.out))); have n3_ := Aside0.mk (KeepBut.trans (by exact sK0 HK.out) hk (.inl rfl)); have n4_ := Aside0.mk (hb); have n5_ := Aside0.mk (hi); clear HO538; clear HO541; clear HK; clear HB; clear HI0; have HO538 := n0_; have HO541 := n1_; have HO566 := n2_; have HK := n3_; have HB := n4_; have HI0 := n5_; clear n0_ n1_ n2_ n3_ n4_ n5_; (try clear hb); (try clear hk); (try clear hi); (try clear ho0)))
  go_ret2
  exact ⟨_, _, rA, rm HO566 (fun _ hk => hk.1.1), Kd.N_V (nm HO541 (fun _ hk => ⟨hk.1.1, hk.2⟩)), by exact sI1380 HI0.out, by exact sB1 HB.out (IsS138.ge HI0.out), by exact sK0 HK.out⟩
 rw [if_neg c35] at H
 have c35b0 : (t547 == 2) = false := beq_eq_false_iff_ne.mpr c35
 have c35b1 : (t547 != 2) = true := bne_iff_ne.mpr c35
 by_cases c42 : t547 = 3
 ·
  rw [if_pos c42] at H
  have c42b0 : (t547 == 3) = true := beq_iff_eq.mpr c42
  have c42b1 : (t547 != 3) = false := bne_eq_false_iff_eq.mpr c42
  clear c42
  have c43 : 1 ≤ (t539.length : Int) := ifN H
  replace H := ifT H
  have c43b0 := eq_true c43
  have c43b1 := decide_eq_true c43
  clear c43
  obtain ⟨y569, hy569⟩ : ∃ y_ : List (S85), y_ = (t539.drop 1) := ⟨_, rfl⟩
  replace H : (some (t536, y569, t548, t549)) = some (r1, r2, r3, r4) := rH H hy569
  have Ny569 := Aside0.mk hy569
  clear hy569
  simp only [Option.some.injEq, Prod.mk.injEq] at H
  obtain ⟨rfl, rfl, rfl, rfl⟩ := H
  go_enter Try.func82, Try.ntmps82
  go_wp2_with (first | ((with_reducible refine gate_callee (f := 124) rfl ?_); refine gL (some 9) Try.func124 #[.pointer (some ⟨g, 0, none⟩)] ?_; (with_reducible refine (spec_l8Draw.calls k g s0_0 s0_1 s0_2 t536 t539 t542 t543 w0 _ ?_ ?_ A2.out).mono ?_); exact sI1380 HI0.out; exact sB1 HB.out (IsS138.ge HI0.out); rintro e w44 ⟨v537, v540, rfl, ho0, ho1, hi, hb, hk⟩; refine ⟨_, rfl, ?_⟩; have HO538 := Aside0.mk (Kd.R_lower (Kd.R_newM (M := fun k_ => (w.heap.size ≤ k_)) ho0 (keep_size (w := w) (g := g) (row := none) (by exact sK0 HK.out)) (fun k_ h_ => h_)) (keep_size (w := w) (g := g) (row := none) (by exact sK0 HK.out))); have HO541 := Aside0.mk (Kd.N_lower (Kd.N_mono (ok' := fun k_ => (w.heap.size ≤ k_) ∧ some k_ ≠ (v537 : Value).ownBlock ∧ k_ ≠ g) (Kd.S_N (Kd.S_bound (Kd.S_apart' ho1 (Kd.R_typed ho0) (by decide)))) (fun k_ hk_ => ⟨(Nat.le_trans (keep_size (w := w) (g := g) (row := none) (by exact sK0 HK.out)) hk_.2.1), hk_.1.2, (IsS138.fresh (by exact sI1380 HI0.out) k_ hk_.2.1)⟩)) (keep_size (w := w) (g := g) (row := none) (by exact sK0 HK.out))); replace HK := Aside0.mk (KeepBut.trans (by exact sK0 HK.out) hk (.inl rfl)); replace HB := Aside0.mk (hb); replace HI0 := Aside0.mk (hi); (try clear hb); (try clear hk); (try clear hi); (try clear ho0); (try clear ho1); obtain ⟨Ao45, co45, eo45⟩ := Kd.N_slice HO541.out; subst eo45) | ((with_reducible refine gate_callee (f := 84) rfl ?_); refine gL (some 20) Try.func84 #[.pointer (some ⟨g, 0, none⟩), .int .i64 (t539.length : Int)] ?_; (with_reducible refine (spec_l1Below.calls g s0_0 t542 t543 (t539.length : Int) t544 t545 t546 w0 _ ?_ ?_ A6.out).mono ?_); exact sI1380 HI0.out; exact sB1 HB.out (IsS138.ge HI0.out); rintro e w46 ⟨rfl, hi, hb, hk⟩; refine ⟨_, rfl, ?_⟩; have n0_ := Aside0.mk (Kd.R_mono (Kd.R_keep (IsS138.apart (show IsS138 w0 _ g s0_0 t542 t543 from by exact sI1380 HI0.out) (rK HO538) (by decide)) hk (fun _ h => h.2)) (fun _ h => h.1)); have n1_ := Aside0.mk (Kd.N_mono (Kd.N_keep (Kd.N_mono (ok := fun k_ => (((w.heap.size ≤ k_)) ∧ (some k_ ≠ (v537 : Value).ownBlock ∧ k_ ≠ g))) (by (with_reducible repeat (first | apply Kd.N_alloc | apply Kd.N_drewN | apply Kd.N_drew)); exact HO541.out) (fun k_ hk_ => (⟨hk_, hk_.2.2⟩ : _ ∧ k_ ≠ g))) hk (fun _ h => h.2)) (fun _ h => h.1)); have n2_ := Aside0.mk (KeepBut.trans (by exact sK0 HK.out) hk (.inl rfl)); have n3_ := Aside0.mk (hb); have n4_ := Aside0.mk (hi); clear HO538; clear HO541; clear HK; clear HB; clear HI0; have HO538 := n0_; have HO541 := n1_; have HK := n2_; have HB := n3_; have HI0 := n4_; clear n0_ n1_ n2_ n3_ n4_; (try clear hb); (try clear hk); (try clear hi)) | ((with_reducible refine gate_callee (f := 84) rfl ?_); refine gL (some 22) Try.func84 #[.pointer (some ⟨g, 0, none⟩), .int .i64 10] ?_; (with_reducible refine (spec_l1Below.calls g s0_0 t545 t546 10 t547 t548 t549 w0 _ ?_ ?_ A7.out).mono ?_); exact sI1380 HI0.out; exact sB1 HB.out (IsS138.ge HI0.out); rintro e w47 ⟨rfl, hi, hb, hk⟩; refine ⟨_, rfl, ?_⟩; have n0_ := Aside0.mk (Kd.R_mono (Kd.R_keep (IsS138.apart (show IsS138 w0 _ g s0_0 t545 t546 from by exact sI1380 HI0.out) (rK HO538) (by decide)) hk (fun _ h => h.2)) (fun _ h => h.1)); have n1_ := Aside0.mk (Kd.N_mono (Kd.N_keep (Kd.N_mono (ok := fun k_ => (((w.heap.size ≤ k_)) ∧ (some k_ ≠ (v537 : Value).ownBlock ∧ k_ ≠ g))) (by (with_reducible repeat (first | apply Kd.N_alloc | apply Kd.N_drewN | apply Kd.N_drew)); exact HO541.out) (fun k_ hk_ => (⟨hk_, hk_.2.2⟩ : _ ∧ k_ ≠ g))) hk (fun _ h => h.2)) (fun _ h => h.1)); have n2_ := Aside0.mk (KeepBut.trans (by exact sK0 HK.out) hk (.inl rfl)); have n3_ := Aside0.mk (hb); have n4_ := Aside0.mk (hi); clear HO538; clear HO541; clear HK; clear HB; clear HI0; have HO538 := n0_; have HO541 := n1_; have HK := n2_; have HB := n3_; have HI0 := n4_; clear n0_ n1_ n2_ n3_ n4_; (try clear hb); (try clear hk); (try clear hi); have q48 : (1 : Int) ≤ ((t539.length : Int) : Int) := dA; obtain ⟨i048, hi048, _, hsz48, _⟩ := info_parts info85; have hroom48 : t539.length ≤ co45 := (Kd.N_reads' HO541.out).2.1; have hC48 : Kd.F k85 _ _ Ao45 t539.length t539 := (Kd.V_at (base := w.heap.size) (Kd.N_V HO541.out)).2.2; have hcut48 := cut_from (P := Try.prog) 25 85 .i64 Try.underlying25 hi048 2 hsz48 Ao45 t539.length co45 1 (by omega) q48; have hr48 := Kd.F_cut (m := (1 : Int).toNat) (c := co45) hC48 (by omega) hroom48; obtain ⟨A48, hA48⟩ : ∃ z_, z_ = (if co45 = (1 : Int).toNat then Ao45 else (Ao45 : Option Addr).map (·.add ((1 : Int).toNat * 2))) := ⟨_, rfl⟩; obtain ⟨c48, hc48⟩ : ∃ z_, z_ = co45 - (1 : Int).toNat := ⟨_, rfl⟩; have hy48 : y569.length = t539.length - (1 : Int).toNat := (by rw [Ny569.out, List.length_drop] <;> omega); rw [show (t539).drop (1 : Int).toNat = y569 from Ny569.out.symm] at hr48; replace hr48 : Kd.F k85 _ _ A48 y569.length y569 := (by rw [hA48]; exact hr48); rw [← hy48, ← hA48, ← hc48] at hcut48; have HO573 := Aside0.mk (show Kd.V k85 85 _ w.heap.size _ (.slice A48 y569.length c48) y569 from Kd.V_mk (by rw [hy48, hc48]; exact Nat.sub_le_sub_right hroom48 _) hr48); have HC573 := Aside0.mk (show y569.length ≤ c48 from by rw [hy48, hc48]; exact Nat.sub_le_sub_right hroom48 _); clear hr48 hC48 hroom48 hi048 hsz48 hc48; have KY48 := Aside0.mk hy48; have KA48 := Aside0.mk hA48; clear hy48 hA48; replace q48 := eq_true q48))
  go_ret2
  exact ⟨_, _, rA, rm HO538 (fun _ hk => hk.1), by (with_reducible repeat (first | apply Kd.V_alloc | apply Kd.V_drewN | apply Kd.V_drew)); exact Kd.V_mono HO573.out (fun _ hk => ⟨hk.1, hk.2.1⟩), by exact sI1380 HI0.out, by exact sB1 HB.out (IsS138.ge HI0.out), by exact sK0 HK.out⟩
 rw [if_neg c42] at H
 have c42b0 : (t547 == 3) = false := beq_eq_false_iff_ne.mpr c42
 have c42b1 : (t547 != 3) = true := bne_iff_ne.mpr c42
 simp only [Option.some.injEq, Prod.mk.injEq] at H
 obtain ⟨rfl, rfl, rfl, rfl⟩ := H
 go_enter Try.func82, Try.ntmps82
 go_wp2_with (first | ((with_reducible refine gate_callee (f := 124) rfl ?_); refine gL (some 9) Try.func124 #[.pointer (some ⟨g, 0, none⟩)] ?_; (with_reducible refine (spec_l8Draw.calls k g s0_0 s0_1 s0_2 t536 t539 t542 t543 w0 _ ?_ ?_ A2.out).mono ?_); exact sI1380 HI0.out; exact sB1 HB.out (IsS138.ge HI0.out); rintro e w49 ⟨v537, v540, rfl, ho0, ho1, hi, hb, hk⟩; refine ⟨_, rfl, ?_⟩; have HO538 := Aside0.mk (Kd.R_lower (Kd.R_newM (M := fun k_ => (w.heap.size ≤ k_)) ho0 (keep_size (w := w) (g := g) (row := none) (by exact sK0 HK.out)) (fun k_ h_ => h_)) (keep_size (w := w) (g := g) (row := none) (by exact sK0 HK.out))); have HO541 := Aside0.mk (Kd.N_lower (Kd.N_mono (ok' := fun k_ => (w.heap.size ≤ k_) ∧ some k_ ≠ (v537 : Value).ownBlock ∧ k_ ≠ g) (Kd.S_N (Kd.S_bound (Kd.S_apart' ho1 (Kd.R_typed ho0) (by decide)))) (fun k_ hk_ => ⟨(Nat.le_trans (keep_size (w := w) (g := g) (row := none) (by exact sK0 HK.out)) hk_.2.1), hk_.1.2, (IsS138.fresh (by exact sI1380 HI0.out) k_ hk_.2.1)⟩)) (keep_size (w := w) (g := g) (row := none) (by exact sK0 HK.out))); replace HK := Aside0.mk (KeepBut.trans (by exact sK0 HK.out) hk (.inl rfl)); replace HB := Aside0.mk (hb); replace HI0 := Aside0.mk (hi); (try clear hb); (try clear hk); (try clear hi); (try clear ho0); (try clear ho1); obtain ⟨Ao50, co50, eo50⟩ := Kd.N_slice HO541.out; subst eo50) | ((with_reducible refine gate_callee (f := 84) rfl ?_); refine gL (some 20) Try.func84 #[.pointer (some ⟨g, 0, none⟩), .int .i64 (t539.length : Int)] ?_; (with_reducible refine (spec_l1Below.calls g s0_0 t542 t543 (t539.length : Int) t544 t545 t546 w0 _ ?_ ?_ A6.out).mono ?_); exact sI1380 HI0.out; exact sB1 HB.out (IsS138.ge HI0.out); rintro e w51 ⟨rfl, hi, hb, hk⟩; refine ⟨_, rfl, ?_⟩; have n0_ := Aside0.mk (Kd.R_mono (Kd.R_keep (IsS138.apart (show IsS138 w0 _ g s0_0 t542 t543 from by exact sI1380 HI0.out) (rK HO538) (by decide)) hk (fun _ h => h.2)) (fun _ h => h.1)); have n1_ := Aside0.mk (Kd.N_mono (Kd.N_keep (Kd.N_mono (ok := fun k_ => (((w.heap.size ≤ k_)) ∧ (some k_ ≠ (v537 : Value).ownBlock ∧ k_ ≠ g))) (by (with_reducible repeat (first | apply Kd.N_alloc | apply Kd.N_drewN | apply Kd.N_drew)); exact HO541.out) (fun k_ hk_ => (⟨hk_, hk_.2.2⟩ : _ ∧ k_ ≠ g))) hk (fun _ h => h.2)) (fun _ h => h.1)); have n2_ := Aside0.mk (KeepBut.trans (by exact sK0 HK.out) hk (.inl rfl)); have n3_ := Aside0.mk (hb); have n4_ := Aside0.mk (hi); clear HO538; clear HO541; clear HK; clear HB; clear HI0; have HO538 := n0_; have HO541 := n1_; have HK := n2_; have HB := n3_; have HI0 := n4_; clear n0_ n1_ n2_ n3_ n4_; (try clear hb); (try clear hk); (try clear hi)) | ((with_reducible refine gate_callee (f := 84) rfl ?_); refine gL (some 22) Try.func84 #[.pointer (some ⟨g, 0, none⟩), .int .i64 10] ?_; (with_reducible refine (spec_l1Below.calls g s0_0 t545 t546 10 t547 t548 t549 w0 _ ?_ ?_ A7.out).mono ?_); exact sI1380 HI0.out; exact sB1 HB.out (IsS138.ge HI0.out); rintro e w52 ⟨rfl, hi, hb, hk⟩; refine ⟨_, rfl, ?_⟩; have n0_ := Aside0.mk (Kd.R_mono (Kd.R_keep (IsS138.apart (show IsS138 w0 _ g s0_0 t545 t546 from by exact sI1380 HI0.out) (rK HO538) (by decide)) hk (fun _ h => h.2)) (fun _ h => h.1)); have n1_ := Aside0.mk (Kd.N_mono (Kd.N_keep (Kd.N_mono (ok := fun k_ => (((w.heap.size ≤ k_)) ∧ (some k_ ≠ (v537 : Value).ownBlock ∧ k_ ≠ g))) (by (with_reducible repeat (first | apply Kd.N_alloc | apply Kd.N_drewN | apply Kd.N_drew)); exact HO541.out) (fun k_ hk_ => (⟨hk_, hk_.2.2⟩ : _ ∧ k_ ≠ g))) hk (fun _ h => h.2)) (fun _ h => h.1)); have n2_ := Aside0.mk (KeepBut.trans (by exact sK0 HK.out) hk (.inl rfl)); have n3_ := Aside0.mk (hb); have n4_ := Aside0.mk (hi); clear HO538; clear HO541; clear HK; clear HB; clear HI0; have HO538 := n0_; have HO541 := n1_; have HK := n2_; have HB := n3_; have HI0 := n4_; clear n0_ n1_ n2_ n3_ n4_; (try clear hb); (try clear hk); (try clear hi)))
 go_ret2
 exact ⟨_, _, rA, rm HO538 (fun _ hk => hk.1), Kd.N_V (nm HO541 (fun _ hk => ⟨hk.1, hk.2.1⟩)), by exact sI1380 HI0.out, by exact sB1 HB.out (IsS138.ge HI0.out), by exact sK0 HK.out⟩

/-! ### spec_l9Second: function 143 -/
def spec_l9Second.f (s0_0 : List Int) (s0_1 : Int) (s0_2 : Int) : Option (Int × Int × Int) := (spec_l1Below.f s0_0 s0_1 s0_2 90).bind fun bt574 => ((spec_l1Below.f s0_0 bt574.2.1 bt574.2.2 90).bind fun bt577 => ((spec_l1Below.f s0_0 bt577.2.1 bt577.2.2 90).bind fun bt580 => ((spec_l1Int.f s0_0 bt580.2.1 bt580.2.2 (([bt574.1, bt577.1, bt580.1, 0, 1000000, 1000001, (-1)] : List Int))).bind fun bt586 => (some (bt586.1, bt586.2.1, bt586.2.2)))))
set_option maxHeartbeats 8000000 in
set_option maxRecDepth 100000 in
theorem spec_l9Second.calls (g : Nat) (s0_0 : List Int) (s0_1 : Int) (s0_2 : Int) (r1 : Int) (r2 : Int) (r3 : Int) (w0 w : World) (hI : IsS138 w0 w g s0_0 s0_1 s0_2) (hB : Below w0.heap.size w0 w) (h : spec_l9Second.f s0_0 s0_1 s0_2 = some (r1, r2, r3)) :
  Calls Try.prog 143 #[.pointer (some ⟨g, 0, none⟩)] w fun e w' => e = .returned (.int .i64 r1) ∧ IsS138 w0 w' g s0_0 r2 r3 ∧ Below w0.heap.size w0 w' ∧ KeepBut w w' g none := by
 have HI0 := Aside0.mk hI
 have HK := Aside0.mk (KeepBut.refl w g none)
 have HL := Aside0.mk hB.size
 clear hI
 have HW0 := Aside0.mk hB.size
 have HB := Aside0.mk hB
 clear hB
 have H : ((spec_l1Below.f s0_0 s0_1 s0_2 90).bind fun bt574 => ((spec_l1Below.f s0_0 bt574.2.1 bt574.2.2 90).bind fun bt577 => ((spec_l1Below.f s0_0 bt577.2.1 bt577.2.2 90).bind fun bt580 => ((spec_l1Int.f s0_0 bt580.2.1 bt580.2.2 (([bt574.1, bt577.1, bt580.1, 0, 1000000, 1000001, (-1)] : List Int))).bind fun bt586 => (some (bt586.1, bt586.2.1, bt586.2.2)))))) = some (r1, r2, r3) := h
 clear h
 obtain ⟨⟨t574, t575, t576⟩, A2, H⟩ := bindE H
 try dsimp only at H
 obtain ⟨⟨t577, t578, t579⟩, A3, H⟩ := bindE H
 try dsimp only at H
 obtain ⟨⟨t580, t581, t582⟩, A4, H⟩ := bindE H
 try dsimp only at H
 obtain ⟨y583, hy583⟩ : ∃ y_ : List Int, y_ = (([t574, t577, t580, 0, 1000000, 1000001, (-1)] : List Int)) := ⟨_, rfl⟩
 replace H : ((spec_l1Int.f s0_0 t581 t582 y583).bind fun bt586 => (some (bt586.1, bt586.2.1, bt586.2.2))) = some (r1, r2, r3) := rH H hy583
 have Ny583 := Aside0.mk hy583
 clear hy583
 obtain ⟨⟨t586, t587, t588⟩, A5, H⟩ := bindE H
 try dsimp only at H
 simp only [Option.some.injEq, Prod.mk.injEq] at H
 obtain ⟨rfl, rfl, rfl⟩ := H
 go_enter Try.func143, Try.ntmps143
 go_wp2_with (first | ((with_reducible refine gate_callee (f := 84) rfl ?_); refine gL (some 5) Try.func84 #[.pointer (some ⟨g, 0, none⟩), .int .i64 90] ?_; (with_reducible refine (spec_l1Below.calls g s0_0 s0_1 s0_2 90 t574 t575 t576 w0 _ ?_ ?_ A2.out).mono ?_); exact sI1380 HI0.out; exact sB1 HB.out (IsS138.ge HI0.out); rintro e w6 ⟨rfl, hi, hb, hk⟩; refine ⟨_, rfl, ?_⟩; replace HK := Aside0.mk (KeepBut.trans (by exact sK0 HK.out) hk (.inl rfl)); replace HB := Aside0.mk (hb); replace HI0 := Aside0.mk (hi); (try clear hb); (try clear hk); (try clear hi)) | ((with_reducible refine gate_callee (f := 84) rfl ?_); refine gL (some 7) Try.func84 #[.pointer (some ⟨g, 0, none⟩), .int .i64 90] ?_; (with_reducible refine (spec_l1Below.calls g s0_0 t575 t576 90 t577 t578 t579 w0 _ ?_ ?_ A3.out).mono ?_); exact sI1380 HI0.out; exact sB1 HB.out (IsS138.ge HI0.out); rintro e w7 ⟨rfl, hi, hb, hk⟩; refine ⟨_, rfl, ?_⟩; replace HK := Aside0.mk (KeepBut.trans (by exact sK0 HK.out) hk (.inl rfl)); replace HB := Aside0.mk (hb); replace HI0 := Aside0.mk (hi); (try clear hb); (try clear hk); (try clear hi)) | ((with_reducible refine gate_callee (f := 84) rfl ?_); refine gL (some 9) Try.func84 #[.pointer (some ⟨g, 0, none⟩), .int .i64 90] ?_; (with_reducible refine (spec_l1Below.calls g s0_0 t578 t579 90 t580 t581 t582 w0 _ ?_ ?_ A4.out).mono ?_); exact sI1380 HI0.out; exact sB1 HB.out (IsS138.ge HI0.out); rintro e w8 ⟨rfl, hi, hb, hk⟩; refine ⟨_, rfl, ?_⟩; replace HK := Aside0.mk (KeepBut.trans (by exact sK0 HK.out) hk (.inl rfl)); replace HB := Aside0.mk (hb); replace HI0 := Aside0.mk (hi); (try clear hb); (try clear hk); (try clear hi)) | ((with_reducible refine gate_dst (N := 10) rfl ?_); refine Kd.R_lit (Kd.int .i64) _ 3 ?hg (N := 10) ?hd (xs := ([t574, t577, t580, 0, 1000000, 1000001, (-1)] : List Int)) (inner := [.int .i64 t574, .int .i64 t577, .int .i64 t580, .int .i64 0, .int .i64 1000000, .int .i64 1000001, .int .i64 (-1)]) (ok := fun _ => True) (okp := fun _ => True) ?hr ?hp (fun _ hk => hk) trivial (Below.refl _ _) (Nat.le_refl _) (by simp) ?_; (case hd => rfl); (case hg => rfl); (case hr => first | (go_simp; done) | (go_simp; rfl)); (case hp => exact (Reps.one (show Kd.M (Kd.int .i64) _ _ _ t574 [.int .i64 t574] from rfl) (Reps.one (show Kd.M (Kd.int .i64) _ _ _ t577 [.int .i64 t577] from rfl) (Reps.one (show Kd.M (Kd.int .i64) _ _ _ t580 [.int .i64 t580] from rfl) (Reps.one (show Kd.M (Kd.int .i64) _ _ _ 0 [.int .i64 0] from rfl) (Reps.one (show Kd.M (Kd.int .i64) _ _ _ 1000000 [.int .i64 1000000] from rfl) (Reps.one (show Kd.M (Kd.int .i64) _ _ _ 1000001 [.int .i64 1000001] from rfl) (Reps.one (show Kd.M (Kd.int .i64) _ _ _ (-1) [.int .i64 (-1)] from rfl) (Reps.none _ _))))))))); intro v584 w9 ho10 hb hg_ hnew_; clear hg_ hnew_; (first | rw [← Ny583.out] at ho10 | (simp only [Int.reduceToNat] at ho10; rw [← Ny583.out] at ho10)); have HO585 := Aside0.mk (Kd.R_lower ho10 (keep_size (w := w) (g := g) (row := none) (by exact sK0 HK.out))); replace HK := Aside0.mk (KeepBut.trans (by exact sK0 HK.out) (KeepBut.of_below hb g none) (.inl rfl)); replace HB := Aside0.mk (below_step (by exact sB1 HB.out (IsS138.ge HI0.out)) hb); replace HI0 := Aside0.mk (IsS138.below (by exact sI1380 HI0.out) hb); clear hb ho10; obtain ⟨Ao11, co11, eo11⟩ := Kd.R_slice HO585.out; subst eo11) | ((with_reducible refine gate_callee (f := 94) rfl ?_); refine gL (some 11) Try.func94 #[.pointer (some ⟨g, 0, none⟩), .slice Ao11 y583.length co11] ?_; (with_reducible refine (spec_l1Int.calls g s0_0 t581 t582 _ _ y583 t586 t587 t588 w0 _ ?_ ?_ ?_ ?_ ?_ A5.out).mono ?_); exact sI1380 HI0.out; exact sB1 HB.out (IsS138.ge HI0.out); exact cO ⟨(Kd.R_reads' HO585.out).2.2⟩; exact (Kd.R_reads' HO585.out).2.1; exact far_slice (IsS138.own_ne HI0.out HO585.out (by decide)); rintro e w12 ⟨rfl, hi, hb, hk⟩; refine ⟨_, rfl, ?_⟩; replace HO585 := Aside0.mk (Kd.R_mono (Kd.R_keep (IsS138.apart (show IsS138 w0 _ g s0_0 t581 t582 from by exact sI1380 HI0.out) (rK HO585) (by decide)) hk (fun _ h => h.2)) (fun _ h => h.1)); replace HK := Aside0.mk (KeepBut.trans (by exact sK0 HK.out) hk (.inl rfl)); replace HB := Aside0.mk (hb); replace HI0 := Aside0.mk (hi); (try clear hb); (try clear hk); (try clear hi)))
 go_ret
 exact ⟨rA, by exact sI1380 HI0.out, by exact sB1 HB.out (IsS138.ge HI0.out), by exact sK0 HK.out⟩

/-! ### spec_DrawLightAt: function 110 -/
def spec_DrawLightAt.f (k : Nat) (l0 : List Int) : Option ((List (S50)) × (List (S85)) × Int × Int) := (spec_l1New.f k l0).bind fun bt589 => ((spec_l8Any.f k bt589.1 bt589.2.1 bt589.2.2).bind fun bt593 => ((spec_l9Second.f bt589.1 bt593.2.2.1 bt593.2.2.2).bind fun bt601 => ((spec_l1Below.f bt589.1 bt601.2.1 bt601.2.2 9).bind fun bt604 => (some (bt593.1, bt593.2.1, bt601.1, bt604.1)))))
theorem spec_DrawLightAt.mono : ∀ a0 k, LeO (spec_DrawLightAt.f k a0) (spec_DrawLightAt.f (k + 1) a0) := by
 intro a0 k
 unfold spec_DrawLightAt.f
 exact mz2 spec_l1New.mono spec_l8Any.mono
set_option maxHeartbeats 8000000 in
set_option maxRecDepth 100000 in
theorem spec_DrawLightAt.calls (k : Nat) (A0 : Option Addr) (c0 : Nat) (l0 : List Int) (r1 : List (S50)) (r2 : List (S85)) (r3 : Int) (r4 : Int) (w : World) (hr0 : Kd.C (Kd.int .u8) w A0 l0.length l0) (hc0 : l0.length ≤ c0) (h : spec_DrawLightAt.f k l0 = some (r1, r2, r3, r4)) :
  Calls Try.prog 110 #[.slice A0 l0.length c0] w fun e w' => ∃ v0_ v1_ : Value, e = .returned (.tuple #[v0_, v1_, .int .i64 r3, .int .i64 r4]) ∧ Kd.R k50 50 w' w.heap.size (fun k_ => (w.heap.size ≤ k_)) v0_ r1 ∧ Kd.V k85 85 w' w.heap.size (fun k_ => (w.heap.size ≤ k_) ∧ some k_ ≠ (v0_ : Value).ownBlock) v1_ r2 ∧ Below w.heap.size w w' := by
 have HR0 := Aside0.mk hr0
 have HC0 := Aside0.mk hc0
 clear hr0 hc0
 have HB := Aside0.mk (Below.refl w.heap.size w)
 have H : ((spec_l1New.f k l0).bind fun bt589 => ((spec_l8Any.f k bt589.1 bt589.2.1 bt589.2.2).bind fun bt593 => ((spec_l9Second.f bt589.1 bt593.2.2.1 bt593.2.2.2).bind fun bt601 => ((spec_l1Below.f bt589.1 bt601.2.1 bt601.2.2 9).bind fun bt604 => (some (bt593.1, bt593.2.1, bt601.1, bt604.1)))))) = some (r1, r2, r3, r4) := h
 clear h
 obtain ⟨⟨t589, t590, t591⟩, A2, H⟩ := bindE H
 try dsimp only at H
 obtain ⟨⟨t593, t596, t599, t600⟩, A3, H⟩ := bindE H
 try dsimp only at H
 obtain ⟨⟨t601, t602, t603⟩, A4, H⟩ := bindE H
 try dsimp only at H
 obtain ⟨⟨t604, t605, t606⟩, A5, H⟩ := bindE H
 try dsimp only at H
 simp only [Option.some.injEq, Prod.mk.injEq] at H
 obtain ⟨rfl, rfl, rfl, rfl⟩ := H
 go_enter Try.func110, Try.ntmps110
 go_wp2_with (first | ((with_reducible refine gate_callee (f := 81) rfl ?_); refine gL (some 11) Try.func81 #[.slice A0 l0.length c0] ?_; (with_reducible refine (spec_l1New.calls k _ _ l0 t589 t590 t591 w _ ?_ ?_ ?_ A2.out).mono ?_); exact sB0 HB.out; exact HR0.out; exact HC0.out; rintro e w6 ⟨g592, rfl, hi, hb, hb2, -⟩; refine ⟨_, rfl, ?_⟩; replace HB := Aside0.mk (hb); have HI592 := Aside0.mk (hi); (try clear hb); (try clear hb2); (try clear hi)) | ((with_reducible refine gate_callee (f := 82) rfl ?_); refine gL (some 14) Try.func82 #[.pointer (some ⟨g592, 0, none⟩)] ?_; (with_reducible refine (spec_l8Any.calls k g592 t589 t590 t591 t593 t596 t599 t600 w _ ?_ ?_ A3.out).mono ?_); exact sI1380 HI592.out; exact sB1 HB.out (IsS138.ge HI592.out); rintro e w7 ⟨v594, v597, rfl, ho0, ho1, hi, hb, hk⟩; refine ⟨_, rfl, ?_⟩; have n0_ := Aside0.mk (Kd.R_lower (Kd.R_newM (M := fun k_ => (w.heap.size ≤ k_)) (Kd.R_mono (ok' := fun k_ => True) ho0 (fun _ hk_ => trivial)) (below_size (by exact sB1 HB.out (IsS138.ge HI592.out))) (fun k_ h_ => h_)) (below_size (by exact sB1 HB.out (IsS138.ge HI592.out)))); have n1_ := Aside0.mk (Kd.V_lower (Kd.V_mono (ok' := fun k_ => (w.heap.size ≤ k_) ∧ some k_ ≠ (v594 : Value).ownBlock ∧ k_ ≠ g592) ho1 (fun k_ hk_ => ⟨(Nat.le_trans (below_size (by exact sB1 HB.out (IsS138.ge HI592.out))) hk_.1), hk_.2, (IsS138.fresh (by exact sI1380 HI592.out) k_ hk_.1)⟩)) (below_size (by exact sB1 HB.out (IsS138.ge HI592.out)))); have n2_ := Aside0.mk (hb); have n3_ := Aside0.mk (hi); clear HB; clear HI592; have HO595 := n0_; have HO598 := n1_; have HB := n2_; have HI592 := n3_; clear n0_ n1_ n2_ n3_; (try clear hb); (try clear hk); (try clear hi); (try clear ho0); (try clear ho1)) | ((with_reducible refine gate_callee (f := 143) rfl ?_); refine gL (some 18) Try.func143 #[.pointer (some ⟨g592, 0, none⟩)] ?_; (with_reducible refine (spec_l9Second.calls g592 t589 t599 t600 t601 t602 t603 w _ ?_ ?_ A4.out).mono ?_); exact sI1380 HI592.out; exact sB1 HB.out (IsS138.ge HI592.out); rintro e w8 ⟨rfl, hi, hb, hk⟩; refine ⟨_, rfl, ?_⟩; have n0_ := Aside0.mk (Kd.R_mono (Kd.R_keep (IsS138.apart (show IsS138 w _ g592 t589 t599 t600 from by exact sI1380 HI592.out) (rK HO595) (by decide)) hk (fun _ h => h.2)) (fun _ h => h.1)); have n1_ := Aside0.mk (Kd.V_mono (Kd.V_keep (Kd.V_mono (ok := fun k_ => (((w.heap.size ≤ k_)) ∧ (some k_ ≠ (v594 : Value).ownBlock ∧ k_ ≠ g592))) (by (with_reducible repeat (first | apply Kd.V_alloc | apply Kd.V_drewN | apply Kd.V_drew)); exact HO598.out) (fun k_ hk_ => (⟨hk_, hk_.2.2⟩ : _ ∧ k_ ≠ g592))) hk (fun _ h => h.2)) (fun _ h => h.1)); have n2_ := Aside0.mk (hb); have n3_ := Aside0.mk (hi); clear HO595; clear HO598; clear HB; clear HI592; have HO595 := n0_; have HO598 := n1_; have HB := n2_; have HI592 := n3_; clear n0_ n1_ n2_ n3_; (try clear hb); (try clear hk); (try clear hi)) | ((with_reducible refine gate_callee (f := 84) rfl ?_); refine gL (some 23) Try.func84 #[.pointer (some ⟨g592, 0, none⟩), .int .i64 9] ?_; (with_reducible refine (spec_l1Below.calls g592 t589 t602 t603 9 t604 t605 t606 w _ ?_ ?_ A5.out).mono ?_); exact sI1380 HI592.out; exact sB1 HB.out (IsS138.ge HI592.out); rintro e w9 ⟨rfl, hi, hb, hk⟩; refine ⟨_, rfl, ?_⟩; have n0_ := Aside0.mk (Kd.R_mono (Kd.R_keep (IsS138.apart (show IsS138 w _ g592 t589 t602 t603 from by exact sI1380 HI592.out) (rK HO595) (by decide)) hk (fun _ h => h.2)) (fun _ h => h.1)); have n1_ := Aside0.mk (Kd.V_mono (Kd.V_keep (Kd.V_mono (ok := fun k_ => (((w.heap.size ≤ k_)) ∧ (some k_ ≠ (v594 : Value).ownBlock ∧ k_ ≠ g592))) (by (with_reducible repeat (first | apply Kd.V_alloc | apply Kd.V_drewN | apply Kd.V_drew)); exact HO598.out) (fun k_ hk_ => (⟨hk_, hk_.2.2⟩ : _ ∧ k_ ≠ g592))) hk (fun _ h => h.2)) (fun _ h => h.1)); have n2_ := Aside0.mk (hb); have n3_ := Aside0.mk (hi); clear HO595; clear HO598; clear HB; clear HI592; have HO595 := n0_; have HO598 := n1_; have HB := n2_; have HI592 := n3_; clear n0_ n1_ n2_ n3_; (try clear hb); (try clear hk); (try clear hi)))
 refine bodyPost_ret (results_list (rs := [.tmp 2, .tmp 3, .tmp 4, .tmp 5]) rfl (by simp) (.tmp (.tmp (.tmp (.tmp .nil))))) rfl ?_
 exact ⟨_, _, rA, rm HO595 (fun _ hk => hk.1), by (with_reducible repeat (first | apply Kd.V_alloc | apply Kd.V_drewN | apply Kd.V_drew)); exact Kd.V_mono HO598.out (fun _ hk => ⟨hk.1, hk.2.1⟩), by exact sB1 HB.out (IsS138.ge HI592.out)⟩

/-! ### spec_DrawLightsAt: function 59 -/
def spec_DrawLightsAt.f (k : Nat) (l0 : List Int) : Option ((List (S50)) × (List (S85)) × Int) := (spec_DrawLightAt.f k l0).bind fun bt607 => (some (bt607.1, bt607.2.1, bt607.2.2.1))
theorem spec_DrawLightsAt.mono : ∀ a0 k, LeO (spec_DrawLightsAt.f k a0) (spec_DrawLightsAt.f (k + 1) a0) := by
 intro a0 k
 unfold spec_DrawLightsAt.f
 exact mz1 spec_DrawLightAt.mono
set_option maxHeartbeats 8000000 in
set_option maxRecDepth 100000 in
theorem spec_DrawLightsAt.calls (k : Nat) (A0 : Option Addr) (c0 : Nat) (l0 : List Int) (r1 : List (S50)) (r2 : List (S85)) (r3 : Int) (w : World) (hr0 : Kd.C (Kd.int .u8) w A0 l0.length l0) (hc0 : l0.length ≤ c0) (h : spec_DrawLightsAt.f k l0 = some (r1, r2, r3)) :
  Calls Try.prog 59 #[.slice A0 l0.length c0] w fun e w' => ∃ v0_ v1_ : Value, e = .returned (.tuple #[v0_, v1_, .int .i64 r3]) ∧ Kd.R k50 50 w' w.heap.size (fun k_ => (w.heap.size ≤ k_)) v0_ r1 ∧ Kd.V k85 85 w' w.heap.size (fun k_ => (w.heap.size ≤ k_) ∧ some k_ ≠ (v0_ : Value).ownBlock) v1_ r2 ∧ Below w.heap.size w w' := by
 have HR0 := Aside0.mk hr0
 have HC0 := Aside0.mk hc0
 clear hr0 hc0
 have HB := Aside0.mk (Below.refl w.heap.size w)
 have H : ((spec_DrawLightAt.f k l0).bind fun bt607 => (some (bt607.1, bt607.2.1, bt607.2.2.1))) = some (r1, r2, r3) := h
 clear h
 obtain ⟨⟨t607, t610, t613, t614⟩, A2, H⟩ := bindE H
 try dsimp only at H
 simp only [Option.some.injEq, Prod.mk.injEq] at H
 obtain ⟨rfl, rfl, rfl⟩ := H
 go_enter Try.func59, Try.ntmps59
 go_wp2_with (first | ((with_reducible refine gate_callee (f := 110) rfl ?_); refine gL (some 11) Try.func110 #[.slice A0 l0.length c0] ?_; (with_reducible refine (spec_DrawLightAt.calls k _ _ l0 t607 t610 t613 t614 _ ?_ ?_ A2.out).mono ?_); exact cO HR0; exact HC0.out; rintro e w3 ⟨v608, v611, rfl, ho0, ho1, hb⟩; refine ⟨_, rfl, ?_⟩; have HO609 := rl w (Kd.R_newM (M := fun k_ => (w.heap.size ≤ k_)) (Kd.R_mono (ok' := fun k_ => True) ho0 (fun _ hk_ => trivial)) (below_size bA) (fun k_ h_ => h_)); have HO612 := Aside0.mk (Kd.V_lower (Kd.V_mono (ok' := fun k_ => (w.heap.size ≤ k_) ∧ some k_ ≠ (v608 : Value).ownBlock) ho1 (fun k_ hk_ => ⟨(Nat.le_trans (below_size bA) hk_.1), hk_.2⟩)) (below_size bA)); replace HB := bs HB hb; (try clear hb); (try clear ho0); (try clear ho1)))
 go_ret3
 exact ⟨_, _, rA, rm HO609 (fun _ hk => hk.1), by (with_reducible repeat (first | apply Kd.V_alloc | apply Kd.V_drewN | apply Kd.V_drew)); exact HO612.out, bA⟩

/-! ### impl_LightsAt: function 60 -/
def impl_LightsAt.l0 : Nat → List (S50) → List (S85) → Int → List Int → List (S50) → Int → Int → Option (List Int)
 | 0, _, _, _, _, _, _, _ => none
 | k + 1, x0, x1, x2, x7, x11, x12, x13 => if x13 < x12 then (if 0 ≤ x13 then (if x13 < (x11.length : Int) then ((impl_LightAt.f k x0 x1 x2 ((rd_T50 x11 x13).f0)).bind fun t620 => (if x7.length < 17592186044416 then (impl_LightsAt.l0 k x0 x1 x2 (x7 ++ [t620]) x11 x12 (wrap64 (x13 + 1))) else (none))) else (none)) else (none)) else (some x7)
def impl_LightsAt.f (k : Nat) (l0 : List (S50)) (l1 : List (S85)) (a2 : Int) : Option (List Int) := impl_LightsAt.l0 k l0 l1 a2 (([] : List Int)) l0 (l0.length : Int) 0
theorem impl_LightsAt.mono_l : ∀ k, (∀ y0 y1 y2 y3 y4 y5 y6, LeO (impl_LightsAt.l0 k y0 y1 y2 y3 y4 y5 y6) (impl_LightsAt.l0 (k + 1) y0 y1 y2 y3 y4 y5 y6))
 | 0 => fun _ _ _ _ _ _ _ r h => by simp [impl_LightsAt.l0] at h
 | k + 1 => by
  have ih0 := impl_LightsAt.mono_l k
  ·
   intro y0 y1 y2 y3 y4 y5 y6
   unfold impl_LightsAt.l0
   exact mz2 ih0 impl_LightAt.mono
theorem impl_LightsAt.mono : ∀ a0 a1 a2 k, LeO (impl_LightsAt.f k a0 a1 a2) (impl_LightsAt.f (k + 1) a0 a1 a2) := by
 intro a0 a1 a2 k
 have ih0 := impl_LightsAt.mono_l k
 unfold impl_LightsAt.f
 exact mz2 ih0 impl_LightAt.mono
set_option maxHeartbeats 8000000 in
set_option maxRecDepth 100000 in
theorem impl_LightsAt.calls (k : Nat) (A0 : Option Addr) (c0 : Nat) (l0 : List (S50)) (A1 : Option Addr) (c1 : Nat) (l1 : List (S85)) (a2 : Int) (r : List Int) (w : World) (hr0 : Kd.C k50 w A0 l0.length l0) (hc0 : l0.length ≤ c0) (hr1 : Kd.C k85 w A1 l1.length l1) (hc1 : l1.length ≤ c1) (h : impl_LightsAt.f k l0 l1 a2 = some r) :
  Calls Try.prog 60 #[.slice A0 l0.length c0, .slice A1 l1.length c1, .int .i64 a2] w fun e w' => ∃ v0_ : Value, e = .returned (v0_) ∧ Kd.R (Kd.int .i64) 3 w' w.heap.size (fun _ => True) v0_ r ∧ Below w.heap.size w w' := by
 have hu50 := Try.underlying50
 have HR0 := Aside0.mk hr0
 have HC0 := Aside0.mk hc0
 clear hr0 hc0
 have HR1 := Aside0.mk hr1
 have HC1 := Aside0.mk hc1
 clear hr1 hc1
 have HB := Aside0.mk (Below.refl w.heap.size w)
 have H : (impl_LightsAt.l0 k l0 l1 a2 (([] : List Int)) l0 (l0.length : Int) 0) = some r := h
 clear h
 obtain ⟨y615, hy615⟩ : ∃ y_ : List Int, y_ = (([] : List Int)) := ⟨_, rfl⟩
 replace H : (impl_LightsAt.l0 k l0 l1 a2 y615 l0 (l0.length : Int) 0) = some r := rH H hy615
 have Ny615 := Aside0.mk hy615
 clear hy615
 have H' := Aside0.mk H
 clear H
 go_enter Try.func60, Try.ntmps60
 go_wp2_with (first | ((with_reducible refine gate_dst (N := 10) rfl ?_); refine Kd.R_lit (Kd.int .i64) _ 3 ?hg (N := 10) ?hd (xs := ([] : List Int)) (inner := []) (ok := fun _ => True) (okp := fun _ => True) ?hr ?hp (fun _ hk => hk) trivial (Below.refl _ _) (Nat.le_refl _) (by simp) ?_; (case hd => rfl); (case hg => rfl); (case hr => first | (go_simp; done) | (go_simp; rfl)); (case hp => exact (Reps.none _ _)); intro v616 w4 ho5 hb hg_ hnew_; clear hg_ hnew_; (first | rw [← Ny615.out] at ho5 | (simp only [Int.reduceToNat] at ho5; rw [← Ny615.out] at ho5)); have HO617 := rl w ho5; replace HB := bs HB hb; clear hb ho5))
 go_loopg [7, 13] k (fun kq v7 v13 w' => ∃ (x7_1 : List Int) (x13_1 : Int), v13 = .int .i64 x13_1 ∧ Aside0 (impl_LightsAt.l0 kq l0 l1 a2 x7_1 l0 (l0.length : Int) x13_1 = some r) ∧ Aside0 (kq ≤ k) ∧ Aside0 (Kd.R (Kd.int .i64) 3 w' w.heap.size (fun _ => True) v7 x7_1) ∧ Aside0 (Below w.heap.size w w'))
 case atStart => exact ⟨(y615), (0), rS, H', ⟨Nat.le_refl _⟩, ⟨rK HO617⟩, ⟨bA⟩⟩
 case round =>
  clear H'
  obtain ⟨x7_1, x13_1, rfl, HA, HK1, HO_7, HB⟩ := hrel
  cases gk with
  | zero => exact absurd HA.out (by simp [impl_LightsAt.l0])
  | succ k1 =>
   have H := HA.out
   clear HA
   simp only [impl_LightsAt.l0] at H
   by_cases c6 : x13_1 < (l0.length : Int)
   ·
    rw [if_pos c6] at H
    have c6b0 := decide_eq_true c6
    clear c6
    have c7 : 0 ≤ x13_1 := ifN H
    replace H := ifT H
    have c7b0 := decide_eq_true c7
    clear c7
    have c8 : x13_1 < (l0.length : Int) := ifN H
    replace H := ifT H
    have c8b0 := decide_eq_true c8
    clear c8
    obtain ⟨t620, A9, H⟩ := bindE H
    try dsimp only at H
    have c10 : x7_1.length < 17592186044416 := ifN H
    replace H := ifT H
    have LMc10 := Aside0.mk c10
    clear c10
    obtain ⟨y621, hy621⟩ : ∃ y_ : List Int, y_ = (x7_1 ++ [t620]) := ⟨_, rfl⟩
    replace H : (impl_LightsAt.l0 k1 l0 l1 a2 y621 l0 (l0.length : Int) (wrap64 (x13_1 + 1))) = some r := rH H hy621
    have Ny621 := Aside0.mk hy621
    clear hy621
    have H' := Aside0.mk H
    clear H
    obtain ⟨p618, q618⟩ : 0 ≤ (x13_1 : Int) ∧ x13_1 < (l0.length : Int) := ⟨dA, dA⟩
    obtain ⟨ad618, e618, hx618_0, hx618_1, hx618_2, hx618_3⟩ := at_T50 (Kd.C_below HR0.out HB.out) x13_1 p618 q618
    cases e618
    obtain ⟨p618, q618⟩ := eT p618 q618
    go_wp2_with (first | ((with_reducible refine gate_dst (N := 9) rfl ?_); refine bE (N := 9) (cs := #[.int .i64 0, .int .i64 0, .int .i64 0, .int .i64 0]) (t := 50) ?_; intro gb619 hg w11 hbox hb; replace HO_7 := rb HO_7 hb; have BK619 := Aside0.mk (hbox); have GW619 := gw w hg; have GE619 := gw w hg; replace HB := bs HB hb; clear hb hbox hg; obtain ⟨_, _, _, _, _, _, _, _⟩ := blkc4 BK619) | ((with_reducible refine gate_callee (f := 14) rfl ?_); refine gL (some 23) Try.func14 #[.slice (some ad618) l0.length c0, .slice A1 l1.length c1, .int .i64 a2, .int .i64 ((rd_T50 l0 x13_1).f0)] ?_; (with_reducible refine (impl_LightAt.calls k1 _ _ l0 _ _ l1 a2 ((rd_T50 l0 x13_1).f0) t620 _ ?_ ?_ ?_ ?_ A9.out).mono ?_); exact Kd.C_below HR0.out bG; exact HC0.out; exact Kd.C_below HR1.out bG; exact HC1.out; rintro e w13 ⟨rfl, hb⟩; refine ⟨_, rfl, ?_⟩; replace HO_7 := Aside0.mk (Kd.R_below (rf HO_7 BK619) hb); replace BK619 := kc (o := .cells #[.int .i64 ((rd_T50 l0 x13_1).f0), .int .i64 ((rd_T50 l0 x13_1).f1), .int .i64 ((rd_T50 l0 x13_1).f2), .int .i64 ((rd_T50 l0 x13_1).f3)] 50 (0, 0)) (kp BK619) hb; replace HB := bs HB hb; (try clear hb)) | ((with_reducible refine gate_builtin (b := .append) (xs := #[.tmp 17, .tmp 24]) rfl ?_); at_builtin; refine Kd.R_append (Kd.int .i64) (w0 := w) w.heap.size rfl (.tmp 17) (.tmp 24) 35 3 (.int .i64 0) 8 rfl Try.underlying35 info3 rfl (by decide) (by omega) u7 x7_1 t620 [.int .i64 t620] (fun _ => True) (fun _ => False) rfl rfl ?aP (fun _ hk => hk.elim) ?aF ?aO ?aB ?aS ?aL ?_; (case aP => exact rfl); (case aB => exact bG); (case aF => exact (fun _ _ => trivial)); (case aO => exact (rK HO_7)); (case aS => exact (below_size bG)); (case aL => have := LMc10.out; omega); intro v622 w14 ho hb hg hat; rw [← Ny621.out] at ho; have n0_ := Aside0.mk (blk_grown (g := gb619) (o := .cells #[.int .i64 ((rd_T50 l0 x13_1).f0), .int .i64 ((rd_T50 l0 x13_1).f1), .int .i64 ((rd_T50 l0 x13_1).f2), .int .i64 ((rd_T50 l0 x13_1).f3)] 50 (0, 0)) (bK BK619) hg (Kd.R_ne HO_7.out BK619.out (by decide))); have n1_ := Aside0.mk (hb); have n2_ := Aside0.mk (ho); clear BK619; clear HB; clear HO_7; have BK619 := n0_; have HB := n1_; have HO623 := n2_; clear n0_ n1_ n2_; clear ho hb hg hat))
    go_roundg k1
    case measure => have := HK1.out; omega
    case rel => exact ⟨(y621), (wrap64 (x13_1 + 1)), rS, H', ⟨by have := HK1.out; omega⟩, ⟨rK HO623⟩, ⟨bG⟩⟩
   rw [if_neg c6] at H
   have c6b0 := decide_eq_false c6
   clear c6
   obtain rfl := Option.some.inj H
   go_wp2
   go_ret
   exact ⟨_, rA, rK HO_7, bA⟩

/-! ### impl_StartOf: function 63 -/
mutual
def impl_StartOf.j0 : Nat → List (S50) → List (S85) → Int → Bool → Option (Int)
 | 0, _, _, _, _ => none
 | k + 1, x0, x1, x2, x22 => if x22 = true then (some (-1)) else (impl_StartOf.l0 k x0 x1 0 x2 0)
def impl_StartOf.l0 : Nat → List (S50) → List (S85) → Int → Int → Int → Option (Int)
 | 0, _, _, _, _, _ => none
 | k + 1, x0, x1, x7, x23, x24 => if x24 < x23 then ((impl_longOf.f k x0 x1 x24).bind fun t625 => (impl_StartOf.l0 k x0 x1 (wrap64 (x7 + t625)) x23 (wrap64 (x24 + 1)))) else (some x7)
end
def impl_StartOf.f (k : Nat) (l0 : List (S50)) (l1 : List (S85)) (a2 : Int) : Option (Int) := (impl_IsPlan.f k l0 l1).bind fun t624 => (if t624 = true then (if a2 < 0 then (impl_StartOf.j0 k l0 l1 a2 true) else (impl_StartOf.j0 k l0 l1 a2 (decide (a2 ≥ (l1.length : Int))))) else (impl_StartOf.j0 k l0 l1 a2 true))
theorem impl_StartOf.mono_l : ∀ k, (∀ y0 y1 y2 y3, LeO (impl_StartOf.j0 k y0 y1 y2 y3) (impl_StartOf.j0 (k + 1) y0 y1 y2 y3)) ∧ (∀ y0 y1 y2 y3 y4, LeO (impl_StartOf.l0 k y0 y1 y2 y3 y4) (impl_StartOf.l0 (k + 1) y0 y1 y2 y3 y4))
 | 0 => ⟨fun _ _ _ _ r h => by simp [impl_StartOf.j0] at h, fun _ _ _ _ _ r h => by simp [impl_StartOf.l0] at h⟩
 | k + 1 => by
  obtain ⟨ih0, ih1⟩ := impl_StartOf.mono_l k
  refine ⟨?_, ?_⟩
  ·
   intro y0 y1 y2 y3
   unfold impl_StartOf.j0
   exact mz4 ih0 ih1 impl_IsPlan.mono impl_longOf.mono
  ·
   intro y0 y1 y2 y3 y4
   unfold impl_StartOf.l0
   exact mz4 ih0 ih1 impl_IsPlan.mono impl_longOf.mono
theorem impl_StartOf.mono : ∀ a0 a1 a2 k, LeO (impl_StartOf.f k a0 a1 a2) (impl_StartOf.f (k + 1) a0 a1 a2) := by
 intro a0 a1 a2 k
 obtain ⟨ih0, ih1⟩ := impl_StartOf.mono_l k
 unfold impl_StartOf.f
 exact mz4 ih0 ih1 impl_IsPlan.mono impl_longOf.mono
set_option maxHeartbeats 8000000 in
set_option maxRecDepth 100000 in
theorem impl_StartOf.calls (k : Nat) (A0 : Option Addr) (c0 : Nat) (l0 : List (S50)) (A1 : Option Addr) (c1 : Nat) (l1 : List (S85)) (a2 : Int) (r : Int) (w : World) (hr0 : Kd.C k50 w A0 l0.length l0) (hc0 : l0.length ≤ c0) (hr1 : Kd.C k85 w A1 l1.length l1) (hc1 : l1.length ≤ c1) (h : impl_StartOf.f k l0 l1 a2 = some r) :
  Calls Try.prog 63 #[.slice A0 l0.length c0, .slice A1 l1.length c1, .int .i64 a2] w fun e w' => e = .returned (.int .i64 r) ∧ Below w.heap.size w w' := by
 have HR0 := Aside0.mk hr0
 have HC0 := Aside0.mk hc0
 clear hr0 hc0
 have HR1 := Aside0.mk hr1
 have HC1 := Aside0.mk hc1
 clear hr1 hc1
 have HB := Aside0.mk (Below.refl w.heap.size w)
 have H : ((impl_IsPlan.f k l0 l1).bind fun t624 => (if t624 = true then (if a2 < 0 then (impl_StartOf.j0 k l0 l1 a2 true) else (impl_StartOf.j0 k l0 l1 a2 (decide (a2 ≥ (l1.length : Int))))) else (impl_StartOf.j0 k l0 l1 a2 true))) = some r := h
 clear h
 have HC4 := Aside0.mk H
 clear H
 go_enter Try.func63, Try.ntmps63
 go_upto_region 1 with (fail)
 go_cut [22] (fun v22 wc => ∃ (kq : Nat) (x22_3 : Bool), v22 = .bool x22_3 ∧ Aside0 (impl_StartOf.j0 kq l0 l1 a2 x22_3 = some r) ∧ Aside0 (kq ≤ k) ∧ Aside0 (Below w.heap.size w wc))
 case first =>
  have H := HC4.out
  clear HC4
  obtain ⟨t624, A5, H⟩ := bindE H
  try dsimp only at H
  by_cases c6 : t624 = true
  ·
   subst c6
   have H1 : (if a2 < 0 then (impl_StartOf.j0 k l0 l1 a2 true) else (impl_StartOf.j0 k l0 l1 a2 (decide (a2 ≥ (l1.length : Int))))) = some r := by rw [if_pos rfl] at H; exact H
   clear H
   have H := H1
   clear H1
   by_cases c7 : a2 < 0
   ·
    rw [if_pos c7] at H
    have c7b0 := decide_eq_true c7
    clear c7
    (first | rw [c7b0] | (simp only [i64_w, i32_w]; rw [c7b0]) | skip)
    have H' := Aside0.mk H
    clear H
    go_wp2_with (first | ((with_reducible refine gate_callee (f := 15) rfl ?_); refine gL (some 11) Try.func15 #[.slice A0 l0.length c0, .slice A1 l1.length c1] ?_; (with_reducible refine (impl_IsPlan.calls k _ _ l0 (fun k_ => k_ < w.heap.size) _ _ l1 true _ ?_ ?_ ?_ A5.out).mono ?_); exact cB HR0; exact HC0.out; exact Kd.V_mk HC1.out (Kd.F_below (Kd.C_F k85_heap HR1.out) bA); rintro e w8 ⟨rfl, hb⟩; refine ⟨_, rfl, ?_⟩; replace HB := bs HB hb; (try clear hb)))
    go_meet
    case rel => exact ⟨_, (true), rS, H', ⟨oL⟩, ⟨bA⟩⟩
   rw [if_neg c7] at H
   have c7b0 := decide_eq_false c7
   clear c7
   (first | rw [c7b0] | (simp only [i64_w, i32_w]; rw [c7b0]) | skip)
   have H' := Aside0.mk H
   clear H
   go_wp2_with (first | ((with_reducible refine gate_callee (f := 15) rfl ?_); refine gL (some 11) Try.func15 #[.slice A0 l0.length c0, .slice A1 l1.length c1] ?_; (with_reducible refine (impl_IsPlan.calls k _ _ l0 (fun k_ => k_ < w.heap.size) _ _ l1 true _ ?_ ?_ ?_ A5.out).mono ?_); exact cB HR0; exact HC0.out; exact Kd.V_mk HC1.out (Kd.F_below (Kd.C_F k85_heap HR1.out) bA); rintro e w9 ⟨rfl, hb⟩; refine ⟨_, rfl, ?_⟩; replace HB := bs HB hb; (try clear hb)))
   go_meet
   case rel => exact ⟨_, (decide (a2 ≥ (l1.length : Int))), rS, H', ⟨oL⟩, ⟨bA⟩⟩
  replace c6 := Bool.eq_false_iff.mpr c6
  subst c6
  have H1 : (impl_StartOf.j0 k l0 l1 a2 true) = some r := by rw [if_neg (show ¬ (false = true) by decide)] at H; exact H
  clear H
  have H := H1
  clear H1
  have H' := Aside0.mk H
  clear H
  go_wp2_with (first | ((with_reducible refine gate_callee (f := 15) rfl ?_); refine gL (some 11) Try.func15 #[.slice A0 l0.length c0, .slice A1 l1.length c1] ?_; (with_reducible refine (impl_IsPlan.calls k _ _ l0 (fun k_ => k_ < w.heap.size) _ _ l1 false _ ?_ ?_ ?_ A5.out).mono ?_); exact cB HR0; exact HC0.out; exact Kd.V_mk HC1.out (Kd.F_below (Kd.C_F k85_heap HR1.out) bA); rintro e w10 ⟨rfl, hb⟩; refine ⟨_, rfl, ?_⟩; replace HB := bs HB hb; (try clear hb)))
  go_meet
  case rel => exact ⟨_, (true), rS, H', ⟨oL⟩, ⟨bA⟩⟩
 case rest =>
  clear HC4
  obtain ⟨kq, x22_3, rfl, HA, HJ3, HB⟩ := hcut
  cases kq with
  | zero => exact absurd HA.out (by simp [impl_StartOf.j0])
  | succ kj3 =>
   have H := HA.out
   clear HA
   simp only [impl_StartOf.j0] at H
   by_cases c11 : x22_3 = true
   ·
    subst c11
    have H1 : (some (-1)) = some r := by rw [if_pos rfl] at H; exact H
    clear H
    have H := H1
    clear H1
    obtain rfl := Option.some.inj H
    go_wp2
    go_ret
    exact ⟨rA, bA⟩
   replace c11 := Bool.eq_false_iff.mpr c11
   subst c11
   have H1 : (impl_StartOf.l0 kj3 l0 l1 0 a2 0) = some r := by rw [if_neg (show ¬ (false = true) by decide)] at H; exact H
   clear H
   have H := H1
   clear H1
   have H' := Aside0.mk H
   clear H
   go_wp2
   go_loopg [7, 24] kj3 (fun kq v7 v24 w' => ∃ (x7_2 : Int) (x24_2 : Int), v7 = .int .i64 x7_2 ∧ v24 = .int .i64 x24_2 ∧ Aside0 (impl_StartOf.l0 kq l0 l1 x7_2 a2 x24_2 = some r) ∧ Aside0 (kq ≤ kj3) ∧ Aside0 (Below w.heap.size w w'))
   case atStart => exact ⟨(0), (0), rS, rS, H', ⟨Nat.le_refl _⟩, ⟨bA⟩⟩
   case round =>
    clear H'
    obtain ⟨x7_2, x24_2, rfl, rfl, HA, HK2, HB⟩ := hrel
    cases gk with
    | zero => exact absurd HA.out (by simp [impl_StartOf.l0])
    | succ k2 =>
     have H := HA.out
     clear HA
     simp only [impl_StartOf.l0] at H
     by_cases c12 : x24_2 < a2
     ·
      rw [if_pos c12] at H
      have c12b0 := decide_eq_true c12
      clear c12
      obtain ⟨t625, A13, H⟩ := bindE H
      try dsimp only at H
      have H' := Aside0.mk H
      clear H
      go_wp2_with (first | ((with_reducible refine gate_callee (f := 108) rfl ?_); refine gL (some 31) Try.func108 #[.slice A0 l0.length c0, .slice A1 l1.length c1, .int .i64 x24_2] ?_; (with_reducible refine (impl_longOf.calls k2 _ _ l0 _ _ l1 x24_2 t625 _ ?_ ?_ ?_ ?_ A13.out).mono ?_); exact cB HR0; exact HC0.out; exact cB HR1; exact HC1.out; rintro e w14 ⟨rfl, hb⟩; refine ⟨_, rfl, ?_⟩; replace HB := bs HB hb; (try clear hb)))
      go_roundg k2
      case measure => have := HJ3.out; have := HK2.out; omega
      case rel => exact ⟨(wrap64 (x7_2 + t625)), (wrap64 (x24_2 + 1)), rS, rS, H', ⟨by have := HJ3.out; have := HK2.out; omega⟩, ⟨bA⟩⟩
     rw [if_neg c12] at H
     have c12b0 := decide_eq_false c12
     clear c12
     obtain rfl := Option.some.inj H
     go_wp2
     go_ret
     exact ⟨rA, bA⟩

/-! ### laws_contains: function 29 -/
def laws_contains.l0 : Nat → List Int → Int → Int → Option (Bool)
 | 0, _, _, _ => none
 | k + 1, x0, x1, x5 => if x5 < (x0.length : Int) then (if 0 ≤ x5 then (if (rd x0 x5) = x1 then (some true) else (laws_contains.l0 k x0 x1 (wrap64 (x5 + 1)))) else (none)) else (some false)
def laws_contains.f (k : Nat) (l0 : List Int) (a1 : Int) : Option (Bool) := laws_contains.l0 k l0 a1 0
theorem laws_contains.mono_l : ∀ k, (∀ y0 y1 y2, LeO (laws_contains.l0 k y0 y1 y2) (laws_contains.l0 (k + 1) y0 y1 y2))
 | 0 => fun _ _ _ r h => by simp [laws_contains.l0] at h
 | k + 1 => by
  have ih0 := laws_contains.mono_l k
  ·
   intro y0 y1 y2
   unfold laws_contains.l0
   exact mz1 ih0
theorem laws_contains.mono : ∀ a0 a1 k, LeO (laws_contains.f k a0 a1) (laws_contains.f (k + 1) a0 a1) := by
 intro a0 a1 k
 have ih0 := laws_contains.mono_l k
 unfold laws_contains.f
 exact mz1 ih0
set_option maxHeartbeats 8000000 in
set_option maxRecDepth 100000 in
theorem laws_contains.calls (k : Nat) (A0 : Option Addr) (c0 : Nat) (l0 : List Int) (a1 : Int) (r : Bool) (w : World) (hr0 : Kd.C (Kd.int .i64) w A0 l0.length l0) (hc0 : l0.length ≤ c0) (h : laws_contains.f k l0 a1 = some r) :
  Calls Try.prog 29 #[.slice A0 l0.length c0, .int .i64 a1] w fun e w' => e = .returned (.bool r) ∧ Drawn0 w w' := by
 have HR0 := Aside0.mk hr0
 have HC0 := Aside0.mk hc0
 clear hr0 hc0
 have H : (laws_contains.l0 k l0 a1 0) = some r := h
 clear h
 have H' := Aside0.mk H
 clear H
 go_enter Try.func29, Try.ntmps29
 go_wp2
 go_loopg [5] k (fun kq v5 w' => ∃ (x5_1 : Int), v5 = .int .i64 x5_1 ∧ Aside0 (laws_contains.l0 kq l0 a1 x5_1 = some r) ∧ Aside0 (kq ≤ k) ∧ Drawn0 w w')
 case atStart => exact ⟨(0), rS, H', ⟨Nat.le_refl _⟩, by repeat (first | exact Drawn0.refl _ | apply Drawn0.step)⟩
 case round =>
  clear H'
  obtain ⟨x5_1, rfl, HA, HK1, ⟨m1, rfl⟩⟩ := hrel
  cases gk with
  | zero => exact absurd HA.out (by simp [laws_contains.l0])
  | succ k1 =>
   have H := HA.out
   clear HA
   simp only [laws_contains.l0] at H
   by_cases c3 : x5_1 < (l0.length : Int)
   ·
    rw [if_pos c3] at H
    have c3b0 := decide_eq_true c3
    clear c3
    have c4 : 0 ≤ x5_1 := ifN H
    replace H := ifT H
    have c4b0 := decide_eq_true c4
    clear c4
    by_cases c5 : (rd l0 x5_1) = a1
    ·
     rw [if_pos c5] at H
     have c5b0 : ((rd l0 x5_1) == a1) = true := beq_iff_eq.mpr c5
     have c5b1 : ((rd l0 x5_1) != a1) = false := bne_eq_false_iff_eq.mpr c5
     clear c5
     obtain rfl := Option.some.inj H
     obtain ⟨p626, q626⟩ : 0 ≤ (x5_1 : Int) ∧ x5_1 < (l0.length : Int) := ⟨dA, dA⟩
     obtain ⟨ad626, e626, hx626_0⟩ := Kd.at_int HR0.out x5_1 p626 q626
     cases e626
     obtain ⟨p626, q626⟩ := eT p626 q626
     go_wp2
     go_ret
     exact ⟨rS, dD⟩
    rw [if_neg c5] at H
    have c5b0 : ((rd l0 x5_1) == a1) = false := beq_eq_false_iff_ne.mpr c5
    have c5b1 : ((rd l0 x5_1) != a1) = true := bne_iff_ne.mpr c5
    have H' := Aside0.mk H
    clear H
    obtain ⟨p626, q626⟩ : 0 ≤ (x5_1 : Int) ∧ x5_1 < (l0.length : Int) := ⟨dA, dA⟩
    obtain ⟨ad626, e626, hx626_0⟩ := Kd.at_int HR0.out x5_1 p626 q626
    cases e626
    obtain ⟨p626, q626⟩ := eT p626 q626
    go_wp2
    go_roundg k1
    case measure => have := HK1.out; omega
    case rel => exact ⟨(wrap64 (x5_1 + 1)), rS, H', ⟨by have := HK1.out; omega⟩, by repeat (first | exact Drawn0.refl _ | apply Drawn0.step)⟩
   rw [if_neg c3] at H
   have c3b0 := decide_eq_false c3
   clear c3
   obtain rfl := Option.some.inj H
   go_wp2
   go_ret
   exact ⟨rS, dD⟩

/-! ### laws_within: function 64 -/
def laws_within.l0 : Nat → List Int → List Int → Int → Option (Bool)
 | 0, _, _, _ => none
 | k + 1, x0, x1, x5 => if x5 < (x0.length : Int) then (if 0 ≤ x5 then ((laws_contains.f k x1 (rd x0 x5)).bind fun t628 => (if t628 = true then (laws_within.l0 k x0 x1 (wrap64 (x5 + 1))) else (some false))) else (none)) else (some true)
def laws_within.f (k : Nat) (l0 : List Int) (l1 : List Int) : Option (Bool) := laws_within.l0 k l0 l1 0
theorem laws_within.mono_l : ∀ k, (∀ y0 y1 y2, LeO (laws_within.l0 k y0 y1 y2) (laws_within.l0 (k + 1) y0 y1 y2))
 | 0 => fun _ _ _ r h => by simp [laws_within.l0] at h
 | k + 1 => by
  have ih0 := laws_within.mono_l k
  ·
   intro y0 y1 y2
   unfold laws_within.l0
   exact mz2 ih0 laws_contains.mono
theorem laws_within.mono : ∀ a0 a1 k, LeO (laws_within.f k a0 a1) (laws_within.f (k + 1) a0 a1) := by
 intro a0 a1 k
 have ih0 := laws_within.mono_l k
 unfold laws_within.f
 exact mz2 ih0 laws_contains.mono
set_option maxHeartbeats 8000000 in
set_option maxRecDepth 100000 in
theorem laws_within.calls (k : Nat) (A0 : Option Addr) (c0 : Nat) (l0 : List Int) (A1 : Option Addr) (c1 : Nat) (l1 : List Int) (r : Bool) (w : World) (hr0 : Kd.C (Kd.int .i64) w A0 l0.length l0) (hc0 : l0.length ≤ c0) (hr1 : Kd.C (Kd.int .i64) w A1 l1.length l1) (hc1 : l1.length ≤ c1) (h : laws_within.f k l0 l1 = some r) :
  Calls Try.prog 64 #[.slice A0 l0.length c0, .slice A1 l1.length c1] w fun e w' => e = .returned (.bool r) ∧ Drawn0 w w' := by
 have HR0 := Aside0.mk hr0
 have HC0 := Aside0.mk hc0
 clear hr0 hc0
 have HR1 := Aside0.mk hr1
 have HC1 := Aside0.mk hc1
 clear hr1 hc1
 have H : (laws_within.l0 k l0 l1 0) = some r := h
 clear h
 have H' := Aside0.mk H
 clear H
 go_enter Try.func64, Try.ntmps64
 go_wp2
 go_loopg [5] k (fun kq v5 w' => ∃ (x5_1 : Int), v5 = .int .i64 x5_1 ∧ Aside0 (laws_within.l0 kq l0 l1 x5_1 = some r) ∧ Aside0 (kq ≤ k) ∧ Drawn0 w w')
 case atStart => exact ⟨(0), rS, H', ⟨Nat.le_refl _⟩, by repeat (first | exact Drawn0.refl _ | apply Drawn0.step)⟩
 case round =>
  clear H'
  obtain ⟨x5_1, rfl, HA, HK1, ⟨m1, rfl⟩⟩ := hrel
  cases gk with
  | zero => exact absurd HA.out (by simp [laws_within.l0])
  | succ k1 =>
   have H := HA.out
   clear HA
   simp only [laws_within.l0] at H
   by_cases c3 : x5_1 < (l0.length : Int)
   ·
    rw [if_pos c3] at H
    have c3b0 := decide_eq_true c3
    clear c3
    have c4 : 0 ≤ x5_1 := ifN H
    replace H := ifT H
    have c4b0 := decide_eq_true c4
    clear c4
    obtain ⟨t628, A5, H⟩ := bindE H
    try dsimp only at H
    by_cases c6 : t628 = true
    ·
     subst c6
     have H1 : (laws_within.l0 k1 l0 l1 (wrap64 (x5_1 + 1))) = some r := by rw [if_pos rfl] at H; exact H
     clear H
     have H := H1
     clear H1
     have H' := Aside0.mk H
     clear H
     obtain ⟨p627, q627⟩ : 0 ≤ (x5_1 : Int) ∧ x5_1 < (l0.length : Int) := ⟨dA, dA⟩
     obtain ⟨ad627, e627, hx627_0⟩ := Kd.at_int HR0.out x5_1 p627 q627
     cases e627
     obtain ⟨p627, q627⟩ := eT p627 q627
     go_wp2_with (first | ((with_reducible refine gate_callee (f := 29) rfl ?_); refine gL (some 17) Try.func29 #[.slice A1 l1.length c1, .int .i64 (rd l0 x5_1)] ?_; (with_reducible refine (laws_contains.calls k1 _ _ l1 (rd l0 x5_1) true _ ?_ ?_ A5.out).mono ?_); exact cO HR1; exact HC1.out; rintro e w' ⟨rfl, ⟨nd, rfl⟩⟩; refine ⟨_, rfl, ?_⟩))
     go_roundg k1
     case measure => have := HK1.out; omega
     case rel => exact ⟨(wrap64 (x5_1 + 1)), rS, H', ⟨by have := HK1.out; omega⟩, by repeat (first | exact Drawn0.refl _ | apply Drawn0.step)⟩
    replace c6 := Bool.eq_false_iff.mpr c6
    subst c6
    have H1 : (some false) = some r := by rw [if_neg (show ¬ (false = true) by decide)] at H; exact H
    clear H
    have H := H1
    clear H1
    obtain rfl := Option.some.inj H
    obtain ⟨p627, q627⟩ : 0 ≤ (x5_1 : Int) ∧ x5_1 < (l0.length : Int) := ⟨dA, dA⟩
    obtain ⟨ad627, e627, hx627_0⟩ := Kd.at_int HR0.out x5_1 p627 q627
    cases e627
    obtain ⟨p627, q627⟩ := eT p627 q627
    go_wp2_with (first | ((with_reducible refine gate_callee (f := 29) rfl ?_); refine gL (some 17) Try.func29 #[.slice A1 l1.length c1, .int .i64 (rd l0 x5_1)] ?_; (with_reducible refine (laws_contains.calls k1 _ _ l1 (rd l0 x5_1) false _ ?_ ?_ A5.out).mono ?_); exact cO HR1; exact HC1.out; rintro e w' ⟨rfl, ⟨nd, rfl⟩⟩; refine ⟨_, rfl, ?_⟩))
    go_ret
    exact ⟨rS, dD⟩
   rw [if_neg c3] at H
   have c3b0 := decide_eq_false c3
   clear c3
   obtain rfl := Option.some.inj H
   go_wp2
   go_ret
   exact ⟨rS, dD⟩

/-! ### laws_greens: function 65 -/
mutual
def laws_greens.l0 : Nat → List (S50) → List Int → List Int → Int → Option (List Int)
 | 0, _, _, _, _ => none
 | k + 1, x0, x1, x5, x6 => if x6 < (x0.length : Int) then (laws_greens.j1 k x0 x1 x5 x6 (decide (x6 < (x1.length : Int)))) else (laws_greens.j1 k x0 x1 x5 x6 false)
def laws_greens.j1 : Nat → List (S50) → List Int → List Int → Int → Bool → Option (List Int)
 | 0, _, _, _, _, _ => none
 | k + 1, x0, x1, x5, x6, x17 => if x17 = true then (if 0 ≤ x6 then (if x6 < (x1.length : Int) then (if (rd x1 x6) = 1 then (if x6 < (x0.length : Int) then (if x5.length < 17592186044416 then (laws_greens.l0 k x0 x1 (x5 ++ [(rd_T50 x0 x6).f0]) (wrap64 (x6 + 1))) else (none)) else (none)) else (laws_greens.l0 k x0 x1 x5 (wrap64 (x6 + 1)))) else (none)) else (none)) else (some x5)
end
def laws_greens.f (k : Nat) (l0 : List (S50)) (l1 : List Int) : Option (List Int) := laws_greens.l0 k l0 l1 (([] : List Int)) 0
theorem laws_greens.mono_l : ∀ k, (∀ y0 y1 y2 y3, LeO (laws_greens.l0 k y0 y1 y2 y3) (laws_greens.l0 (k + 1) y0 y1 y2 y3)) ∧ (∀ y0 y1 y2 y3 y4, LeO (laws_greens.j1 k y0 y1 y2 y3 y4) (laws_greens.j1 (k + 1) y0 y1 y2 y3 y4))
 | 0 => ⟨fun _ _ _ _ r h => by simp [laws_greens.l0] at h, fun _ _ _ _ _ r h => by simp [laws_greens.j1] at h⟩
 | k + 1 => by
  obtain ⟨ih0, ih1⟩ := laws_greens.mono_l k
  refine ⟨?_, ?_⟩
  ·
   intro y0 y1 y2 y3
   unfold laws_greens.l0
   exact mz2 ih0 ih1
  ·
   intro y0 y1 y2 y3 y4
   unfold laws_greens.j1
   exact mz2 ih0 ih1
theorem laws_greens.mono : ∀ a0 a1 k, LeO (laws_greens.f k a0 a1) (laws_greens.f (k + 1) a0 a1) := by
 intro a0 a1 k
 obtain ⟨ih0, ih1⟩ := laws_greens.mono_l k
 unfold laws_greens.f
 exact mz2 ih0 ih1
set_option maxHeartbeats 8000000 in
set_option maxRecDepth 100000 in
theorem laws_greens.calls (k : Nat) (A0 : Option Addr) (c0 : Nat) (l0 : List (S50)) (A1 : Option Addr) (c1 : Nat) (l1 : List Int) (r : List Int) (w : World) (hr0 : Kd.C k50 w A0 l0.length l0) (hc0 : l0.length ≤ c0) (hr1 : Kd.C (Kd.int .i64) w A1 l1.length l1) (hc1 : l1.length ≤ c1) (h : laws_greens.f k l0 l1 = some r) :
  Calls Try.prog 65 #[.slice A0 l0.length c0, .slice A1 l1.length c1] w fun e w' => ∃ v0_ : Value, e = .returned (v0_) ∧ Kd.R (Kd.int .i64) 3 w' w.heap.size (fun _ => True) v0_ r ∧ Below w.heap.size w w' := by
 have HR0 := Aside0.mk hr0
 have HC0 := Aside0.mk hc0
 clear hr0 hc0
 have HR1 := Aside0.mk hr1
 have HC1 := Aside0.mk hc1
 clear hr1 hc1
 have HB := Aside0.mk (Below.refl w.heap.size w)
 have H : (laws_greens.l0 k l0 l1 (([] : List Int)) 0) = some r := h
 clear h
 obtain ⟨y629, hy629⟩ : ∃ y_ : List Int, y_ = (([] : List Int)) := ⟨_, rfl⟩
 replace H : (laws_greens.l0 k l0 l1 y629 0) = some r := rH H hy629
 have Ny629 := Aside0.mk hy629
 clear hy629
 have H' := Aside0.mk H
 clear H
 go_enter Try.func65, Try.ntmps65
 go_wp2_with (first | ((with_reducible refine gate_dst (N := 7) rfl ?_); (try (refine gate_guard (by rfl) ?_; dsimp only)); refine Kd.R_lit (Kd.int .i64) _ 3 ?hg (N := 7) ?hd (xs := ([] : List Int)) (inner := []) (ok := fun _ => True) (okp := fun _ => True) ?hr ?hp (fun _ hk => hk) trivial (Below.refl _ _) (Nat.le_refl _) (by simp) ?_; (case hd => rfl); (case hg => rfl); (case hr => first | (go_simp; done) | (go_simp; rfl)); (case hp => exact (Reps.none _ _)); intro v630 w3 ho4 hb hg_ hnew_; clear hg_ hnew_; (first | rw [← Ny629.out] at ho4 | (simp only [Int.reduceToNat] at ho4; rw [← Ny629.out] at ho4)); have HO631 := rl w ho4; replace HB := bs HB hb; clear hb ho4))
 go_loopg [5, 6] k (fun kq v5 v6 w' => ∃ (x5_1 : List Int) (x6_1 : Int), v6 = .int .i64 x6_1 ∧ Aside0 (laws_greens.l0 kq l0 l1 x5_1 x6_1 = some r) ∧ Aside0 (kq ≤ k) ∧ Aside0 (Kd.R (Kd.int .i64) 3 w' w.heap.size (fun _ => True) v5 x5_1) ∧ Aside0 (Below w.heap.size w w'))
 case atStart => exact ⟨(y629), (0), rS, H', ⟨Nat.le_refl _⟩, ⟨rK HO631⟩, ⟨bA⟩⟩
 case round =>
  clear H'
  obtain ⟨x5_1, x6_1, rfl, HA, HK1, HO_5, HB⟩ := hrel
  cases gk with
  | zero => exact absurd HA.out (by simp [laws_greens.l0])
  | succ k1 =>
   have H := HA.out
   clear HA
   simp only [laws_greens.l0] at H
   have HC5 := Aside0.mk H
   clear H
   go_upto_region 3 with (fail)
   go_cut [17] (fun v17 wc => ∃ (kq : Nat) (x17_4 : Bool), v17 = .bool x17_4 ∧ Aside0 (laws_greens.j1 kq l0 l1 x5_1 x6_1 x17_4 = some r) ∧ Aside0 (kq ≤ k1) ∧ Aside0 (Kd.R (Kd.int .i64) 3 wc w.heap.size (fun _ => True) u5 x5_1) ∧ Aside0 (Below w.heap.size w wc))
   case first =>
    have H := HC5.out
    clear HC5
    by_cases c6 : x6_1 < (l0.length : Int)
    ·
     rw [if_pos c6] at H
     have c6b0 := decide_eq_true c6
     clear c6
     (first | rw [c6b0] | (simp only [i64_w, i32_w]; rw [c6b0]) | skip)
     have H' := Aside0.mk H
     clear H
     go_wp2
     go_meet
     case rel => exact ⟨_, (decide (x6_1 < (l1.length : Int))), rS, H', ⟨by have := HK1.out; first | omega | exact Nat.le_refl _⟩, ⟨rK HO_5⟩, ⟨bA⟩⟩
    rw [if_neg c6] at H
    have c6b0 := decide_eq_false c6
    clear c6
    (first | rw [c6b0] | (simp only [i64_w, i32_w]; rw [c6b0]) | skip)
    have H' := Aside0.mk H
    clear H
    go_wp2
    go_meet
    case rel => exact ⟨_, (false), rS, H', ⟨by have := HK1.out; first | omega | exact Nat.le_refl _⟩, ⟨rK HO_5⟩, ⟨bA⟩⟩
   case rest =>
    clear HC5
    obtain ⟨kq, x17_4, rfl, HA, HJ4, HO_5, HB⟩ := hcut
    cases kq with
    | zero => exact absurd HA.out (by simp [laws_greens.j1])
    | succ kj4 =>
     have H := HA.out
     clear HA
     simp only [laws_greens.j1] at H
     by_cases c7 : x17_4 = true
     ·
      subst c7
      have H1 : (if 0 ≤ x6_1 then (if x6_1 < (l1.length : Int) then (if (rd l1 x6_1) = 1 then (if x6_1 < (l0.length : Int) then (if x5_1.length < 17592186044416 then (laws_greens.l0 kj4 l0 l1 (x5_1 ++ [(rd_T50 l0 x6_1).f0]) (wrap64 (x6_1 + 1))) else (none)) else (none)) else (laws_greens.l0 kj4 l0 l1 x5_1 (wrap64 (x6_1 + 1)))) else (none)) else (none)) = some r := by rw [if_pos rfl] at H; exact H
      clear H
      have H := H1
      clear H1
      have c8 : 0 ≤ x6_1 := ifN H
      replace H := ifT H
      have c8b0 := decide_eq_true c8
      clear c8
      have c9 : x6_1 < (l1.length : Int) := ifN H
      replace H := ifT H
      have c9b0 := decide_eq_true c9
      clear c9
      by_cases c10 : (rd l1 x6_1) = 1
      ·
       rw [if_pos c10] at H
       have c10b0 : ((rd l1 x6_1) == 1) = true := beq_iff_eq.mpr c10
       have c10b1 : ((rd l1 x6_1) != 1) = false := bne_eq_false_iff_eq.mpr c10
       clear c10
       have c11 : x6_1 < (l0.length : Int) := ifN H
       replace H := ifT H
       have c11b0 := decide_eq_true c11
       clear c11
       have c12 : x5_1.length < 17592186044416 := ifN H
       replace H := ifT H
       have LMc12 := Aside0.mk c12
       clear c12
       obtain ⟨y634, hy634⟩ : ∃ y_ : List Int, y_ = (x5_1 ++ [(rd_T50 l0 x6_1).f0]) := ⟨_, rfl⟩
       replace H : (laws_greens.l0 kj4 l0 l1 y634 (wrap64 (x6_1 + 1))) = some r := rH H hy634
       have Ny634 := Aside0.mk hy634
       clear hy634
       have H' := Aside0.mk H
       clear H
       obtain ⟨p632, q632⟩ : 0 ≤ (x6_1 : Int) ∧ x6_1 < (l1.length : Int) := ⟨dA, dA⟩
       obtain ⟨ad632, e632, hx632_0⟩ := Kd.at_int (Kd.C_below HR1.out HB.out) x6_1 p632 q632
       cases e632
       obtain ⟨p632, q632⟩ := eT p632 q632
       obtain ⟨p633, q633⟩ : 0 ≤ (x6_1 : Int) ∧ x6_1 < (l0.length : Int) := ⟨dA, dA⟩
       obtain ⟨ad633, e633, hx633_0, hx633_1, hx633_2, hx633_3⟩ := at_T50 (Kd.C_below HR0.out HB.out) x6_1 p633 q633
       cases e633
       obtain ⟨p633, q633⟩ := eT p633 q633
       go_wp2_with (first | ((with_reducible refine gate_builtin (b := .append) (xs := #[.tmp 25, .tmp 31]) rfl ?_); (try (refine gate_guard (by rfl) ?_; dsimp only)); at_builtin; refine Kd.R_append (Kd.int .i64) (w0 := w) w.heap.size rfl (.tmp 25) (.tmp 31) 35 3 (.int .i64 0) 8 rfl Try.underlying35 info3 rfl (by decide) (by omega) u5 x5_1 ((rd_T50 l0 x6_1).f0) [.int .i64 ((rd_T50 l0 x6_1).f0)] (fun _ => True) (fun _ => False) rfl rfl ?aP (fun _ hk => hk.elim) ?aF ?aO ?aB ?aS ?aL ?_; (case aP => exact rfl); (case aB => exact bA); (case aF => exact (fun _ _ => trivial)); (case aO => exact (rK HO_5)); (case aS => exact (below_size bA)); (case aL => have := LMc12.out; omega); intro v635 w13 ho hb hg hat; rw [← Ny634.out] at ho; have n0_ := Aside0.mk (hb); have n1_ := Aside0.mk (ho); clear HB; clear HO_5; have HB := n0_; have HO636 := n1_; clear n0_ n1_; clear ho hb hg hat))
       go_roundg kj4
       case measure => have := HK1.out; have := HJ4.out; omega
       case rel => exact ⟨(y634), (wrap64 (x6_1 + 1)), rS, H', ⟨by have := HK1.out; have := HJ4.out; omega⟩, ⟨rK HO636⟩, ⟨bA⟩⟩
      rw [if_neg c10] at H
      have c10b0 : ((rd l1 x6_1) == 1) = false := beq_eq_false_iff_ne.mpr c10
      have c10b1 : ((rd l1 x6_1) != 1) = true := bne_iff_ne.mpr c10
      have H' := Aside0.mk H
      clear H
      obtain ⟨p632, q632⟩ : 0 ≤ (x6_1 : Int) ∧ x6_1 < (l1.length : Int) := ⟨dA, dA⟩
      obtain ⟨ad632, e632, hx632_0⟩ := Kd.at_int (Kd.C_below HR1.out HB.out) x6_1 p632 q632
      cases e632
      obtain ⟨p632, q632⟩ := eT p632 q632
      go_wp2
      go_roundg kj4
      case measure => have := HK1.out; have := HJ4.out; omega
      case rel => exact ⟨(x5_1), (wrap64 (x6_1 + 1)), rS, H', ⟨by have := HK1.out; have := HJ4.out; omega⟩, ⟨rK HO_5⟩, ⟨bA⟩⟩
     replace c7 := Bool.eq_false_iff.mpr c7
     subst c7
     have H1 : (some x5_1) = some r := by rw [if_neg (show ¬ (false = true) by decide)] at H; exact H
     clear H
     have H := H1
     clear H1
     obtain rfl := Option.some.inj H
     go_wp2
     go_ret
     exact ⟨_, rA, rK HO_5, bA⟩

/-! ### impl_GreenOf: function 66 -/
def impl_GreenOf.l0 : Nat → Int → List Bool → Int → Int → Option (Int)
 | 0, _, _, _, _ => none
 | k + 1, x7, x13, x14, x15 => if x15 < x14 then (if 0 ≤ x15 then (if x15 < (x13.length : Int) then (if rdOf false x13 x15 = true then (impl_GreenOf.l0 k (wrap64 (x7 + 1)) x13 x14 (wrap64 (x15 + 1))) else (impl_GreenOf.l0 k x7 x13 x14 (wrap64 (x15 + 1)))) else (none)) else (none)) else (some x7)
def impl_GreenOf.f (k : Nat) (l0 : List (S50)) (l1 : List (S85)) (a2 : Int) : Option (Int) := (impl_greens.f k l0 l1 a2).bind fun t637 => (impl_GreenOf.l0 k 0 t637 (t637.length : Int) 0)
theorem impl_GreenOf.mono_l : ∀ k, (∀ y0 y1 y2 y3, LeO (impl_GreenOf.l0 k y0 y1 y2 y3) (impl_GreenOf.l0 (k + 1) y0 y1 y2 y3))
 | 0 => fun _ _ _ _ r h => by simp [impl_GreenOf.l0] at h
 | k + 1 => by
  have ih0 := impl_GreenOf.mono_l k
  ·
   intro y0 y1 y2 y3
   unfold impl_GreenOf.l0
   exact mz2 ih0 impl_greens.mono
theorem impl_GreenOf.mono : ∀ a0 a1 a2 k, LeO (impl_GreenOf.f k a0 a1 a2) (impl_GreenOf.f (k + 1) a0 a1 a2) := by
 intro a0 a1 a2 k
 have ih0 := impl_GreenOf.mono_l k
 unfold impl_GreenOf.f
 exact mz2 ih0 impl_greens.mono
set_option maxHeartbeats 8000000 in
set_option maxRecDepth 100000 in
theorem impl_GreenOf.calls (k : Nat) (A0 : Option Addr) (c0 : Nat) (l0 : List (S50)) (A1 : Option Addr) (c1 : Nat) (l1 : List (S85)) (a2 : Int) (r : Int) (w : World) (hr0 : Kd.C k50 w A0 l0.length l0) (hc0 : l0.length ≤ c0) (hr1 : Kd.C k85 w A1 l1.length l1) (hc1 : l1.length ≤ c1) (h : impl_GreenOf.f k l0 l1 a2 = some r) :
  Calls Try.prog 66 #[.slice A0 l0.length c0, .slice A1 l1.length c1, .int .i64 a2] w fun e w' => e = .returned (.int .i64 r) ∧ Below w.heap.size w w' := by
 have HR0 := Aside0.mk hr0
 have HC0 := Aside0.mk hc0
 clear hr0 hc0
 have HR1 := Aside0.mk hr1
 have HC1 := Aside0.mk hc1
 clear hr1 hc1
 have HB := Aside0.mk (Below.refl w.heap.size w)
 have H : ((impl_greens.f k l0 l1 a2).bind fun t637 => (impl_GreenOf.l0 k 0 t637 (t637.length : Int) 0)) = some r := h
 clear h
 obtain ⟨t637, A4, H⟩ := bindE H
 try dsimp only at H
 have H' := Aside0.mk H
 clear H
 go_enter Try.func66, Try.ntmps66
 go_wp2_with (first | ((with_reducible refine gate_callee (f := 74) rfl ?_); refine gL (some 13) Try.func74 #[.slice A0 l0.length c0, .slice A1 l1.length c1, .int .i64 a2] ?_; (with_reducible refine (impl_greens.calls k _ _ l0 _ _ l1 a2 t637 _ ?_ ?_ ?_ ?_ A4.out).mono ?_); exact cO HR0; exact HC0.out; exact cO HR1; exact HC1.out; rintro e w5 ⟨v638, rfl, ho0, hb⟩; refine ⟨_, rfl, ?_⟩; have HO639 := rl w ho0; replace HB := bs HB hb; (try clear hb); (try clear ho0); obtain ⟨Ao6, co6, eo6⟩ := Kd.R_slice HO639.out; subst eo6))
 go_loopg [7, 15] k (fun kq v7 v15 w' => ∃ (x7_1 : Int) (x15_1 : Int), v7 = .int .i64 x7_1 ∧ v15 = .int .i64 x15_1 ∧ Aside0 (impl_GreenOf.l0 kq x7_1 t637 (t637.length : Int) x15_1 = some r) ∧ Aside0 (kq ≤ k) ∧ Aside0 (Kd.R Kd.bool 4 w' w.heap.size (fun _ => True) (.slice Ao6 t637.length co6) t637) ∧ Aside0 (Below w.heap.size w w'))
 case atStart => exact ⟨(0), (0), rS, rS, H', ⟨Nat.le_refl _⟩, ⟨rK HO639⟩, ⟨bA⟩⟩
 case round =>
  clear H'
  obtain ⟨x7_1, x15_1, rfl, rfl, HA, HK1, HO_13, HB⟩ := hrel
  cases gk with
  | zero => exact absurd HA.out (by simp [impl_GreenOf.l0])
  | succ k1 =>
   have H := HA.out
   clear HA
   simp only [impl_GreenOf.l0] at H
   by_cases c7 : x15_1 < (t637.length : Int)
   ·
    rw [if_pos c7] at H
    have c7b0 := decide_eq_true c7
    clear c7
    have c8 : 0 ≤ x15_1 := ifN H
    replace H := ifT H
    have c8b0 := decide_eq_true c8
    clear c8
    have c9 : x15_1 < (t637.length : Int) := ifN H
    replace H := ifT H
    have c9b0 := decide_eq_true c9
    clear c9
    obtain ⟨bq10, hbq10⟩ : ∃ b_ : Bool, b_ = (rdOf false t637 x15_1) := ⟨_, rfl⟩
    replace H : (if bq10 = true then (impl_GreenOf.l0 k1 (wrap64 (x7_1 + 1)) t637 (t637.length : Int) (wrap64 (x15_1 + 1))) else (impl_GreenOf.l0 k1 x7_1 t637 (t637.length : Int) (wrap64 (x15_1 + 1)))) = some r := by rw [← hbq10] at H; exact H
    have Nbq10 := Aside0.mk hbq10
    clear hbq10
    by_cases c11 : bq10 = true
    ·
     subst c11
     have H1 : (impl_GreenOf.l0 k1 (wrap64 (x7_1 + 1)) t637 (t637.length : Int) (wrap64 (x15_1 + 1))) = some r := by rw [if_pos rfl] at H; exact H
     clear H
     have H := H1
     clear H1
     have H' := Aside0.mk H
     clear H
     obtain ⟨p640, q640⟩ : 0 ≤ (x15_1 : Int) ∧ x15_1 < (t637.length : Int) := ⟨dA, dA⟩
     obtain ⟨ad640, e640, hx640_0⟩ := Kd.at_bool (Kd.R_reads' HO_13.out).2.2 x15_1 p640 q640
     (try rw [← Nbq10.out] at hx640_0)
     cases e640
     obtain ⟨p640, q640⟩ := eT p640 q640
     go_wp2
     go_roundg k1
     case measure => have := HK1.out; omega
     case rel => exact ⟨(wrap64 (x7_1 + 1)), (wrap64 (x15_1 + 1)), rS, rS, H', ⟨by have := HK1.out; omega⟩, ⟨rK HO_13⟩, ⟨bA⟩⟩
    replace c11 := Bool.eq_false_iff.mpr c11
    subst c11
    have H1 : (impl_GreenOf.l0 k1 x7_1 t637 (t637.length : Int) (wrap64 (x15_1 + 1))) = some r := by rw [if_neg (show ¬ (false = true) by decide)] at H; exact H
    clear H
    have H := H1
    clear H1
    have H' := Aside0.mk H
    clear H
    obtain ⟨p640, q640⟩ : 0 ≤ (x15_1 : Int) ∧ x15_1 < (t637.length : Int) := ⟨dA, dA⟩
    obtain ⟨ad640, e640, hx640_0⟩ := Kd.at_bool (Kd.R_reads' HO_13.out).2.2 x15_1 p640 q640
    (try rw [← Nbq10.out] at hx640_0)
    cases e640
    obtain ⟨p640, q640⟩ := eT p640 q640
    go_wp2
    go_roundg k1
    case measure => have := HK1.out; omega
    case rel => exact ⟨(x7_1), (wrap64 (x15_1 + 1)), rS, rS, H', ⟨by have := HK1.out; omega⟩, ⟨rK HO_13⟩, ⟨bA⟩⟩
   rw [if_neg c7] at H
   have c7b0 := decide_eq_false c7
   clear c7
   obtain rfl := Option.some.inj H
   go_wp2
   go_ret
   exact ⟨rA, bA⟩

/-! ### spec_ClearOf: function 185 -/
def spec_ClearOf.f (a0_0 : Int) (a0_1 : Int) (a0_2 : Int) (a0_3 : Int) : Option (Int) := (spec_IsPath.f a0_0 a0_1 a0_2 a0_3).bind fun t642 => (if t642 = true then ((some (([0, 2, 5, 3] : List Int) : List Int)).bind fun y643 => (if 0 ≤ a0_1 then (if a0_1 < (y643.length : Int) then (some (rd y643 a0_1)) else (none)) else (none))) else (some 0))
set_option maxHeartbeats 8000000 in
set_option maxRecDepth 100000 in
theorem spec_ClearOf.calls (a0_0 : Int) (a0_1 : Int) (a0_2 : Int) (a0_3 : Int) (r : Int) (w : World) (h : spec_ClearOf.f a0_0 a0_1 a0_2 a0_3 = some r) :
  Calls Try.prog 185 #[.agg #[.int .i64 a0_0, .int .i64 a0_1, .int .i64 a0_2, .int .i64 a0_3]] w fun e w' => e = .returned (.int .i64 r) ∧ Below w.heap.size w w' := by
 have hu50 := Try.underlying50
 have HB := Aside0.mk (Below.refl w.heap.size w)
 have H : ((spec_IsPath.f a0_0 a0_1 a0_2 a0_3).bind fun t642 => (if t642 = true then ((some (([0, 2, 5, 3] : List Int) : List Int)).bind fun y643 => (if 0 ≤ a0_1 then (if a0_1 < (y643.length : Int) then (some (rd y643 a0_1)) else (none)) else (none))) else (some 0))) = some r := h
 clear h
 obtain ⟨t642, A2, H⟩ := bindE H
 try dsimp only at H
 by_cases c3 : t642 = true
 ·
  subst c3
  have H1 : ((some (([0, 2, 5, 3] : List Int) : List Int)).bind fun y643 => (if 0 ≤ a0_1 then (if a0_1 < (y643.length : Int) then (some (rd y643 a0_1)) else (none)) else (none))) = some r := by rw [if_pos rfl] at H; exact H
  clear H
  have H := H1
  clear H1
  obtain ⟨y643, hy643⟩ : ∃ y_ : List Int, y_ = (([0, 2, 5, 3] : List Int)) := ⟨_, rfl⟩
  replace H : (if 0 ≤ a0_1 then (if a0_1 < (y643.length : Int) then (some (rd y643 a0_1)) else (none)) else (none)) = some r := rH H hy643
  have Ny643 := Aside0.mk hy643
  clear hy643
  have c4 : 0 ≤ a0_1 := ifN H
  replace H := ifT H
  have c4b0 := decide_eq_true c4
  clear c4
  have c5 : a0_1 < (y643.length : Int) := ifN H
  replace H := ifT H
  have c5b0 := decide_eq_true c5
  clear c5
  obtain rfl := Option.some.inj H
  go_enter Try.func185, Try.ntmps185
  go_wp2_with (first | ((with_reducible refine gate_dst (N := 1) rfl ?_); refine bE (N := 1) (cs := #[.int .i64 a0_0, .int .i64 a0_1, .int .i64 a0_2, .int .i64 a0_3]) (t := 50) ?_; intro gb641 hg w6 hbox hb; have BK641 := Aside0.mk (hbox); have GW641 := gw w hg; have GE641 := gw w hg; replace HB := bs HB hb; clear hb hbox hg; obtain ⟨_, _, _, _, _, _, _, _⟩ := blkc4 BK641) | ((with_reducible refine gate_callee (f := 91) rfl ?_); refine gL (some 4) Try.func91 #[.agg #[.int .i64 a0_0, .int .i64 a0_1, .int .i64 a0_2, .int .i64 a0_3]] ?_; (with_reducible refine (spec_IsPath.calls a0_0 a0_1 a0_2 a0_3 true _ A2.out).mono ?_); rintro e w8 ⟨rfl, hb⟩; refine ⟨_, rfl, ?_⟩; replace BK641 := kb BK641 hb; replace HB := bs HB hb; (try clear hb)) | ((with_reducible refine gate_dst (N := 6) rfl ?_); refine Kd.R_lit (Kd.int .i64) _ 3 ?hg (N := 6) ?hd (xs := ([0, 2, 5, 3] : List Int)) (inner := [.int .i64 0, .int .i64 2, .int .i64 5, .int .i64 3]) (ok := fun _ => True) (okp := fun _ => True) ?hr ?hp (fun _ hk => hk) trivial (Below.refl _ _) (Nat.le_refl _) (by simp) ?_; (case hd => rfl); (case hg => rfl); (case hr => first | (go_simp; done) | (go_simp; rfl)); (case hp => exact (Reps.one (show Kd.M (Kd.int .i64) _ _ _ 0 [.int .i64 0] from rfl) (Reps.one (show Kd.M (Kd.int .i64) _ _ _ 2 [.int .i64 2] from rfl) (Reps.one (show Kd.M (Kd.int .i64) _ _ _ 5 [.int .i64 5] from rfl) (Reps.one (show Kd.M (Kd.int .i64) _ _ _ 3 [.int .i64 3] from rfl) (Reps.none _ _)))))); intro v644 w9 ho10 hb hg_ hnew_; clear hg_ hnew_; (first | rw [← Ny643.out] at ho10 | (simp only [Int.reduceToNat] at ho10; rw [← Ny643.out] at ho10)); have HO645 := rl w ho10; replace BK641 := kb BK641 hb; replace HB := bs HB hb; clear hb ho10; obtain ⟨_, _, _, _, _, _, _, _⟩ := blkc4 BK641; obtain ⟨Ao12, co12, eo12⟩ := Kd.R_slice HO645.out; subst eo12; have p646 : 0 ≤ (a0_1 : Int) := dA; have q646 : a0_1 < (y643.length : Int) := dA; obtain ⟨ad646, e646, hx646_0⟩ := Kd.at_int (Kd.R_reads' HO645.out).2.2 a0_1 p646 q646; cases e646; replace p646 := eq_true p646; replace q646 := eq_true q646))
  go_ret
  exact ⟨rA, bG⟩
 replace c3 := Bool.eq_false_iff.mpr c3
 subst c3
 have H1 : (some 0) = some r := by rw [if_neg (show ¬ (false = true) by decide)] at H; exact H
 clear H
 have H := H1
 clear H1
 obtain rfl := Option.some.inj H
 go_enter Try.func185, Try.ntmps185
 go_wp2_with (first | ((with_reducible refine gate_dst (N := 1) rfl ?_); refine bE (N := 1) (cs := #[.int .i64 a0_0, .int .i64 a0_1, .int .i64 a0_2, .int .i64 a0_3]) (t := 50) ?_; intro gb641 hg w13 hbox hb; have BK641 := Aside0.mk (hbox); have GW641 := gw w hg; have GE641 := gw w hg; replace HB := bs HB hb; clear hb hbox hg; obtain ⟨_, _, _, _, _, _, _, _⟩ := blkc4 BK641) | ((with_reducible refine gate_callee (f := 91) rfl ?_); refine gL (some 4) Try.func91 #[.agg #[.int .i64 a0_0, .int .i64 a0_1, .int .i64 a0_2, .int .i64 a0_3]] ?_; (with_reducible refine (spec_IsPath.calls a0_0 a0_1 a0_2 a0_3 false _ A2.out).mono ?_); rintro e w15 ⟨rfl, hb⟩; refine ⟨_, rfl, ?_⟩; replace BK641 := kb BK641 hb; replace HB := bs HB hb; (try clear hb)))
 go_ret
 exact ⟨rA, bG⟩

/-! ### spec_Closes: function 198 -/
def spec_Closes.l0 : Nat → List Int → List Int → List Int → Int → Option (List Int)
 | 0, _, _, _, _ => none
 | k + 1, x0, x1, x5, x6 => if x6 < (x0.length : Int) then (if 0 ≤ x6 then ((spec_l6Has.f k x1 (rd x0 x6)).bind fun t651 => (if t651 = true then (spec_Closes.l0 k x0 x1 x5 (wrap64 (x6 + 1))) else (if x5.length < 17592186044416 then (spec_Closes.l0 k x0 x1 (x5 ++ [rd x0 x6]) (wrap64 (x6 + 1))) else (none)))) else (none)) else (some x5)
def spec_Closes.f (k : Nat) (l0 : List Int) (l1 : List Int) : Option (List Int) := spec_Closes.l0 k l0 l1 (([] : List Int)) 0
theorem spec_Closes.mono_l : ∀ k, (∀ y0 y1 y2 y3, LeO (spec_Closes.l0 k y0 y1 y2 y3) (spec_Closes.l0 (k + 1) y0 y1 y2 y3))
 | 0 => fun _ _ _ _ r h => by simp [spec_Closes.l0] at h
 | k + 1 => by
  have ih0 := spec_Closes.mono_l k
  ·
   intro y0 y1 y2 y3
   unfold spec_Closes.l0
   exact mz2 ih0 spec_l6Has.mono
theorem spec_Closes.mono : ∀ a0 a1 k, LeO (spec_Closes.f k a0 a1) (spec_Closes.f (k + 1) a0 a1) := by
 intro a0 a1 k
 have ih0 := spec_Closes.mono_l k
 unfold spec_Closes.f
 exact mz2 ih0 spec_l6Has.mono
set_option maxHeartbeats 8000000 in
set_option maxRecDepth 100000 in
theorem spec_Closes.calls (k : Nat) (A0 : Option Addr) (c0 : Nat) (l0 : List Int) (A1 : Option Addr) (c1 : Nat) (l1 : List Int) (r : List Int) (w : World) (hr0 : Kd.C (Kd.int .i64) w A0 l0.length l0) (hc0 : l0.length ≤ c0) (hr1 : Kd.C (Kd.int .i64) w A1 l1.length l1) (hc1 : l1.length ≤ c1) (h : spec_Closes.f k l0 l1 = some r) :
  Calls Try.prog 198 #[.slice A0 l0.length c0, .slice A1 l1.length c1] w fun e w' => ∃ v0_ : Value, e = .returned (v0_) ∧ Kd.R (Kd.int .i64) 3 w' w.heap.size (fun _ => True) v0_ r ∧ Below w.heap.size w w' := by
 have HR0 := Aside0.mk hr0
 have HC0 := Aside0.mk hc0
 clear hr0 hc0
 have HR1 := Aside0.mk hr1
 have HC1 := Aside0.mk hc1
 clear hr1 hc1
 have HB := Aside0.mk (Below.refl w.heap.size w)
 have H : (spec_Closes.l0 k l0 l1 (([] : List Int)) 0) = some r := h
 clear h
 obtain ⟨y647, hy647⟩ : ∃ y_ : List Int, y_ = (([] : List Int)) := ⟨_, rfl⟩
 replace H : (spec_Closes.l0 k l0 l1 y647 0) = some r := rH H hy647
 have Ny647 := Aside0.mk hy647
 clear hy647
 have H' := Aside0.mk H
 clear H
 go_enter Try.func198, Try.ntmps198
 go_wp2_with (first | ((with_reducible refine gate_dst (N := 7) rfl ?_); refine Kd.R_lit (Kd.int .i64) _ 3 ?hg (N := 7) ?hd (xs := ([] : List Int)) (inner := []) (ok := fun _ => True) (okp := fun _ => True) ?hr ?hp (fun _ hk => hk) trivial (Below.refl _ _) (Nat.le_refl _) (by simp) ?_; (case hd => rfl); (case hg => rfl); (case hr => first | (go_simp; done) | (go_simp; rfl)); (case hp => exact (Reps.none _ _)); intro v648 w3 ho4 hb hg_ hnew_; clear hg_ hnew_; (first | rw [← Ny647.out] at ho4 | (simp only [Int.reduceToNat] at ho4; rw [← Ny647.out] at ho4)); have HO649 := rl w ho4; replace HB := bs HB hb; clear hb ho4))
 go_loopg [5, 6] k (fun kq v5 v6 w' => ∃ (x5_1 : List Int) (x6_1 : Int), v6 = .int .i64 x6_1 ∧ Aside0 (spec_Closes.l0 kq l0 l1 x5_1 x6_1 = some r) ∧ Aside0 (kq ≤ k) ∧ Aside0 (Kd.R (Kd.int .i64) 3 w' w.heap.size (fun _ => True) v5 x5_1) ∧ Aside0 (Below w.heap.size w w'))
 case atStart => exact ⟨(y647), (0), rS, H', ⟨Nat.le_refl _⟩, ⟨rK HO649⟩, ⟨bA⟩⟩
 case round =>
  clear H'
  obtain ⟨x5_1, x6_1, rfl, HA, HK1, HO_5, HB⟩ := hrel
  cases gk with
  | zero => exact absurd HA.out (by simp [spec_Closes.l0])
  | succ k1 =>
   have H := HA.out
   clear HA
   simp only [spec_Closes.l0] at H
   by_cases c5 : x6_1 < (l0.length : Int)
   ·
    rw [if_pos c5] at H
    have c5b0 := decide_eq_true c5
    clear c5
    have c6 : 0 ≤ x6_1 := ifN H
    replace H := ifT H
    have c6b0 := decide_eq_true c6
    clear c6
    obtain ⟨t651, A7, H⟩ := bindE H
    try dsimp only at H
    by_cases c8 : t651 = true
    ·
     subst c8
     have H1 : (spec_Closes.l0 k1 l0 l1 x5_1 (wrap64 (x6_1 + 1))) = some r := by rw [if_pos rfl] at H; exact H
     clear H
     have H := H1
     clear H1
     have H' := Aside0.mk H
     clear H
     obtain ⟨p650, q650⟩ : 0 ≤ (x6_1 : Int) ∧ x6_1 < (l0.length : Int) := ⟨dA, dA⟩
     obtain ⟨ad650, e650, hx650_0⟩ := Kd.at_int (Kd.C_below HR0.out HB.out) x6_1 p650 q650
     cases e650
     obtain ⟨p650, q650⟩ := eT p650 q650
     go_wp2_with (first | ((with_reducible refine gate_callee (f := 133) rfl ?_); refine gL (some 19) Try.func133 #[.slice A1 l1.length c1, .int .i64 (rd l0 x6_1)] ?_; (with_reducible refine (spec_l6Has.calls k1 _ _ l1 (rd l0 x6_1) true _ ?_ ?_ A7.out).mono ?_); exact cB HR1; exact HC1.out; rintro e w' ⟨rfl, ⟨nd, rfl⟩⟩; refine ⟨_, rfl, ?_⟩))
     go_roundg k1
     case measure => have := HK1.out; omega
     case rel => exact ⟨(x5_1), (wrap64 (x6_1 + 1)), rS, H', ⟨by have := HK1.out; omega⟩, ⟨rK HO_5⟩, ⟨bA⟩⟩
    replace c8 := Bool.eq_false_iff.mpr c8
    subst c8
    have H1 : (if x5_1.length < 17592186044416 then (spec_Closes.l0 k1 l0 l1 (x5_1 ++ [rd l0 x6_1]) (wrap64 (x6_1 + 1))) else (none)) = some r := by rw [if_neg (show ¬ (false = true) by decide)] at H; exact H
    clear H
    have H := H1
    clear H1
    have c9 : x5_1.length < 17592186044416 := ifN H
    replace H := ifT H
    have LMc9 := Aside0.mk c9
    clear c9
    obtain ⟨y653, hy653⟩ : ∃ y_ : List Int, y_ = (x5_1 ++ [rd l0 x6_1]) := ⟨_, rfl⟩
    replace H : (spec_Closes.l0 k1 l0 l1 y653 (wrap64 (x6_1 + 1))) = some r := rH H hy653
    have Ny653 := Aside0.mk hy653
    clear hy653
    have H' := Aside0.mk H
    clear H
    obtain ⟨p650, q650⟩ : 0 ≤ (x6_1 : Int) ∧ x6_1 < (l0.length : Int) := ⟨dA, dA⟩
    obtain ⟨ad650, e650, hx650_0⟩ := Kd.at_int (Kd.C_below HR0.out HB.out) x6_1 p650 q650
    cases e650
    obtain ⟨p650, q650⟩ := eT p650 q650
    go_wp2_with (first | ((with_reducible refine gate_callee (f := 133) rfl ?_); refine gL (some 19) Try.func133 #[.slice A1 l1.length c1, .int .i64 (rd l0 x6_1)] ?_; (with_reducible refine (spec_l6Has.calls k1 _ _ l1 (rd l0 x6_1) false _ ?_ ?_ A7.out).mono ?_); exact cB HR1; exact HC1.out; rintro e w' ⟨rfl, ⟨nd, rfl⟩⟩; refine ⟨_, rfl, ?_⟩; have p652 : 0 ≤ (x6_1 : Int) := dA; have q652 : x6_1 < (l0.length : Int) := dA; obtain ⟨ad652, e652, hx652_0⟩ := Kd.at_int HR0.out x6_1 p652 q652; obtain rfl : ad650 = ad652 := (by injection e652); replace hx652_0 := hC HB hx652_0; replace p652 := eq_true p652; replace q652 := eq_true q652) | ((with_reducible refine gate_builtin (b := .append) (xs := #[.tmp 21, .tmp 26]) rfl ?_); at_builtin; refine Kd.R_append (Kd.int .i64) (w0 := w) w.heap.size rfl (.tmp 21) (.tmp 26) 35 3 (.int .i64 0) 8 rfl Try.underlying35 info3 rfl (by decide) (by omega) u5 x5_1 (rd l0 x6_1) [.int .i64 (rd l0 x6_1)] (fun _ => True) (fun _ => False) rfl rfl ?aP (fun _ hk => hk.elim) ?aF ?aO ?aB ?aS ?aL ?_; (case aP => exact rfl); (case aB => exact bA); (case aF => exact (fun _ _ => trivial)); (case aO => exact (rK HO_5)); (case aS => exact (below_size bA)); (case aL => have := LMc9.out; omega); intro v654 w10 ho hb hg hat; rw [← Ny653.out] at ho; have n0_ := Aside0.mk (hb); have n1_ := Aside0.mk (ho); clear HB; clear HO_5; have HB := n0_; have HO655 := n1_; clear n0_ n1_; clear ho hb hg hat))
    go_roundg k1
    case measure => have := HK1.out; omega
    case rel => exact ⟨(y653), (wrap64 (x6_1 + 1)), rS, H', ⟨by have := HK1.out; omega⟩, ⟨rK HO655⟩, ⟨bA⟩⟩
   rw [if_neg c5] at H
   have c5b0 := decide_eq_false c5
   clear c5
   obtain rfl := Option.some.inj H
   go_wp2
   go_ret
   exact ⟨_, rA, rK HO_5, bA⟩

/-! ### spec_Max: function 199 -/
def spec_Max.f (a0 : Int) (a1 : Int) : Option (Int) := if a1 > a0 then (some a1) else (some a0)
set_option maxHeartbeats 8000000 in
set_option maxRecDepth 100000 in
theorem spec_Max.calls (a0 : Int) (a1 : Int) (r : Int) (w : World) (h : spec_Max.f a0 a1 = some r) :
  Calls Try.prog 199 #[.int .i64 a0, .int .i64 a1] w fun e w' => e = .returned (.int .i64 r) ∧ Drawn0 w w' := by
 have H : (if a1 > a0 then (some a1) else (some a0)) = some r := h
 clear h
 by_cases c3 : a1 > a0
 ·
  rw [if_pos c3] at H
  have c3b0 := decide_eq_true c3
  clear c3
  obtain rfl := Option.some.inj H
  go_enter Try.func199, Try.ntmps199
  go_wp2
  go_ret
  exact ⟨rS, dD⟩
 rw [if_neg c3] at H
 have c3b0 := decide_eq_false c3
 clear c3
 obtain rfl := Option.some.inj H
 go_enter Try.func199, Try.ntmps199
 go_wp2
 go_ret
 exact ⟨rS, dD⟩

/-! ### spec_ClearBetween: function 192 -/
mutual
def spec_ClearBetween.l0 : Nat → List (S50) → List Int → List Int → Int → List Int → List Int → Int → Option (Int)
 | 0, _, _, _, _, _, _, _ => none
 | k + 1, x0, x1, x2, x7, x8, x9, x10 => if x10 < (x8.length : Int) then ((spec_IsTogether.f k x0 x1).bind fun t662 => (if t662 = true then ((spec_IsTogether.f k x0 x2).bind fun t663 => (spec_ClearBetween.j1 k x0 x1 x2 x7 x8 x9 x10 t663)) else (spec_ClearBetween.j1 k x0 x1 x2 x7 x8 x9 x10 false))) else (spec_ClearBetween.j1 k x0 x1 x2 x7 x8 x9 x10 false)
def spec_ClearBetween.j1 : Nat → List (S50) → List Int → List Int → Int → List Int → List Int → Int → Bool → Option (Int)
 | 0, _, _, _, _, _, _, _, _ => none
 | k + 1, x0, x1, x2, x7, x8, x9, x10, x32 => if x32 = true then (spec_ClearBetween.l1 k x0 x1 x2 x7 x8 x9 x10 0) else (some x7)
def spec_ClearBetween.l1 : Nat → List (S50) → List Int → List Int → Int → List Int → List Int → Int → Int → Option (Int)
 | 0, _, _, _, _, _, _, _, _ => none
 | k + 1, x0, x1, x2, x7, x8, x9, x10, x11 => if x11 < (x9.length : Int) then (if 0 ≤ x10 then (if x10 < (x8.length : Int) then ((spec_FindPath.f k x0 (rd x8 x10)).bind fun t665 => (if 0 ≤ t665 then (if t665 < (x0.length : Int) then (if 0 ≤ x11 then ((spec_FindPath.f k x0 (rd x9 x11)).bind fun t669 => (if 0 ≤ t669 then (if t669 < (x0.length : Int) then ((spec_Conflict.f k ((rd_T50 x0 t665).f0) ((rd_T50 x0 t665).f1) ((rd_T50 x0 t665).f2) ((rd_T50 x0 t665).f3) ((rd_T50 x0 t669).f0) ((rd_T50 x0 t669).f1) ((rd_T50 x0 t669).f2) ((rd_T50 x0 t669).f3)).bind fun t671 => (if t671 = true then ((spec_ClearOf.f ((rd_T50 x0 t665).f0) ((rd_T50 x0 t665).f1) ((rd_T50 x0 t665).f2) ((rd_T50 x0 t665).f3)).bind fun t672 => ((spec_Max.f x7 t672).bind fun t673 => (spec_ClearBetween.l1 k x0 x1 x2 t673 x8 x9 x10 (wrap64 (x11 + 1))))) else (spec_ClearBetween.l1 k x0 x1 x2 x7 x8 x9 x10 (wrap64 (x11 + 1))))) else (none)) else (none))) else (none)) else (none)) else (none))) else (none)) else (none)) else (spec_ClearBetween.l0 k x0 x1 x2 x7 x8 x9 (wrap64 (x10 + 1)))
end
def spec_ClearBetween.f (k : Nat) (l0 : List (S50)) (l1 : List Int) (l2 : List Int) : Option (Int) := (spec_Closes.f k l1 l2).bind fun t656 => ((spec_Closes.f k l2 l1).bind fun t659 => (spec_ClearBetween.l0 k l0 l1 l2 0 t656 t659 0))
theorem spec_ClearBetween.mono_l : ∀ k, (∀ y0 y1 y2 y3 y4 y5 y6, LeO (spec_ClearBetween.l0 k y0 y1 y2 y3 y4 y5 y6) (spec_ClearBetween.l0 (k + 1) y0 y1 y2 y3 y4 y5 y6)) ∧ (∀ y0 y1 y2 y3 y4 y5 y6 y7, LeO (spec_ClearBetween.j1 k y0 y1 y2 y3 y4 y5 y6 y7) (spec_ClearBetween.j1 (k + 1) y0 y1 y2 y3 y4 y5 y6 y7)) ∧ (∀ y0 y1 y2 y3 y4 y5 y6 y7, LeO (spec_ClearBetween.l1 k y0 y1 y2 y3 y4 y5 y6 y7) (spec_ClearBetween.l1 (k + 1) y0 y1 y2 y3 y4 y5 y6 y7))
 | 0 => ⟨fun _ _ _ _ _ _ _ r h => by simp [spec_ClearBetween.l0] at h, fun _ _ _ _ _ _ _ _ r h => by simp [spec_ClearBetween.j1] at h, fun _ _ _ _ _ _ _ _ r h => by simp [spec_ClearBetween.l1] at h⟩
 | k + 1 => by
  obtain ⟨ih0, ih1, ih2⟩ := spec_ClearBetween.mono_l k
  refine ⟨?_, ?_, ?_⟩
  ·
   intro y0 y1 y2 y3 y4 y5 y6
   unfold spec_ClearBetween.l0
   exact mz7 ih0 ih1 ih2 spec_Closes.mono spec_Conflict.mono spec_FindPath.mono spec_IsTogether.mono
  ·
   intro y0 y1 y2 y3 y4 y5 y6 y7
   unfold spec_ClearBetween.j1
   exact mz7 ih0 ih1 ih2 spec_Closes.mono spec_Conflict.mono spec_FindPath.mono spec_IsTogether.mono
  ·
   intro y0 y1 y2 y3 y4 y5 y6 y7
   unfold spec_ClearBetween.l1
   exact mz7 ih0 ih1 ih2 spec_Closes.mono spec_Conflict.mono spec_FindPath.mono spec_IsTogether.mono
theorem spec_ClearBetween.mono : ∀ a0 a1 a2 k, LeO (spec_ClearBetween.f k a0 a1 a2) (spec_ClearBetween.f (k + 1) a0 a1 a2) := by
 intro a0 a1 a2 k
 obtain ⟨ih0, ih1, ih2⟩ := spec_ClearBetween.mono_l k
 unfold spec_ClearBetween.f
 exact mz7 ih0 ih1 ih2 spec_Closes.mono spec_Conflict.mono spec_FindPath.mono spec_IsTogether.mono
def spec_ClearBetween.T11 : Bool × List (List Nat × List Nat) := (true, [([], []), ([], []), ([], []), ([], []), ([], []), ([3, 4], [3, 4]), ([5], [5]), ([2, 6], [2, 6]), ([1, 7], [1, 7]), ([8], [8]), ([0, 9, 7], [0, 9])])
def spec_ClearBetween.B11 : List Nat := [0, 0, 0, 0, 0, 24, 56, 124, 254, 510, 1023]
theorem spec_ClearBetween.tab11 : rtab .any (opsOf Try.f192 11) = spec_ClearBetween.T11 := by kernel_rfl
theorem spec_ClearBetween.bits11 : waitsOk spec_ClearBetween.T11.2 spec_ClearBetween.B11 = true := by kernel_rfl
set_option maxHeartbeats 8000000 in
set_option maxRecDepth 100000 in
theorem spec_ClearBetween.calls (k : Nat) (A0 : Option Addr) (c0 : Nat) (l0 : List (S50)) (A1 : Option Addr) (c1 : Nat) (l1 : List Int) (A2 : Option Addr) (c2 : Nat) (l2 : List Int) (r : Int) (w : World) (hr0 : Kd.C k50 w A0 l0.length l0) (hc0 : l0.length ≤ c0) (hr1 : Kd.C (Kd.int .i64) w A1 l1.length l1) (hc1 : l1.length ≤ c1) (hr2 : Kd.C (Kd.int .i64) w A2 l2.length l2) (hc2 : l2.length ≤ c2) (h : spec_ClearBetween.f k l0 l1 l2 = some r) :
  Calls Try.prog 192 #[.slice A0 l0.length c0, .slice A1 l1.length c1, .slice A2 l2.length c2] w fun e w' => e = .returned (.int .i64 r) ∧ Below w.heap.size w w' := by
 have hu50 := Try.underlying50
 have HR0 := Aside0.mk hr0
 have HC0 := Aside0.mk hc0
 clear hr0 hc0
 have HR1 := Aside0.mk hr1
 have HC1 := Aside0.mk hc1
 clear hr1 hc1
 have HR2 := Aside0.mk hr2
 have HC2 := Aside0.mk hc2
 clear hr2 hc2
 have HB := Aside0.mk (Below.refl w.heap.size w)
 have H : ((spec_Closes.f k l1 l2).bind fun t656 => ((spec_Closes.f k l2 l1).bind fun t659 => (spec_ClearBetween.l0 k l0 l1 l2 0 t656 t659 0))) = some r := h
 clear h
 obtain ⟨t656, A4, H⟩ := bindE H
 try dsimp only at H
 obtain ⟨t659, A5, H⟩ := bindE H
 try dsimp only at H
 have H' := Aside0.mk H
 clear H
 go_enter Try.func192, Try.ntmps192
 go_wp2_with (first | ((with_reducible refine gate_callee (f := 198) rfl ?_); refine gL (some 15) Try.func198 #[.slice A1 l1.length c1, .slice A2 l2.length c2] ?_; (with_reducible refine (spec_Closes.calls k _ _ l1 _ _ l2 t656 _ ?_ ?_ ?_ ?_ A4.out).mono ?_); exact cO HR1; exact HC1.out; exact cO HR2; exact HC2.out; rintro e w6 ⟨v657, rfl, ho0, hb⟩; refine ⟨_, rfl, ?_⟩; have HO658 := rl w ho0; replace HB := bs HB hb; (try clear hb); (try clear ho0)) | ((with_reducible refine gate_callee (f := 198) rfl ?_); refine gL (some 18) Try.func198 #[.slice A2 l2.length c2, .slice A1 l1.length c1] ?_; (with_reducible refine (spec_Closes.calls k _ _ l2 _ _ l1 t659 _ ?_ ?_ ?_ ?_ A5.out).mono ?_); exact cB HR2; exact HC2.out; exact cB HR1; exact HC1.out; rintro e w7 ⟨v660, rfl, ho0, hb⟩; refine ⟨_, rfl, ?_⟩; have HO661 := rl w (rn ho0 HO658); replace HO658 := re HO658 ho0 hb; replace HB := bs HB hb; (try clear hb); (try clear ho0)))
 go_loopg [7, 10] k (fun kq v7 v10 w' => ∃ (x7_1 : Int) (x10_1 : Int), v7 = .int .i64 x7_1 ∧ v10 = .int .i64 x10_1 ∧ Aside0 (spec_ClearBetween.l0 kq l0 l1 l2 x7_1 t656 t659 x10_1 = some r) ∧ Aside0 (kq ≤ k) ∧ Aside0 (Kd.R (Kd.int .i64) 3 w' w.heap.size (n1 v660) v657 t656) ∧ Aside0 (Kd.R (Kd.int .i64) 3 w' w.heap.size (n1 v657) v660 t659) ∧ Aside0 (Below w.heap.size w w'))
 case atStart => exact ⟨(0), (0), rS, rS, H', ⟨Nat.le_refl _⟩, ⟨rm HO658 (fun _ hk => hk.2)⟩, ⟨rm HO661 (fun _ hk => hk.2)⟩, ⟨bA⟩⟩
 case round =>
  clear H'
  obtain ⟨x7_1, x10_1, rfl, rfl, HA, HK1, HO_8, HO_9, HB⟩ := hrel
  cases gk with
  | zero => exact absurd HA.out (by simp [spec_ClearBetween.l0])
  | succ k1 =>
   have H := HA.out
   clear HA
   simp only [spec_ClearBetween.l0] at H
   have HC8 := Aside0.mk H
   clear H
   go_upto_region 5 with (fail)
   go_cut [32] (fun v32 wc => ∃ (kq : Nat) (x32_7 : Bool), v32 = .bool x32_7 ∧ Aside0 (spec_ClearBetween.j1 kq l0 l1 l2 x7_1 t656 t659 x10_1 x32_7 = some r) ∧ Aside0 (kq ≤ k1) ∧ Aside0 (Kd.R (Kd.int .i64) 3 wc w.heap.size (n1 v660) v657 t656) ∧ Aside0 (Kd.R (Kd.int .i64) 3 wc w.heap.size (n1 v657) v660 t659) ∧ Aside0 (Below w.heap.size w wc))
   case first =>
    have H := HC8.out
    clear HC8
    by_cases c9 : x10_1 < (t656.length : Int)
    ·
     rw [if_pos c9] at H
     have c9b0 := decide_eq_true c9
     clear c9
     (first | rw [c9b0] | (simp only [i64_w, i32_w]; rw [c9b0]) | skip)
     obtain ⟨t662, A10, H⟩ := bindE H
     try dsimp only at H
     by_cases c11 : t662 = true
     ·
      subst c11
      have H1 : ((spec_IsTogether.f k1 l0 l2).bind fun t663 => (spec_ClearBetween.j1 k1 l0 l1 l2 x7_1 t656 t659 x10_1 t663)) = some r := by rw [if_pos rfl] at H; exact H
      clear H
      have H := H1
      clear H1
      obtain ⟨t663, A12, H⟩ := bindE H
      try dsimp only at H
      have H' := Aside0.mk H
      clear H
      obtain ⟨Ao13, co13, eo13⟩ := Kd.R_slice HO_8.out
      subst eo13
      go_wp2_with (first | (go_at_call 112; (with_reducible refine (spec_IsTogether.calls k1 _ _ l0 _ _ l1 true _ ?_ ?_ ?_ ?_ A10.out).mono ?_); exact cB HR0; exact HC0.out; exact cB HR1; exact HC1.out; rintro e w14 ⟨rfl, hb⟩; replace HO_8 := rb HO_8 hb; replace HO_9 := rb HO_9 hb; replace HB := bs HB hb; (try clear hb)) | (go_at_call 112; (with_reducible refine (spec_IsTogether.calls k1 _ _ l0 _ _ l2 t663 _ ?_ ?_ ?_ ?_ A12.out).mono ?_); exact cB HR0; exact HC0.out; exact cB HR2; exact HC2.out; rintro e w15 ⟨rfl, hb⟩; replace HO_8 := rb HO_8 hb; replace HO_9 := rb HO_9 hb; replace HB := bs HB hb; (try clear hb)))
      go_meet
      case rel => exact ⟨_, (t663), rS, H', ⟨by have := HK1.out; first | omega | exact Nat.le_refl _⟩, ⟨rK HO_8⟩, ⟨rK HO_9⟩, ⟨bA⟩⟩
     replace c11 := Bool.eq_false_iff.mpr c11
     subst c11
     have H1 : (spec_ClearBetween.j1 k1 l0 l1 l2 x7_1 t656 t659 x10_1 false) = some r := by rw [if_neg (show ¬ (false = true) by decide)] at H; exact H
     clear H
     have H := H1
     clear H1
     have H' := Aside0.mk H
     clear H
     obtain ⟨Ao16, co16, eo16⟩ := Kd.R_slice HO_8.out
     subst eo16
     go_wp2_with (first | (go_at_call 112; (with_reducible refine (spec_IsTogether.calls k1 _ _ l0 _ _ l1 false _ ?_ ?_ ?_ ?_ A10.out).mono ?_); exact cB HR0; exact HC0.out; exact cB HR1; exact HC1.out; rintro e w17 ⟨rfl, hb⟩; replace HO_8 := rb HO_8 hb; replace HO_9 := rb HO_9 hb; replace HB := bs HB hb; (try clear hb)))
     go_meet
     case rel => exact ⟨_, (false), rS, H', ⟨by have := HK1.out; first | omega | exact Nat.le_refl _⟩, ⟨rK HO_8⟩, ⟨rK HO_9⟩, ⟨bA⟩⟩
    rw [if_neg c9] at H
    have c9b0 := decide_eq_false c9
    clear c9
    (first | rw [c9b0] | (simp only [i64_w, i32_w]; rw [c9b0]) | skip)
    have H' := Aside0.mk H
    clear H
    obtain ⟨Ao18, co18, eo18⟩ := Kd.R_slice HO_8.out
    subst eo18
    go_wp2
    go_meet
    case rel => exact ⟨_, (false), rS, H', ⟨by have := HK1.out; first | omega | exact Nat.le_refl _⟩, ⟨rK HO_8⟩, ⟨rK HO_9⟩, ⟨bA⟩⟩
   case rest =>
    clear HC8
    obtain ⟨kq, x32_7, rfl, HA, HJ7, HO_8, HO_9, HB⟩ := hcut
    cases kq with
    | zero => exact absurd HA.out (by simp [spec_ClearBetween.j1])
    | succ kj7 =>
     have H := HA.out
     clear HA
     simp only [spec_ClearBetween.j1] at H
     by_cases c19 : x32_7 = true
     ·
      subst c19
      have H1 : (spec_ClearBetween.l1 kj7 l0 l1 l2 x7_1 t656 t659 x10_1 0) = some r := by rw [if_pos rfl] at H; exact H
      clear H
      have H := H1
      clear H1
      have H' := Aside0.mk H
      clear H
      go_wp2
      go_loopg [7, 11] kj7 (fun kq v7 v11 w' => ∃ (x7_3 : Int) (x11_3 : Int), v7 = .int .i64 x7_3 ∧ v11 = .int .i64 x11_3 ∧ Aside0 (spec_ClearBetween.l1 kq l0 l1 l2 x7_3 t656 t659 x10_1 x11_3 = some r) ∧ Aside0 (kq ≤ kj7) ∧ Aside0 (Kd.R (Kd.int .i64) 3 w' w.heap.size (n1 v660) v657 t656) ∧ Aside0 (Kd.R (Kd.int .i64) 3 w' w.heap.size (n1 v657) v660 t659) ∧ Aside0 (Below w.heap.size w w'))
      case atStart => exact ⟨(x7_1), (0), rS, rS, H', ⟨Nat.le_refl _⟩, ⟨rK HO_8⟩, ⟨rK HO_9⟩, ⟨bA⟩⟩
      case round =>
       clear H'
       obtain ⟨x7_3, x11_3, rfl, rfl, HA, HK3, HO_8, HO_9, HB⟩ := hrel
       cases gk with
       | zero => exact absurd HA.out (by simp [spec_ClearBetween.l1])
       | succ k3 =>
        have H := HA.out
        clear HA
        simp only [spec_ClearBetween.l1] at H
        by_cases c20 : x11_3 < (t659.length : Int)
        ·
         rw [if_pos c20] at H
         have c20b0 := decide_eq_true c20
         clear c20
         have c21 : 0 ≤ x10_1 := ifN H
         replace H := ifT H
         have c21b0 := decide_eq_true c21
         clear c21
         have c22 : x10_1 < (t656.length : Int) := ifN H
         replace H := ifT H
         have c22b0 := decide_eq_true c22
         clear c22
         obtain ⟨t665, A23, H⟩ := bindE H
         try dsimp only at H
         have c24 : 0 ≤ t665 := ifN H
         replace H := ifT H
         have c24b0 := decide_eq_true c24
         clear c24
         have c25 : t665 < (l0.length : Int) := ifN H
         replace H := ifT H
         have c25b0 := decide_eq_true c25
         clear c25
         have c26 : 0 ≤ x11_3 := ifN H
         replace H := ifT H
         have c26b0 := decide_eq_true c26
         clear c26
         obtain ⟨t669, A27, H⟩ := bindE H
         try dsimp only at H
         have c28 : 0 ≤ t669 := ifN H
         replace H := ifT H
         have c28b0 := decide_eq_true c28
         clear c28
         have c29 : t669 < (l0.length : Int) := ifN H
         replace H := ifT H
         have c29b0 := decide_eq_true c29
         clear c29
         obtain ⟨t671, A30, H⟩ := bindE H
         try dsimp only at H
         by_cases c31 : t671 = true
         ·
          subst c31
          have H1 : ((spec_ClearOf.f ((rd_T50 l0 t665).f0) ((rd_T50 l0 t665).f1) ((rd_T50 l0 t665).f2) ((rd_T50 l0 t665).f3)).bind fun t672 => ((spec_Max.f x7_3 t672).bind fun t673 => (spec_ClearBetween.l1 k3 l0 l1 l2 t673 t656 t659 x10_1 (wrap64 (x11_3 + 1))))) = some r := by rw [if_pos rfl] at H; exact H
          clear H
          have H := H1
          clear H1
          obtain ⟨t672, A32, H⟩ := bindE H
          try dsimp only at H
          obtain ⟨t673, A33, H⟩ := bindE H
          try dsimp only at H
          have H' := Aside0.mk H
          clear H
          obtain ⟨Ao34, co34, eo34⟩ := Kd.R_slice HO_9.out
          subst eo34
          obtain ⟨Ao35, co35, eo35⟩ := Kd.R_slice HO_8.out
          subst eo35
          obtain ⟨p664, q664⟩ : 0 ≤ (x10_1 : Int) ∧ x10_1 < (t656.length : Int) := ⟨dA, dA⟩
          obtain ⟨ad664, e664, hx664_0⟩ := Kd.at_int (Kd.R_reads' HO_8.out).2.2 x10_1 p664 q664
          cases e664
          obtain ⟨p664, q664⟩ := eT p664 q664
          try go_wp2_with (first | ((with_reducible refine gate_callee (f := 144) rfl ?_); refine gL (some 47) Try.func144 #[.slice A0 l0.length c0, .int .i64 (rd t656 x10_1)] ?_; (with_reducible refine (spec_FindPath.calls k3 _ _ l0 (rd t656 x10_1) t665 _ ?_ ?_ A23.out).mono ?_); exact cB HR0; exact HC0.out; rintro e w' ⟨rfl, ⟨nd, rfl⟩⟩; refine ⟨_, rfl, ?_⟩; (try (rw [drewN_self wr]; generalize hq_ : World.drewN wr _ = wr; have n0_ : Aside0 (Kd.R (Kd.int .i64) 3 wr w.heap.size (n1 (.slice Ao34 t659.length co34)) (.slice (some ad664) t656.length co35) t656) := ⟨by rw [← hq_]; exact (rK HO_8)⟩; have n1_ : Aside0 (Kd.R (Kd.int .i64) 3 wr w.heap.size (n1 (.slice (some ad664) t656.length co35)) (.slice Ao34 t659.length co34) t659) := ⟨by rw [← hq_]; exact (rK HO_9)⟩; have n2_ : Aside0 (Below w.heap.size w wr) := ⟨by rw [← hq_]; exact bA⟩; clear HO_8 HO_9 HB hq_; have HO_8 := n0_; have HO_9 := n1_; have HB := n2_; clear n0_ n1_ n2_)); have p666 : 0 ≤ (t665 : Int) := dA; have q666 : t665 < (l0.length : Int) := dA; obtain ⟨ad666, e666, hx666_0, hx666_1, hx666_2, hx666_3⟩ := at_T50 HR0.out t665 p666 q666; cases e666; replace hx666_0 := hC HB hx666_0; replace hx666_1 := hC HB hx666_1; replace hx666_2 := hC HB hx666_2; replace hx666_3 := hC HB hx666_3; replace p666 := eq_true p666; replace q666 := eq_true q666) | ((with_reducible refine gate_dst (N := 12) rfl ?_); refine bE (N := 12) (cs := #[.int .i64 0, .int .i64 0, .int .i64 0, .int .i64 0]) (t := 50) ?_; intro gb667 hg w36 hbox hb; replace HO_8 := rb HO_8 hb; replace HO_9 := rb HO_9 hb; have BK667 := Aside0.mk (hbox); have GW667 := gw w hg; have GE667 := gw w hg; replace HB := bs HB hb; clear hb hbox hg; obtain ⟨_, _, _, _, _, _, _, _⟩ := blkc4 BK667))
          have n0_ : Aside0 (Kd.R (Kd.int .i64) 3 ((((w36.setCell ⟨gb667, 0, none⟩ (.int .i64 ((rd_T50 l0 t665).f0))).setCell ⟨gb667, 1, none⟩ (.int .i64 ((rd_T50 l0 t665).f1))).setCell ⟨gb667, 2, none⟩ (.int .i64 ((rd_T50 l0 t665).f2))).setCell ⟨gb667, 3, none⟩ (.int .i64 ((rd_T50 l0 t665).f3))) w.heap.size (n1 (.slice Ao34 t659.length co34)) (.slice (some ad664) t656.length co35) t656) := ⟨rf HO_8 BK667⟩
          have n1_ : Aside0 (Kd.R (Kd.int .i64) 3 ((((w36.setCell ⟨gb667, 0, none⟩ (.int .i64 ((rd_T50 l0 t665).f0))).setCell ⟨gb667, 1, none⟩ (.int .i64 ((rd_T50 l0 t665).f1))).setCell ⟨gb667, 2, none⟩ (.int .i64 ((rd_T50 l0 t665).f2))).setCell ⟨gb667, 3, none⟩ (.int .i64 ((rd_T50 l0 t665).f3))) w.heap.size (n1 (.slice (some ad664) t656.length co35)) (.slice Ao34 t659.length co34) t659) := ⟨rf HO_9 BK667⟩
          have n2_ : Aside0 (((((w36.setCell ⟨gb667, 0, none⟩ (.int .i64 ((rd_T50 l0 t665).f0))).setCell ⟨gb667, 1, none⟩ (.int .i64 ((rd_T50 l0 t665).f1))).setCell ⟨gb667, 2, none⟩ (.int .i64 ((rd_T50 l0 t665).f2))).setCell ⟨gb667, 3, none⟩ (.int .i64 ((rd_T50 l0 t665).f3))).heap[gb667]? = some (.cells #[.int .i64 ((rd_T50 l0 t665).f0), .int .i64 ((rd_T50 l0 t665).f1), .int .i64 ((rd_T50 l0 t665).f2), .int .i64 ((rd_T50 l0 t665).f3)] 50 (0, 0))) := ⟨kp BK667⟩
          have n3_ : Aside0 (Below w.heap.size w ((((w36.setCell ⟨gb667, 0, none⟩ (.int .i64 ((rd_T50 l0 t665).f0))).setCell ⟨gb667, 1, none⟩ (.int .i64 ((rd_T50 l0 t665).f1))).setCell ⟨gb667, 2, none⟩ (.int .i64 ((rd_T50 l0 t665).f2))).setCell ⟨gb667, 3, none⟩ (.int .i64 ((rd_T50 l0 t665).f3)))) := ⟨bG⟩
          (try clear HO_8)
          (try clear HO_9)
          (try clear BK667)
          (try clear HB)
          generalize ((((w36.setCell ⟨gb667, 0, none⟩ (.int .i64 ((rd_T50 l0 t665).f0))).setCell ⟨gb667, 1, none⟩ (.int .i64 ((rd_T50 l0 t665).f1))).setCell ⟨gb667, 2, none⟩ (.int .i64 ((rd_T50 l0 t665).f2))).setCell ⟨gb667, 3, none⟩ (.int .i64 ((rd_T50 l0 t665).f3))) = w38 at n0_ n1_ n2_ n3_ ⊢
          have HO_8 := n0_
          have HO_9 := n1_
          have BK667 := n2_
          have HB := n3_
          clear n0_ n1_ n2_ n3_
          replace HO_8 := dr HO_8
          replace HO_9 := dr HO_9
          replace BK667 := dk BK667
          have HBo := HB
          replace HB := db HB
          obtain ⟨p668, q668⟩ : 0 ≤ (x11_3 : Int) ∧ x11_3 < (t659.length : Int) := ⟨dA, dA⟩
          obtain ⟨ad668, e668, hx668_0⟩ := Kd.at_int (Kd.R_reads' HO_9.out).2.2 x11_3 p668 q668
          cases e668
          obtain ⟨p668, q668⟩ := eT p668 q668
          obtain ⟨p670, q670⟩ : 0 ≤ (t669 : Int) ∧ t669 < (l0.length : Int) := ⟨dA, dA⟩
          obtain ⟨ad670, e670, hx670_0, hx670_1, hx670_2, hx670_3⟩ := at_T50 HR0.out t669 p670 q670
          have hw670_3 := hx670_3
          have hw670_2 := hx670_2
          have hw670_1 := hx670_1
          have hw670_0 := hx670_0
          obtain rfl : ad666 = ad670 := (by injection e670)
          replace hx670_0 := hC HB hx670_0
          replace hx670_1 := hC HB hx670_1
          replace hx670_2 := hC HB hx670_2
          replace hx670_3 := hC HB hx670_3
          obtain ⟨p670, q670⟩ := eT p670 q670
          refine sw (ds := []) 11 (mb 11 0) spec_ClearBetween.tab11 spec_ClearBetween.bits11 (h4c BK667 (h1c hx668_0 (h1c (hC HB hw670_0) (h1c (hC HB hw670_1) (h1c (hC HB hw670_2) (h1 (hC HB hw670_3))))))) (fun hHeld HT_ HW_ => ?_)
          generalize w38.drew = w39 at HO_8 HO_9 BK667 HB hx668_0 hx670_0 hx670_1 hx670_2 hx670_3 hHeld ⊢
          refine pa 1 51 (mb 11 2) HT_ ?_
          refine pa 2 52 (mb 11 6) HT_ ?_
          refine pa 3 53 (mb 11 14) HT_ ?_
          refine pa 4 54 (mb 11 30) HT_ ?_
          refine pa 5 55 (mb 11 62) HT_ ?_
          refine ta9 0 50 (mb 11 63) HT_ HW_ hHeld ?_
          refine ta9 6 56 (mb 11 127) HT_ HW_ hHeld ?_
          refine oa 7 57 (mb 11 255) HT_ (fun K hK => ?_)
          refine gA Try.func144 #[.slice (some ad666) l0.length c0, .int .i64 (rd t659 x11_3)] ?_
          with_reducible refine (spec_FindPath.calls k3 _ _ l0 (rd t659 x11_3) t669 _ ?side1 ?side2 A27.out).mono ?_
          (case side1 => exact cB HR0)
          (case side2 => exact HC0.out)
          rintro e w' ⟨rfl, ⟨nd, rfl⟩⟩
          refine ⟨_, rfl, ?_⟩
          refine hK.out _ _ (cm4 BK667 ⟨hHeld.2.2.2.2.1, (hC HB hw670_0), (hC HB hw670_1), (hC HB hw670_2), (hC HB hw670_3)⟩) (fun hHeld => ?_)
          clear hK K
          refine nB ?_
          refine pa 8 58 (mb 11 511) HT_ ?_
          refine ta9 9 59 (mb 11 1023) HT_ HW_ hHeld ?_
          refine oa 10 60 (mb 11 2047) HT_ (fun K hK => ?_)
          refine gA Try.func145 #[.agg #[.int .i64 ((rd_T50 l0 t665).f0), .int .i64 ((rd_T50 l0 t665).f1), .int .i64 ((rd_T50 l0 t665).f2), .int .i64 ((rd_T50 l0 t665).f3)], .agg #[.int .i64 ((rd_T50 l0 t669).f0), .int .i64 ((rd_T50 l0 t669).f1), .int .i64 ((rd_T50 l0 t669).f2), .int .i64 ((rd_T50 l0 t669).f3)]] ?_
          with_reducible refine (spec_Conflict.calls k3 ((rd_T50 l0 t665).f0) ((rd_T50 l0 t665).f1) ((rd_T50 l0 t665).f2) ((rd_T50 l0 t665).f3) ((rd_T50 l0 t669).f0) ((rd_T50 l0 t669).f1) ((rd_T50 l0 t669).f2) ((rd_T50 l0 t669).f3) true _ A30.out).mono ?_
          rintro e w40 ⟨rfl, hb⟩
          have HS4_ := (hb.cell (World.block_lt_of_cell? _ _ (hHeld.2.2.2.2.1))).trans (hHeld.2.2.2.2.1)
          refine ⟨_, rfl, ?_⟩
          replace HO_8 := rb HO_8 hb
          replace HO_9 := rb HO_9 hb
          replace BK667 := kb BK667 hb
          replace HB := bs HB hb
          (try clear hb)
          (try clear hb2)
          (try clear hk)
          (try clear hi)
          refine hK.out _ _ (cm4 BK667 ⟨HS4_, (hC HB hw670_0), (hC HB hw670_1), (hC HB hw670_2), (hC HB hw670_3)⟩) (fun hHeld => ?_)
          clear hK K
          refine nB ?_
          refine eA HT_ ?_
          obtain ⟨_, _, _, _, _, _, _, _⟩ := blkc4 BK667
          try go_wp2_with (first | ((with_reducible refine gate_callee (f := 185) rfl ?_); refine gL (some 63) Try.func185 #[.agg #[.int .i64 ((rd_T50 l0 t665).f0), .int .i64 ((rd_T50 l0 t665).f1), .int .i64 ((rd_T50 l0 t665).f2), .int .i64 ((rd_T50 l0 t665).f3)]] ?_; (with_reducible refine (spec_ClearOf.calls ((rd_T50 l0 t665).f0) ((rd_T50 l0 t665).f1) ((rd_T50 l0 t665).f2) ((rd_T50 l0 t665).f3) t672 _ A32.out).mono ?_); rintro e w42 ⟨rfl, hb⟩; refine ⟨_, rfl, ?_⟩; replace HO_8 := rb HO_8 hb; replace HO_9 := rb HO_9 hb; replace BK667 := kb BK667 hb; replace HB := bs HB hb; (try clear hb)) | ((with_reducible refine gate_callee (f := 199) rfl ?_); refine gL (some 64) Try.func199 #[.int .i64 x7_3, .int .i64 t672] ?_; (with_reducible refine (spec_Max.calls x7_3 t672 t673 _ A33.out).mono ?_); rintro e w' ⟨rfl, ⟨nd, rfl⟩⟩; refine ⟨_, rfl, ?_⟩))
          go_roundg k3
          case measure => have := HK1.out; have := HJ7.out; have := HK3.out; omega
          case rel => exact ⟨(t673), (wrap64 (x11_3 + 1)), rS, rS, H', ⟨by have := HK1.out; have := HJ7.out; have := HK3.out; omega⟩, ⟨rK HO_8⟩, ⟨rK HO_9⟩, ⟨bG⟩⟩
         replace c31 := Bool.eq_false_iff.mpr c31
         subst c31
         have H1 : (spec_ClearBetween.l1 k3 l0 l1 l2 x7_3 t656 t659 x10_1 (wrap64 (x11_3 + 1))) = some r := by rw [if_neg (show ¬ (false = true) by decide)] at H; exact H
         clear H
         have H := H1
         clear H1
         have H' := Aside0.mk H
         clear H
         obtain ⟨Ao43, co43, eo43⟩ := Kd.R_slice HO_9.out
         subst eo43
         obtain ⟨Ao44, co44, eo44⟩ := Kd.R_slice HO_8.out
         subst eo44
         obtain ⟨p664, q664⟩ : 0 ≤ (x10_1 : Int) ∧ x10_1 < (t656.length : Int) := ⟨dA, dA⟩
         obtain ⟨ad664, e664, hx664_0⟩ := Kd.at_int (Kd.R_reads' HO_8.out).2.2 x10_1 p664 q664
         cases e664
         obtain ⟨p664, q664⟩ := eT p664 q664
         try go_wp2_with (first | ((with_reducible refine gate_callee (f := 144) rfl ?_); refine gL (some 47) Try.func144 #[.slice A0 l0.length c0, .int .i64 (rd t656 x10_1)] ?_; (with_reducible refine (spec_FindPath.calls k3 _ _ l0 (rd t656 x10_1) t665 _ ?_ ?_ A23.out).mono ?_); exact cB HR0; exact HC0.out; rintro e w' ⟨rfl, ⟨nd, rfl⟩⟩; refine ⟨_, rfl, ?_⟩; (try (rw [drewN_self wr]; generalize hq_ : World.drewN wr _ = wr; have n0_ : Aside0 (Kd.R (Kd.int .i64) 3 wr w.heap.size (n1 (.slice Ao43 t659.length co43)) (.slice (some ad664) t656.length co44) t656) := ⟨by rw [← hq_]; exact (rK HO_8)⟩; have n1_ : Aside0 (Kd.R (Kd.int .i64) 3 wr w.heap.size (n1 (.slice (some ad664) t656.length co44)) (.slice Ao43 t659.length co43) t659) := ⟨by rw [← hq_]; exact (rK HO_9)⟩; have n2_ : Aside0 (Below w.heap.size w wr) := ⟨by rw [← hq_]; exact bA⟩; clear HO_8 HO_9 HB hq_; have HO_8 := n0_; have HO_9 := n1_; have HB := n2_; clear n0_ n1_ n2_)); have p666 : 0 ≤ (t665 : Int) := dA; have q666 : t665 < (l0.length : Int) := dA; obtain ⟨ad666, e666, hx666_0, hx666_1, hx666_2, hx666_3⟩ := at_T50 HR0.out t665 p666 q666; cases e666; replace hx666_0 := hC HB hx666_0; replace hx666_1 := hC HB hx666_1; replace hx666_2 := hC HB hx666_2; replace hx666_3 := hC HB hx666_3; replace p666 := eq_true p666; replace q666 := eq_true q666) | ((with_reducible refine gate_dst (N := 12) rfl ?_); refine bE (N := 12) (cs := #[.int .i64 0, .int .i64 0, .int .i64 0, .int .i64 0]) (t := 50) ?_; intro gb667 hg w45 hbox hb; replace HO_8 := rb HO_8 hb; replace HO_9 := rb HO_9 hb; have BK667 := Aside0.mk (hbox); have GW667 := gw w hg; have GE667 := gw w hg; replace HB := bs HB hb; clear hb hbox hg; obtain ⟨_, _, _, _, _, _, _, _⟩ := blkc4 BK667))
         have n0_ : Aside0 (Kd.R (Kd.int .i64) 3 ((((w45.setCell ⟨gb667, 0, none⟩ (.int .i64 ((rd_T50 l0 t665).f0))).setCell ⟨gb667, 1, none⟩ (.int .i64 ((rd_T50 l0 t665).f1))).setCell ⟨gb667, 2, none⟩ (.int .i64 ((rd_T50 l0 t665).f2))).setCell ⟨gb667, 3, none⟩ (.int .i64 ((rd_T50 l0 t665).f3))) w.heap.size (n1 (.slice Ao43 t659.length co43)) (.slice (some ad664) t656.length co44) t656) := ⟨rf HO_8 BK667⟩
         have n1_ : Aside0 (Kd.R (Kd.int .i64) 3 ((((w45.setCell ⟨gb667, 0, none⟩ (.int .i64 ((rd_T50 l0 t665).f0))).setCell ⟨gb667, 1, none⟩ (.int .i64 ((rd_T50 l0 t665).f1))).setCell ⟨gb667, 2, none⟩ (.int .i64 ((rd_T50 l0 t665).f2))).setCell ⟨gb667, 3, none⟩ (.int .i64 ((rd_T50 l0 t665).f3))) w.heap.size (n1 (.slice (some ad664) t656.length co44)) (.slice Ao43 t659.length co43) t659) := ⟨rf HO_9 BK667⟩
         have n2_ : Aside0 (((((w45.setCell ⟨gb667, 0, none⟩ (.int .i64 ((rd_T50 l0 t665).f0))).setCell ⟨gb667, 1, none⟩ (.int .i64 ((rd_T50 l0 t665).f1))).setCell ⟨gb667, 2, none⟩ (.int .i64 ((rd_T50 l0 t665).f2))).setCell ⟨gb667, 3, none⟩ (.int .i64 ((rd_T50 l0 t665).f3))).heap[gb667]? = some (.cells #[.int .i64 ((rd_T50 l0 t665).f0), .int .i64 ((rd_T50 l0 t665).f1), .int .i64 ((rd_T50 l0 t665).f2), .int .i64 ((rd_T50 l0 t665).f3)] 50 (0, 0))) := ⟨kp BK667⟩
         have n3_ : Aside0 (Below w.heap.size w ((((w45.setCell ⟨gb667, 0, none⟩ (.int .i64 ((rd_T50 l0 t665).f0))).setCell ⟨gb667, 1, none⟩ (.int .i64 ((rd_T50 l0 t665).f1))).setCell ⟨gb667, 2, none⟩ (.int .i64 ((rd_T50 l0 t665).f2))).setCell ⟨gb667, 3, none⟩ (.int .i64 ((rd_T50 l0 t665).f3)))) := ⟨bG⟩
         (try clear HO_8)
         (try clear HO_9)
         (try clear BK667)
         (try clear HB)
         generalize ((((w45.setCell ⟨gb667, 0, none⟩ (.int .i64 ((rd_T50 l0 t665).f0))).setCell ⟨gb667, 1, none⟩ (.int .i64 ((rd_T50 l0 t665).f1))).setCell ⟨gb667, 2, none⟩ (.int .i64 ((rd_T50 l0 t665).f2))).setCell ⟨gb667, 3, none⟩ (.int .i64 ((rd_T50 l0 t665).f3))) = w47 at n0_ n1_ n2_ n3_ ⊢
         have HO_8 := n0_
         have HO_9 := n1_
         have BK667 := n2_
         have HB := n3_
         clear n0_ n1_ n2_ n3_
         replace HO_8 := dr HO_8
         replace HO_9 := dr HO_9
         replace BK667 := dk BK667
         have HBo := HB
         replace HB := db HB
         obtain ⟨p668, q668⟩ : 0 ≤ (x11_3 : Int) ∧ x11_3 < (t659.length : Int) := ⟨dA, dA⟩
         obtain ⟨ad668, e668, hx668_0⟩ := Kd.at_int (Kd.R_reads' HO_9.out).2.2 x11_3 p668 q668
         cases e668
         obtain ⟨p668, q668⟩ := eT p668 q668
         obtain ⟨p670, q670⟩ : 0 ≤ (t669 : Int) ∧ t669 < (l0.length : Int) := ⟨dA, dA⟩
         obtain ⟨ad670, e670, hx670_0, hx670_1, hx670_2, hx670_3⟩ := at_T50 HR0.out t669 p670 q670
         have hw670_3 := hx670_3
         have hw670_2 := hx670_2
         have hw670_1 := hx670_1
         have hw670_0 := hx670_0
         obtain rfl : ad666 = ad670 := (by injection e670)
         replace hx670_0 := hC HB hx670_0
         replace hx670_1 := hC HB hx670_1
         replace hx670_2 := hC HB hx670_2
         replace hx670_3 := hC HB hx670_3
         obtain ⟨p670, q670⟩ := eT p670 q670
         refine sw (ds := []) 11 (mb 11 0) spec_ClearBetween.tab11 spec_ClearBetween.bits11 (h4c BK667 (h1c hx668_0 (h1c (hC HB hw670_0) (h1c (hC HB hw670_1) (h1c (hC HB hw670_2) (h1 (hC HB hw670_3))))))) (fun hHeld HT_ HW_ => ?_)
         generalize w47.drew = w48 at HO_8 HO_9 BK667 HB hx668_0 hx670_0 hx670_1 hx670_2 hx670_3 hHeld ⊢
         refine pa 1 51 (mb 11 2) HT_ ?_
         refine pa 2 52 (mb 11 6) HT_ ?_
         refine pa 3 53 (mb 11 14) HT_ ?_
         refine pa 4 54 (mb 11 30) HT_ ?_
         refine pa 5 55 (mb 11 62) HT_ ?_
         refine ta9 0 50 (mb 11 63) HT_ HW_ hHeld ?_
         refine ta9 6 56 (mb 11 127) HT_ HW_ hHeld ?_
         refine oa 7 57 (mb 11 255) HT_ (fun K hK => ?_)
         refine gA Try.func144 #[.slice (some ad666) l0.length c0, .int .i64 (rd t659 x11_3)] ?_
         with_reducible refine (spec_FindPath.calls k3 _ _ l0 (rd t659 x11_3) t669 _ ?side1 ?side2 A27.out).mono ?_
         (case side1 => exact cB HR0)
         (case side2 => exact HC0.out)
         rintro e w' ⟨rfl, ⟨nd, rfl⟩⟩
         refine ⟨_, rfl, ?_⟩
         refine hK.out _ _ (cm4 BK667 ⟨hHeld.2.2.2.2.1, (hC HB hw670_0), (hC HB hw670_1), (hC HB hw670_2), (hC HB hw670_3)⟩) (fun hHeld => ?_)
         clear hK K
         refine nB ?_
         refine pa 8 58 (mb 11 511) HT_ ?_
         refine ta9 9 59 (mb 11 1023) HT_ HW_ hHeld ?_
         refine oa 10 60 (mb 11 2047) HT_ (fun K hK => ?_)
         refine gA Try.func145 #[.agg #[.int .i64 ((rd_T50 l0 t665).f0), .int .i64 ((rd_T50 l0 t665).f1), .int .i64 ((rd_T50 l0 t665).f2), .int .i64 ((rd_T50 l0 t665).f3)], .agg #[.int .i64 ((rd_T50 l0 t669).f0), .int .i64 ((rd_T50 l0 t669).f1), .int .i64 ((rd_T50 l0 t669).f2), .int .i64 ((rd_T50 l0 t669).f3)]] ?_
         with_reducible refine (spec_Conflict.calls k3 ((rd_T50 l0 t665).f0) ((rd_T50 l0 t665).f1) ((rd_T50 l0 t665).f2) ((rd_T50 l0 t665).f3) ((rd_T50 l0 t669).f0) ((rd_T50 l0 t669).f1) ((rd_T50 l0 t669).f2) ((rd_T50 l0 t669).f3) false _ A30.out).mono ?_
         rintro e w49 ⟨rfl, hb⟩
         have HS4_ := (hb.cell (World.block_lt_of_cell? _ _ (hHeld.2.2.2.2.1))).trans (hHeld.2.2.2.2.1)
         refine ⟨_, rfl, ?_⟩
         replace HO_8 := rb HO_8 hb
         replace HO_9 := rb HO_9 hb
         replace BK667 := kb BK667 hb
         replace HB := bs HB hb
         (try clear hb)
         (try clear hb2)
         (try clear hk)
         (try clear hi)
         refine hK.out _ _ (cm4 BK667 ⟨HS4_, (hC HB hw670_0), (hC HB hw670_1), (hC HB hw670_2), (hC HB hw670_3)⟩) (fun hHeld => ?_)
         clear hK K
         refine nB ?_
         refine eA HT_ ?_
         try go_wp2
         go_roundg k3
         case measure => have := HK1.out; have := HJ7.out; have := HK3.out; omega
         case rel => exact ⟨(x7_3), (wrap64 (x11_3 + 1)), rS, rS, H', ⟨by have := HK1.out; have := HJ7.out; have := HK3.out; omega⟩, ⟨rK HO_8⟩, ⟨rK HO_9⟩, ⟨bG⟩⟩
        rw [if_neg c20] at H
        have c20b0 := decide_eq_false c20
        clear c20
        have H' := Aside0.mk H
        clear H
        obtain ⟨Ao50, co50, eo50⟩ := Kd.R_slice HO_9.out
        subst eo50
        go_wp2
        go_roundg k3
        case measure => have := HK1.out; have := HJ7.out; have := HK3.out; omega
        case rel => exact ⟨(x7_3), (wrap64 (x10_1 + 1)), rS, rS, H', ⟨by have := HK1.out; have := HJ7.out; have := HK3.out; omega⟩, ⟨rK HO_8⟩, ⟨rK HO_9⟩, ⟨bA⟩⟩
     replace c19 := Bool.eq_false_iff.mpr c19
     subst c19
     have H1 : (some x7_1) = some r := by rw [if_neg (show ¬ (false = true) by decide)] at H; exact H
     clear H
     have H := H1
     clear H1
     obtain rfl := Option.some.inj H
     go_wp2
     go_ret
     exact ⟨rA, bA⟩

/-! ### spec_l8Long: function 184 -/
def spec_l8Long.f (k : Nat) (l0 : List (S50)) (l1 : List (S85)) (a2 : Int) : Option (Int) := if 0 ≤ a2 then (if a2 < (l1.length : Int) then (if (l1.length : Int) = 0 then (none) else (if 0 ≤ (Int.tmod (wrap64 (a2 + 1)) (l1.length : Int)) then (if (Int.tmod (wrap64 (a2 + 1)) (l1.length : Int)) < (l1.length : Int) then ((spec_ClearBetween.f k l0 ((rd_T85 l1 a2).f0) ((rd_T85 l1 (Int.tmod (wrap64 (a2 + 1)) (l1.length : Int))).f0)).bind fun t677 => (some (wrap64 (((rd_T85 l1 a2).f1) + t677)))) else (none)) else (none))) else (none)) else (none)
theorem spec_l8Long.mono : ∀ a0 a1 a2 k, LeO (spec_l8Long.f k a0 a1 a2) (spec_l8Long.f (k + 1) a0 a1 a2) := by
 intro a0 a1 a2 k
 unfold spec_l8Long.f
 exact mz1 spec_ClearBetween.mono
def spec_l8Long.T1 : Bool × List (List Nat × List Nat) := (true, [([], []), ([], []), ([0, 1], [0, 1]), ([2], [2]), ([3], [3]), ([], []), ([], []), ([], []), ([6, 7], [6, 7]), ([8], [8]), ([9], [9]), ([], []), ([], []), ([12], [12]), ([], []), ([14], [14]), ([13, 15], [13, 15]), ([11, 16], [11, 16]), ([17], [17]), ([18], [18]), ([5, 10, 19], [5, 10, 19]), ([4, 20], [4, 20]), ([21, 20, 0, 1, 2, 3, 4, 5, 6, 7, 8, 9, 10, 11, 12, 13, 14, 15, 16, 17, 18, 19, 20, 21], [21])])
def spec_l8Long.B1 : List Nat := [0, 0, 3, 7, 15, 0, 0, 0, 192, 448, 960, 0, 0, 4096, 0, 16384, 61440, 129024, 260096, 522240, 1048544, 2097151, 4194303]
theorem spec_l8Long.tab1 : rtab .any (opsOf Try.f184 1) = spec_l8Long.T1 := by kernel_rfl
theorem spec_l8Long.bits1 : waitsOk spec_l8Long.T1.2 spec_l8Long.B1 = true := by kernel_rfl
set_option maxHeartbeats 8000000 in
set_option maxRecDepth 100000 in
theorem spec_l8Long.calls (k : Nat) (A0 : Option Addr) (c0 : Nat) (l0 : List (S50)) (A1 : Option Addr) (c1 : Nat) (l1 : List (S85)) (a2 : Int) (r : Int) (w : World) (hr0 : Kd.C k50 w A0 l0.length l0) (hc0 : l0.length ≤ c0) (hr1 : Kd.C k85 w A1 l1.length l1) (hc1 : l1.length ≤ c1) (h : spec_l8Long.f k l0 l1 a2 = some r) :
  Calls Try.prog 184 #[.slice A0 l0.length c0, .slice A1 l1.length c1, .int .i64 a2] w fun e w' => e = .returned (.int .i64 r) ∧ Below w.heap.size w w' := by
 have HR0 := Aside0.mk hr0
 have HC0 := Aside0.mk hc0
 clear hr0 hc0
 have HR1 := Aside0.mk hr1
 have HC1 := Aside0.mk hc1
 clear hr1 hc1
 have HB := Aside0.mk (Below.refl w.heap.size w)
 have H : (if 0 ≤ a2 then (if a2 < (l1.length : Int) then (if (l1.length : Int) = 0 then (none) else (if 0 ≤ (Int.tmod (wrap64 (a2 + 1)) (l1.length : Int)) then (if (Int.tmod (wrap64 (a2 + 1)) (l1.length : Int)) < (l1.length : Int) then ((spec_ClearBetween.f k l0 ((rd_T85 l1 a2).f0) ((rd_T85 l1 (Int.tmod (wrap64 (a2 + 1)) (l1.length : Int))).f0)).bind fun t677 => (some (wrap64 (((rd_T85 l1 a2).f1) + t677)))) else (none)) else (none))) else (none)) else (none)) = some r := h
 clear h
 have c4 : 0 ≤ a2 := ifN H
 replace H := ifT H
 have c4b0 := decide_eq_true c4
 clear c4
 have c5 : a2 < (l1.length : Int) := ifN H
 replace H := ifT H
 have c5b0 := decide_eq_true c5
 clear c5
 have c6 : ¬ ((l1.length : Int) = 0) := ifN' H
 replace H := ifT' H
 have c6b0 : ((l1.length : Int) == 0) = false := beq_eq_false_iff_ne.mpr c6
 have c6b1 : ((l1.length : Int) != 0) = true := bne_iff_ne.mpr c6
 have c6b2 : ¬ (l1 = []) := fun h_ => c6 (by rw [h_]; rfl)
 obtain ⟨ji7, hji7⟩ : ∃ j_ : Int, (Int.tmod (wrap64 (a2 + 1)) (l1.length : Int)) = j_ := ⟨_, rfl⟩
 replace H : (if 0 ≤ (ji7) then (if (ji7) < (l1.length : Int) then ((spec_ClearBetween.f k l0 ((rd_T85 l1 a2).f0) ((rd_T85 l1 (ji7)).f0)).bind fun t677 => (some (wrap64 (((rd_T85 l1 a2).f1) + t677)))) else (none)) else (none)) = some r := by first | (rw [hji7] at H; exact H) | (simp only [hji7] at H ⊢; exact H)
 have c8 : 0 ≤ (ji7) := ifN H
 replace H := ifT H
 have c8b0 := decide_eq_true c8
 clear c8
 have c9 : (ji7) < (l1.length : Int) := ifN H
 replace H := ifT H
 have c9b0 := decide_eq_true c9
 clear c9
 obtain ⟨t677, A10, H⟩ := bindE H
 try dsimp only at H
 obtain rfl := Option.some.inj H
 go_enter Try.func184, Try.ntmps184
 try go_wp2
 have HBo := HB
 replace HB := db HB
 obtain ⟨p674, q674⟩ : 0 ≤ (a2 : Int) ∧ a2 < (l1.length : Int) := ⟨dA, dA⟩
 obtain ⟨ad674, A674_0, c674_0, e674, hx674_0, hx674_1, hl674_0, hi674_0⟩ := at_T85 HR1.out a2 p674 q674
 have hw674_1 := hx674_1
 have hw674_0 := hx674_0
 cases e674
 replace hx674_0 := hC HB hx674_0
 replace hx674_1 := hC HB hx674_1
 have HR674_0 := Aside0.mk hi674_0
 have HC674_0 := Aside0.mk hl674_0
 clear hi674_0 hl674_0
 obtain ⟨p674, q674⟩ := eT p674 q674
 obtain ⟨p675, q675⟩ : 0 ≤ (a2 : Int) ∧ a2 < (l1.length : Int) := ⟨dA, dA⟩
 obtain ⟨ad675, A675_0, c675_0, e675, hx675_0, hx675_1, hl675_0, hi675_0⟩ := at_T85 HR1.out a2 p675 q675
 have hw675_1 := hx675_1
 have hw675_0 := hx675_0
 obtain rfl : ad674 = ad675 := (by injection e675)
 replace hx675_0 := hC HB hx675_0
 replace hx675_1 := hC HB hx675_1
 have HR675_0 := Aside0.mk hi675_0
 have HC675_0 := Aside0.mk hl675_0
 clear hi675_0 hl675_0
 obtain ⟨p675, q675⟩ := eT p675 q675
 have ea_ := Option.some.inj (hx674_0.symm.trans hx675_0)
 injection ea_ with ea_ en_ ec_
 subst ea_
 subst ec_
 clear en_
 obtain ⟨p676, q676⟩ : 0 ≤ ((ji7) : Int) ∧ (ji7) < (l1.length : Int) := ⟨dA, dA⟩
 obtain ⟨ad676, A676_0, c676_0, e676, hx676_0, hx676_1, hl676_0, hi676_0⟩ := at_T85 HR1.out (ji7) p676 q676
 have hw676_1 := hx676_1
 have hw676_0 := hx676_0
 obtain rfl : ad674 = ad676 := (by injection e676)
 replace hx676_0 := hC HB hx676_0
 replace hx676_1 := hC HB hx676_1
 have HR676_0 := Aside0.mk hi676_0
 have HC676_0 := Aside0.mk hl676_0
 clear hi676_0 hl676_0
 obtain ⟨p676, q676⟩ := eT p676 q676
 refine sw (ds := []) 23 (mb 23 0) spec_l8Long.tab1 spec_l8Long.bits1 (h1c (hC HB hw674_0) (h1c (hC HB hw674_1) (h1c (hC HB hw675_0) (h1c (hC HB hw675_1) (h1c (hC HB hw676_0) (h1 (hC HB hw676_1))))))) (fun hHeld HT_ HW_ => ?_)
 generalize w.drew = w11 at HB HR674_0 HR675_0 HR676_0 hx674_0 hx674_1 hx675_0 hx675_1 hx676_0 hx676_1 hHeld ⊢
 refine pa 0 7 (mb 23 1) HT_ ?_
 refine pa 1 8 (mb 23 3) HT_ ?_
 refine pa 2 9 (mb 23 7) HT_ ?_
 refine pa 3 10 (mb 23 15) HT_ ?_
 refine pa 5 12 (mb 23 47) HT_ ?_
 refine pa 6 13 (mb 23 111) HT_ ?_
 refine pa 7 14 (mb 23 239) HT_ ?_
 refine pa 8 15 (mb 23 495) HT_ ?_
 refine pa 9 16 (mb 23 1007) HT_ ?_
 refine pa 11 18 (mb 23 3055) HT_ ?_
 refine pa 12 19 (mb 23 7151) HT_ ?_
 refine pa 13 20 (mb 23 15343) HT_ ?_
 refine pa 14 21 (mb 23 31727) HT_ ?_
 refine pa 15 22 (mb 23 64495) HT_ ?_
 refine pa 16 23 (mb 23 130031) HT_ ?_
 refine pa 17 24 (mb 23 261103) HT_ ?_
 refine pa 18 25 (mb 23 523247) HT_ ?_
 refine ta6 4 11 (mb 23 523263) HT_ HW_ hHeld ?_
 refine ta6 10 17 (mb 23 524287) HT_ HW_ hHeld ?_
 refine ta6 19 26 (mb 23 1048575) HT_ HW_ hHeld ?_
 refine oa 20 27 (mb 23 2097151) HT_ (fun K hK => ?_)
 refine goes_ Try.func192 (by kernel_rfl) rfl #[.slice A0 l0.length c0, .slice A674_0 ((rd_T85 l1 a2).f0).length c674_0, .slice A676_0 ((rd_T85 l1 (ji7)).f0).length c676_0] (by rfl) rfl rfl (by (try simp only [List.map_toArray, List.map_cons, List.map_nil]); first | done | (simp only [hji7]; rfl) | rfl | (simp only [List.length_drop, List.length_take]; rfl)) ?_
 with_reducible refine (spec_ClearBetween.calls k _ _ l0 _ _ ((rd_T85 l1 a2).f0) _ _ ((rd_T85 l1 (ji7)).f0) t677 _ ?side1 ?side2 ?side3 ?side4 ?side5 ?side6 A10.out).mono ?_
 (case side1 => exact cB HR0)
 (case side2 => exact HC0.out)
 (case side3 => exact cB HR675_0)
 (case side4 => exact HC675_0.out)
 (case side5 => exact cB HR676_0)
 (case side6 => exact HC676_0.out)
 rintro e w12 ⟨rfl, hb⟩
 refine ⟨_, rfl, ?_⟩
 replace HB := bs HB hb
 (try clear hb)
 (try clear hb2)
 (try clear hk)
 (try clear hi)
 refine hK.out _ _ ⟨(hC HB hw674_0), (hC HB hw674_1), (hC HB hw675_0), (hC HB hw675_1), (hC HB hw676_0), (hC HB hw676_1)⟩ (fun hHeld => ?_)
 clear hK K
 refine nB ?_
 refine pa 21 28 (mb 23 4194303) HT_ ?_
 refine pa 22 6 (mb 23 8388607) HT_ ?_
 refine eA HT_ ?_
 try go_wp2
 go_ret
 exact ⟨by first | rfl | (simp [errW_none, errW_some] <;> rfl) | (simp only [← hji7]; first | rfl | (simp [errW_none, errW_some] <;> rfl)) | (simp [*, errW_none, errW_some] <;> rfl), bA⟩

/-! ### spec_Cycle: function 183 -/
def spec_Cycle.l0 : Nat → List (S50) → List (S85) → Int → Int → Option (Int)
 | 0, _, _, _, _ => none
 | k + 1, x0, x1, x5, x6 => if x6 < (x1.length : Int) then ((spec_IsPlan.f k x0 x1).bind fun t678 => (if t678 = true then ((spec_l8Long.f k x0 x1 x6).bind fun t679 => (spec_Cycle.l0 k x0 x1 (wrap64 (x5 + t679)) (wrap64 (x6 + 1)))) else (some x5))) else (some x5)
def spec_Cycle.f (k : Nat) (l0 : List (S50)) (l1 : List (S85)) : Option (Int) := spec_Cycle.l0 k l0 l1 0 0
theorem spec_Cycle.mono_l : ∀ k, (∀ y0 y1 y2 y3, LeO (spec_Cycle.l0 k y0 y1 y2 y3) (spec_Cycle.l0 (k + 1) y0 y1 y2 y3))
 | 0 => fun _ _ _ _ r h => by simp [spec_Cycle.l0] at h
 | k + 1 => by
  have ih0 := spec_Cycle.mono_l k
  ·
   intro y0 y1 y2 y3
   unfold spec_Cycle.l0
   exact mz3 ih0 spec_IsPlan.mono spec_l8Long.mono
theorem spec_Cycle.mono : ∀ a0 a1 k, LeO (spec_Cycle.f k a0 a1) (spec_Cycle.f (k + 1) a0 a1) := by
 intro a0 a1 k
 have ih0 := spec_Cycle.mono_l k
 unfold spec_Cycle.f
 exact mz3 ih0 spec_IsPlan.mono spec_l8Long.mono
set_option maxHeartbeats 8000000 in
set_option maxRecDepth 100000 in
theorem spec_Cycle.calls (k : Nat) (A0 : Option Addr) (c0 : Nat) (l0 : List (S50)) (A1 : Option Addr) (c1 : Nat) (l1 : List (S85)) (r : Int) (w : World) (hr0 : Kd.C k50 w A0 l0.length l0) (hc0 : l0.length ≤ c0) (hr1 : Kd.C k85 w A1 l1.length l1) (hc1 : l1.length ≤ c1) (h : spec_Cycle.f k l0 l1 = some r) :
  Calls Try.prog 183 #[.slice A0 l0.length c0, .slice A1 l1.length c1] w fun e w' => e = .returned (.int .i64 r) ∧ Below w.heap.size w w' := by
 have HR0 := Aside0.mk hr0
 have HC0 := Aside0.mk hc0
 clear hr0 hc0
 have HR1 := Aside0.mk hr1
 have HC1 := Aside0.mk hc1
 clear hr1 hc1
 have HB := Aside0.mk (Below.refl w.heap.size w)
 have H : (spec_Cycle.l0 k l0 l1 0 0) = some r := h
 clear h
 have H' := Aside0.mk H
 clear H
 go_enter Try.func183, Try.ntmps183
 go_wp2
 go_loopg [5, 6] k (fun kq v5 v6 w' => ∃ (x5_1 : Int) (x6_1 : Int), v5 = .int .i64 x5_1 ∧ v6 = .int .i64 x6_1 ∧ Aside0 (spec_Cycle.l0 kq l0 l1 x5_1 x6_1 = some r) ∧ Aside0 (kq ≤ k) ∧ Aside0 (Below w.heap.size w w'))
 case atStart => exact ⟨(0), (0), rS, rS, H', ⟨Nat.le_refl _⟩, ⟨bA⟩⟩
 case round =>
  clear H'
  obtain ⟨x5_1, x6_1, rfl, rfl, HA, HK1, HB⟩ := hrel
  cases gk with
  | zero => exact absurd HA.out (by simp [spec_Cycle.l0])
  | succ k1 =>
   have H := HA.out
   clear HA
   simp only [spec_Cycle.l0] at H
   by_cases c3 : x6_1 < (l1.length : Int)
   ·
    rw [if_pos c3] at H
    have c3b0 := decide_eq_true c3
    clear c3
    obtain ⟨t678, A4, H⟩ := bindE H
    try dsimp only at H
    by_cases c5 : t678 = true
    ·
     subst c5
     have H1 : ((spec_l8Long.f k1 l0 l1 x6_1).bind fun t679 => (spec_Cycle.l0 k1 l0 l1 (wrap64 (x5_1 + t679)) (wrap64 (x6_1 + 1)))) = some r := by rw [if_pos rfl] at H; exact H
     clear H
     have H := H1
     clear H1
     obtain ⟨t679, A6, H⟩ := bindE H
     try dsimp only at H
     have H' := Aside0.mk H
     clear H
     go_wp2_with (first | (go_at_call 61; (with_reducible refine (spec_IsPlan.calls k1 _ _ l0 _ _ l1 true _ ?_ ?_ ?_ ?_ A4.out).mono ?_); exact cB HR0; exact HC0.out; exact cB HR1; exact HC1.out; rintro e w7 ⟨rfl, hb⟩; replace HB := bs HB hb; (try clear hb)) | ((with_reducible refine gate_callee (f := 184) rfl ?_); refine gL (some 22) Try.func184 #[.slice A0 l0.length c0, .slice A1 l1.length c1, .int .i64 x6_1] ?_; (with_reducible refine (spec_l8Long.calls k1 _ _ l0 _ _ l1 x6_1 t679 _ ?_ ?_ ?_ ?_ A6.out).mono ?_); exact cB HR0; exact HC0.out; exact cB HR1; exact HC1.out; rintro e w8 ⟨rfl, hb⟩; refine ⟨_, rfl, ?_⟩; replace HB := bs HB hb; (try clear hb)))
     go_roundg k1
     case measure => have := HK1.out; omega
     case rel => exact ⟨(wrap64 (x5_1 + t679)), (wrap64 (x6_1 + 1)), rS, rS, H', ⟨by have := HK1.out; omega⟩, ⟨bA⟩⟩
    replace c5 := Bool.eq_false_iff.mpr c5
    subst c5
    have H1 : (some x5_1) = some r := by rw [if_neg (show ¬ (false = true) by decide)] at H; exact H
    clear H
    have H := H1
    clear H1
    obtain rfl := Option.some.inj H
    go_wp2_with (first | (go_at_call 61; (with_reducible refine (spec_IsPlan.calls k1 _ _ l0 _ _ l1 false _ ?_ ?_ ?_ ?_ A4.out).mono ?_); exact cB HR0; exact HC0.out; exact cB HR1; exact HC1.out; rintro e w9 ⟨rfl, hb⟩; replace HB := bs HB hb; (try clear hb)))
    go_ret
    exact ⟨rA, bA⟩
   rw [if_neg c3] at H
   have c3b0 := decide_eq_false c3
   clear c3
   obtain rfl := Option.some.inj H
   go_wp2
   go_ret
   exact ⟨rA, bA⟩

/-! ### spec_PartAt: function 170 -/
mutual
def spec_PartAt.j0 : Nat → List (S50) → List (S85) → Int → Bool → Option (Int × Int)
 | 0, _, _, _, _ => none
 | k + 1, x0, x1, x2, x19 => if x19 = true then (some ((-1), 0)) else ((spec_Cycle.f k x0 x1).bind fun t682 => (if t682 = 0 then (none) else (spec_PartAt.l0 k x0 x1 (Int.tmod x2 t682) 0)))
def spec_PartAt.l0 : Nat → List (S50) → List (S85) → Int → Int → Option (Int × Int)
 | 0, _, _, _, _ => none
 | k + 1, x0, x1, x8, x9 => (spec_l8Long.f k x0 x1 x9).bind fun t683 => (if x8 < t683 then (some (x9, x8)) else (spec_PartAt.l0 k x0 x1 (wrap64 (x8 - t683)) (wrap64 (x9 + 1))))
end
def spec_PartAt.f (k : Nat) (l0 : List (S50)) (l1 : List (S85)) (a2 : Int) : Option (Int × Int) := (spec_IsPlan.f k l0 l1).bind fun t680 => (if t680 = true then ((spec_l1In.f a2 0 1000000).bind fun t681 => (spec_PartAt.j0 k l0 l1 a2 (!t681))) else (spec_PartAt.j0 k l0 l1 a2 true))
theorem spec_PartAt.mono_l : ∀ k, (∀ y0 y1 y2 y3, LeO (spec_PartAt.j0 k y0 y1 y2 y3) (spec_PartAt.j0 (k + 1) y0 y1 y2 y3)) ∧ (∀ y0 y1 y2 y3, LeO (spec_PartAt.l0 k y0 y1 y2 y3) (spec_PartAt.l0 (k + 1) y0 y1 y2 y3))
 | 0 => ⟨fun _ _ _ _ r h => by simp [spec_PartAt.j0] at h, fun _ _ _ _ r h => by simp [spec_PartAt.l0] at h⟩
 | k + 1 => by
  obtain ⟨ih0, ih1⟩ := spec_PartAt.mono_l k
  refine ⟨?_, ?_⟩
  ·
   intro y0 y1 y2 y3
   unfold spec_PartAt.j0
   exact mz5 ih0 ih1 spec_Cycle.mono spec_IsPlan.mono spec_l8Long.mono
  ·
   intro y0 y1 y2 y3
   unfold spec_PartAt.l0
   exact mz5 ih0 ih1 spec_Cycle.mono spec_IsPlan.mono spec_l8Long.mono
theorem spec_PartAt.mono : ∀ a0 a1 a2 k, LeO (spec_PartAt.f k a0 a1 a2) (spec_PartAt.f (k + 1) a0 a1 a2) := by
 intro a0 a1 a2 k
 obtain ⟨ih0, ih1⟩ := spec_PartAt.mono_l k
 unfold spec_PartAt.f
 exact mz5 ih0 ih1 spec_Cycle.mono spec_IsPlan.mono spec_l8Long.mono
set_option maxHeartbeats 8000000 in
set_option maxRecDepth 100000 in
theorem spec_PartAt.calls (k : Nat) (A0 : Option Addr) (c0 : Nat) (l0 : List (S50)) (A1 : Option Addr) (c1 : Nat) (l1 : List (S85)) (a2 : Int) (r1 : Int) (r2 : Int) (w : World) (hr0 : Kd.C k50 w A0 l0.length l0) (hc0 : l0.length ≤ c0) (hr1 : Kd.C k85 w A1 l1.length l1) (hc1 : l1.length ≤ c1) (h : spec_PartAt.f k l0 l1 a2 = some (r1, r2)) :
  Calls Try.prog 170 #[.slice A0 l0.length c0, .slice A1 l1.length c1, .int .i64 a2] w fun e w' => e = .returned (.tuple #[.int .i64 r1, .int .i64 r2]) ∧ Below w.heap.size w w' := by
 have HR0 := Aside0.mk hr0
 have HC0 := Aside0.mk hc0
 clear hr0 hc0
 have HR1 := Aside0.mk hr1
 have HC1 := Aside0.mk hc1
 clear hr1 hc1
 have HB := Aside0.mk (Below.refl w.heap.size w)
 have H : ((spec_IsPlan.f k l0 l1).bind fun t680 => (if t680 = true then ((spec_l1In.f a2 0 1000000).bind fun t681 => (spec_PartAt.j0 k l0 l1 a2 (!t681))) else (spec_PartAt.j0 k l0 l1 a2 true))) = some (r1, r2) := h
 clear h
 have HC4 := Aside0.mk H
 clear H
 go_enter Try.func170, Try.ntmps170
 go_upto_region 1 with (fail)
 go_cut [19] (fun v19 wc => ∃ (kq : Nat) (x19_3 : Bool), v19 = .bool x19_3 ∧ Aside0 (spec_PartAt.j0 kq l0 l1 a2 x19_3 = some (r1, r2)) ∧ Aside0 (kq ≤ k) ∧ Aside0 (Below w.heap.size w wc))
 case first =>
  have H := HC4.out
  clear HC4
  obtain ⟨t680, A5, H⟩ := bindE H
  try dsimp only at H
  by_cases c6 : t680 = true
  ·
   subst c6
   have H1 : ((spec_l1In.f a2 0 1000000).bind fun t681 => (spec_PartAt.j0 k l0 l1 a2 (!t681))) = some (r1, r2) := by rw [if_pos rfl] at H; exact H
   clear H
   have H := H1
   clear H1
   obtain ⟨t681, A7, H⟩ := bindE H
   try dsimp only at H
   have H' := Aside0.mk H
   clear H
   go_wp2_with (first | ((with_reducible refine gate_callee (f := 61) rfl ?_); refine gL (some 13) Try.func61 #[.slice A0 l0.length c0, .slice A1 l1.length c1] ?_; (with_reducible refine (spec_IsPlan.calls k _ _ l0 _ _ l1 true _ ?_ ?_ ?_ ?_ A5.out).mono ?_); exact cB HR0; exact HC0.out; exact cB HR1; exact HC1.out; rintro e w8 ⟨rfl, hb⟩; refine ⟨_, rfl, ?_⟩; replace HB := bs HB hb; (try clear hb)) | (go_at_call 111; (with_reducible refine (spec_l1In.calls a2 0 1000000 t681 _ A7.out).mono ?_); rintro e w' ⟨rfl, ⟨nd, rfl⟩⟩))
   go_meet
   case rel => exact ⟨_, (!t681), rS, H', ⟨oL⟩, ⟨bA⟩⟩
  replace c6 := Bool.eq_false_iff.mpr c6
  subst c6
  have H1 : (spec_PartAt.j0 k l0 l1 a2 true) = some (r1, r2) := by rw [if_neg (show ¬ (false = true) by decide)] at H; exact H
  clear H
  have H := H1
  clear H1
  have H' := Aside0.mk H
  clear H
  go_wp2_with (first | ((with_reducible refine gate_callee (f := 61) rfl ?_); refine gL (some 13) Try.func61 #[.slice A0 l0.length c0, .slice A1 l1.length c1] ?_; (with_reducible refine (spec_IsPlan.calls k _ _ l0 _ _ l1 false _ ?_ ?_ ?_ ?_ A5.out).mono ?_); exact cB HR0; exact HC0.out; exact cB HR1; exact HC1.out; rintro e w9 ⟨rfl, hb⟩; refine ⟨_, rfl, ?_⟩; replace HB := bs HB hb; (try clear hb)))
  go_meet
  case rel => exact ⟨_, (true), rS, H', ⟨oL⟩, ⟨bA⟩⟩
 case rest =>
  clear HC4
  obtain ⟨kq, x19_3, rfl, HA, HJ3, HB⟩ := hcut
  cases kq with
  | zero => exact absurd HA.out (by simp [spec_PartAt.j0])
  | succ kj3 =>
   have H := HA.out
   clear HA
   simp only [spec_PartAt.j0] at H
   by_cases c10 : x19_3 = true
   ·
    subst c10
    have H1 : (some ((-1), 0)) = some (r1, r2) := by rw [if_pos rfl] at H; exact H
    clear H
    have H := H1
    clear H1
    simp only [Option.some.injEq, Prod.mk.injEq] at H
    obtain ⟨rfl, rfl⟩ := H
    go_wp2
    go_ret2
    exact ⟨rA, bA⟩
   replace c10 := Bool.eq_false_iff.mpr c10
   subst c10
   have H1 : ((spec_Cycle.f kj3 l0 l1).bind fun t682 => (if t682 = 0 then (none) else (spec_PartAt.l0 kj3 l0 l1 (Int.tmod a2 t682) 0))) = some (r1, r2) := by rw [if_neg (show ¬ (false = true) by decide)] at H; exact H
   clear H
   have H := H1
   clear H1
   obtain ⟨t682, A11, H⟩ := bindE H
   try dsimp only at H
   have c12 : ¬ (t682 = 0) := ifN' H
   replace H := ifT' H
   have c12b0 : (t682 == 0) = false := beq_eq_false_iff_ne.mpr c12
   have c12b1 : (t682 != 0) = true := bne_iff_ne.mpr c12
   have H' := Aside0.mk H
   clear H
   go_wp2_with (first | ((with_reducible refine gate_callee (f := 183) rfl ?_); refine gL (some 23) Try.func183 #[.slice A0 l0.length c0, .slice A1 l1.length c1] ?_; (with_reducible refine (spec_Cycle.calls kj3 _ _ l0 _ _ l1 t682 _ ?_ ?_ ?_ ?_ A11.out).mono ?_); exact cB HR0; exact HC0.out; exact cB HR1; exact HC1.out; rintro e w13 ⟨rfl, hb⟩; refine ⟨_, rfl, ?_⟩; replace HB := bs HB hb; (try clear hb)))
   go_loopg [8, 9] kj3 (fun kq v8 v9 w' => ∃ (x8_2 : Int) (x9_2 : Int), v8 = .int .i64 x8_2 ∧ v9 = .int .i64 x9_2 ∧ Aside0 (spec_PartAt.l0 kq l0 l1 x8_2 x9_2 = some (r1, r2)) ∧ Aside0 (kq ≤ kj3) ∧ Aside0 (Below w.heap.size w w'))
   case atStart => exact ⟨(Int.tmod a2 t682), (0), rS, rS, H', ⟨Nat.le_refl _⟩, ⟨bA⟩⟩
   case round =>
    clear H'
    obtain ⟨x8_2, x9_2, rfl, rfl, HA, HK2, HB⟩ := hrel
    cases gk with
    | zero => exact absurd HA.out (by simp [spec_PartAt.l0])
    | succ k2 =>
     have H := HA.out
     clear HA
     simp only [spec_PartAt.l0] at H
     obtain ⟨t683, A14, H⟩ := bindE H
     try dsimp only at H
     by_cases c15 : x8_2 < t683
     ·
      rw [if_pos c15] at H
      have c15b0 := decide_eq_true c15
      clear c15
      simp only [Option.some.injEq, Prod.mk.injEq] at H
      obtain ⟨rfl, rfl⟩ := H
      go_wp2_with (first | ((with_reducible refine gate_callee (f := 184) rfl ?_); refine gL (some 30) Try.func184 #[.slice A0 l0.length c0, .slice A1 l1.length c1, .int .i64 x9_2] ?_; (with_reducible refine (spec_l8Long.calls k2 _ _ l0 _ _ l1 x9_2 t683 _ ?_ ?_ ?_ ?_ A14.out).mono ?_); exact cB HR0; exact HC0.out; exact cB HR1; exact HC1.out; rintro e w16 ⟨rfl, hb⟩; refine ⟨_, rfl, ?_⟩; replace HB := bs HB hb; (try clear hb)))
      go_ret2
      exact ⟨rA, bA⟩
     rw [if_neg c15] at H
     have c15b0 := decide_eq_false c15
     clear c15
     have H' := Aside0.mk H
     clear H
     go_wp2_with (first | ((with_reducible refine gate_callee (f := 184) rfl ?_); refine gL (some 30) Try.func184 #[.slice A0 l0.length c0, .slice A1 l1.length c1, .int .i64 x9_2] ?_; (with_reducible refine (spec_l8Long.calls k2 _ _ l0 _ _ l1 x9_2 t683 _ ?_ ?_ ?_ ?_ A14.out).mono ?_); exact cB HR0; exact HC0.out; exact cB HR1; exact HC1.out; rintro e w17 ⟨rfl, hb⟩; refine ⟨_, rfl, ?_⟩; replace HB := bs HB hb; (try clear hb)))
     go_roundg k2
     case measure => have := HJ3.out; have := HK2.out; omega
     case rel => exact ⟨(wrap64 (x8_2 - t683)), (wrap64 (x9_2 + 1)), rS, rS, H', ⟨by have := HJ3.out; have := HK2.out; omega⟩, ⟨bA⟩⟩

/-! ### spec_l9Light: function 171 -/
def spec_l9Light.j0 : Nat → List (S50) → List (S85) → Int → Int → Int → Bool → Bool → Option (Int)
 | 0, _, _, _, _, _, _, _ => none
 | k + 1, x0, x1, x2, x3, x4, x12, x29 => if x29 = true then (some 1) else (if x12 = true then (if 0 ≤ x2 then (if x2 < (x1.length : Int) then ((spec_FindPath.f k x0 x4).bind fun t690 => (if 0 ≤ t690 then (if t690 < (x0.length : Int) then ((spec_ClearOf.f ((rd_T50 x0 t690).f0) ((rd_T50 x0 t690).f1) ((rd_T50 x0 t690).f2) ((rd_T50 x0 t690).f3)).bind fun t692 => (if x3 < (wrap64 (((rd_T85 x1 x2).f1) + t692)) then (some 2) else (some 0))) else (none)) else (none))) else (none)) else (none)) else (some 0))
def spec_l9Light.f (k : Nat) (l0 : List (S50)) (l1 : List (S85)) (a2 : Int) (a3 : Int) (a4 : Int) : Option (Int) := if (l1.length : Int) = 0 then (none) else (if 0 ≤ (Int.tmod (wrap64 (a2 + 1)) (l1.length : Int)) then (if (Int.tmod (wrap64 (a2 + 1)) (l1.length : Int)) < (l1.length : Int) then (if 0 ≤ a2 then (if a2 < (l1.length : Int) then ((spec_l6Has.f k ((rd_T85 l1 a2).f0) a4).bind fun t686 => (if t686 = true then (if a3 < ((rd_T85 l1 a2).f1) then (spec_l9Light.j0 k l0 l1 a2 a3 a4 t686 true) else ((spec_l6Has.f k ((rd_T85 l1 (Int.tmod (wrap64 (a2 + 1)) (l1.length : Int))).f0) a4).bind fun t688 => (spec_l9Light.j0 k l0 l1 a2 a3 a4 t686 t688))) else (spec_l9Light.j0 k l0 l1 a2 a3 a4 t686 false))) else (none)) else (none)) else (none)) else (none))
theorem spec_l9Light.mono_l : ∀ k, (∀ y0 y1 y2 y3 y4 y5 y6, LeO (spec_l9Light.j0 k y0 y1 y2 y3 y4 y5 y6) (spec_l9Light.j0 (k + 1) y0 y1 y2 y3 y4 y5 y6))
 | 0 => fun _ _ _ _ _ _ _ r h => by simp [spec_l9Light.j0] at h
 | k + 1 => by
  have ih0 := spec_l9Light.mono_l k
  ·
   intro y0 y1 y2 y3 y4 y5 y6
   unfold spec_l9Light.j0
   exact mz3 ih0 spec_FindPath.mono spec_l6Has.mono
theorem spec_l9Light.mono : ∀ a0 a1 a2 a3 a4 k, LeO (spec_l9Light.f k a0 a1 a2 a3 a4) (spec_l9Light.f (k + 1) a0 a1 a2 a3 a4) := by
 intro a0 a1 a2 a3 a4 k
 have ih0 := spec_l9Light.mono_l k
 unfold spec_l9Light.f
 exact mz3 ih0 spec_FindPath.mono spec_l6Has.mono
def spec_l9Light.T5 : Bool × List (List Nat × List Nat) := (true, [([], []), ([0], [0]), ([1], [1]), ([1], [1]), ([1], [1]), ([3, 4, 1], [1, 3, 4]), ([5, 1], [1, 5]), ([6, 1], [1, 6]), ([1], [1]), ([1], [1]), ([1], [1]), ([9, 10, 1, 1], [1, 9, 10]), ([8, 11, 1], [1, 8, 11]), ([12, 1], [1, 12]), ([13, 11, 1], [1, 13]), ([7, 14, 1], [1, 7, 14]), ([2, 15, 1], [1, 2, 15]), ([1, 16], [1, 16]), ([17, 14], [17])])
def spec_l9Light.B5 : List Nat := [0, 1, 3, 3, 3, 27, 59, 123, 3, 3, 3, 1539, 3843, 7939, 16131, 32763, 65535, 131071, 262143]
theorem spec_l9Light.tab5 : rtab .any (opsOf Try.f171 5) = spec_l9Light.T5 := by kernel_rfl
theorem spec_l9Light.bits5 : waitsOk spec_l9Light.T5.2 spec_l9Light.B5 = true := by kernel_rfl
set_option maxHeartbeats 8000000 in
set_option maxRecDepth 100000 in
theorem spec_l9Light.calls (k : Nat) (A0 : Option Addr) (c0 : Nat) (l0 : List (S50)) (A1 : Option Addr) (c1 : Nat) (l1 : List (S85)) (a2 : Int) (a3 : Int) (a4 : Int) (r : Int) (w : World) (hr0 : Kd.C k50 w A0 l0.length l0) (hc0 : l0.length ≤ c0) (hr1 : Kd.C k85 w A1 l1.length l1) (hc1 : l1.length ≤ c1) (h : spec_l9Light.f k l0 l1 a2 a3 a4 = some r) :
  Calls Try.prog 171 #[.slice A0 l0.length c0, .slice A1 l1.length c1, .int .i64 a2, .int .i64 a3, .int .i64 a4] w fun e w' => e = .returned (.int .i64 r) ∧ Below w.heap.size w w' := by
 have hu50 := Try.underlying50
 have HR0 := Aside0.mk hr0
 have HC0 := Aside0.mk hc0
 clear hr0 hc0
 have HR1 := Aside0.mk hr1
 have HC1 := Aside0.mk hc1
 clear hr1 hc1
 have HB := Aside0.mk (Below.refl w.heap.size w)
 have H : (if (l1.length : Int) = 0 then (none) else (if 0 ≤ (Int.tmod (wrap64 (a2 + 1)) (l1.length : Int)) then (if (Int.tmod (wrap64 (a2 + 1)) (l1.length : Int)) < (l1.length : Int) then (if 0 ≤ a2 then (if a2 < (l1.length : Int) then ((spec_l6Has.f k ((rd_T85 l1 a2).f0) a4).bind fun t686 => (if t686 = true then (if a3 < ((rd_T85 l1 a2).f1) then (spec_l9Light.j0 k l0 l1 a2 a3 a4 t686 true) else ((spec_l6Has.f k ((rd_T85 l1 (Int.tmod (wrap64 (a2 + 1)) (l1.length : Int))).f0) a4).bind fun t688 => (spec_l9Light.j0 k l0 l1 a2 a3 a4 t686 t688))) else (spec_l9Light.j0 k l0 l1 a2 a3 a4 t686 false))) else (none)) else (none)) else (none)) else (none))) = some r := h
 clear h
 have c6 : ¬ ((l1.length : Int) = 0) := ifN' H
 replace H := ifT' H
 have c6b0 : ((l1.length : Int) == 0) = false := beq_eq_false_iff_ne.mpr c6
 have c6b1 : ((l1.length : Int) != 0) = true := bne_iff_ne.mpr c6
 have c6b2 : ¬ (l1 = []) := fun h_ => c6 (by rw [h_]; rfl)
 obtain ⟨ji7, hji7⟩ : ∃ j_ : Int, (Int.tmod (wrap64 (a2 + 1)) (l1.length : Int)) = j_ := ⟨_, rfl⟩
 replace H : (if 0 ≤ (ji7) then (if (ji7) < (l1.length : Int) then (if 0 ≤ a2 then (if a2 < (l1.length : Int) then ((spec_l6Has.f k ((rd_T85 l1 a2).f0) a4).bind fun t686 => (if t686 = true then (if a3 < ((rd_T85 l1 a2).f1) then (spec_l9Light.j0 k l0 l1 a2 a3 a4 t686 true) else ((spec_l6Has.f k ((rd_T85 l1 (ji7)).f0) a4).bind fun t688 => (spec_l9Light.j0 k l0 l1 a2 a3 a4 t686 t688))) else (spec_l9Light.j0 k l0 l1 a2 a3 a4 t686 false))) else (none)) else (none)) else (none)) else (none)) = some r := by first | (rw [hji7] at H; exact H) | (simp only [hji7] at H ⊢; exact H)
 have c8 : 0 ≤ (ji7) := ifN H
 replace H := ifT H
 have c8b0 := decide_eq_true c8
 clear c8
 have c9 : (ji7) < (l1.length : Int) := ifN H
 replace H := ifT H
 have c9b0 := decide_eq_true c9
 clear c9
 have c10 : 0 ≤ a2 := ifN H
 replace H := ifT H
 have c10b0 := decide_eq_true c10
 clear c10
 have c11 : a2 < (l1.length : Int) := ifN H
 replace H := ifT H
 have c11b0 := decide_eq_true c11
 clear c11
 obtain ⟨t686, A12, H⟩ := bindE H
 try dsimp only at H
 have HC13 := Aside0.mk H
 clear H
 obtain ⟨p684, q684⟩ : 0 ≤ ((ji7) : Int) ∧ (ji7) < (l1.length : Int) := ⟨dA, dA⟩
 obtain ⟨ad684, A684_0, c684_0, e684, hx684_0, hx684_1, hl684_0, hi684_0⟩ := at_T85 HR1.out (ji7) p684 q684
 cases e684
 have HR684_0 := Aside0.mk hi684_0
 have HC684_0 := Aside0.mk hl684_0
 clear hi684_0 hl684_0
 obtain ⟨p684, q684⟩ := eT p684 q684
 obtain ⟨p685, q685⟩ : 0 ≤ (a2 : Int) ∧ a2 < (l1.length : Int) := ⟨dA, dA⟩
 obtain ⟨ad685, A685_0, c685_0, e685, hx685_0, hx685_1, hl685_0, hi685_0⟩ := at_T85 HR1.out a2 p685 q685
 obtain rfl : ad684 = ad685 := (by injection e685)
 have HR685_0 := Aside0.mk hi685_0
 have HC685_0 := Aside0.mk hl685_0
 clear hi685_0 hl685_0
 obtain ⟨p685, q685⟩ := eT p685 q685
 go_enter Try.func171, Try.ntmps171
 go_upto_region 3 with (first | ((with_reducible refine gate_callee (f := 133) rfl ?_); refine gL (some 28) Try.func133 #[.slice A685_0 ((rd_T85 l1 a2).f0).length c685_0, .int .i64 a4] ?_; (with_reducible refine (spec_l6Has.calls k _ _ ((rd_T85 l1 a2).f0) a4 t686 _ ?_ ?_ A12.out).mono ?_); exact cO HR685_0; exact HC685_0.out; rintro e w' ⟨rfl, ⟨nd, rfl⟩⟩; refine ⟨_, rfl, ?_⟩))
 (try simp only [Act.put, List.setIfInBounds_toArray, List.set_cons_zero, List.set_cons_succ])
 go_cut [29] (fun v29 wc => ∃ (kq : Nat) (x29_12 : Bool), v29 = .bool x29_12 ∧ Aside0 (spec_l9Light.j0 kq l0 l1 a2 a3 a4 t686 x29_12 = some r) ∧ Aside0 (kq ≤ k) ∧ Aside0 (Below w.heap.size w wc))
 case first =>
  have H := HC13.out
  clear HC13
  by_cases c14 : t686 = true
  ·
   subst c14
   have H1 : (if a3 < ((rd_T85 l1 a2).f1) then (spec_l9Light.j0 k l0 l1 a2 a3 a4 true true) else ((spec_l6Has.f k ((rd_T85 l1 (ji7)).f0) a4).bind fun t688 => (spec_l9Light.j0 k l0 l1 a2 a3 a4 true t688))) = some r := by rw [if_pos rfl] at H; exact H
   clear H
   have H := H1
   clear H1
   by_cases c15 : a3 < ((rd_T85 l1 a2).f1)
   ·
    rw [if_pos c15] at H
    have c15b0 := decide_eq_true c15
    clear c15
    (first | rw [c15b0] | (simp only [i64_w, i32_w]; rw [c15b0]) | skip)
    have H' := Aside0.mk H
    clear H
    obtain ⟨p687, q687⟩ : 0 ≤ (a2 : Int) ∧ a2 < (l1.length : Int) := ⟨dA, dA⟩
    obtain ⟨ad687, A687_0, c687_0, e687, hx687_0, hx687_1, hl687_0, hi687_0⟩ := at_T85 HR1.out a2 p687 q687
    obtain rfl : ad684 = ad687 := (by injection e687)
    replace hx687_0 := hC HB hx687_0
    replace hx687_1 := hC HB hx687_1
    have HR687_0 := Aside0.mk hi687_0
    have HC687_0 := Aside0.mk hl687_0
    clear hi687_0 hl687_0
    obtain ⟨p687, q687⟩ := eT p687 q687
    go_wp2
    go_meet
    case rel => exact ⟨_, (true), rS, H', ⟨oL⟩, ⟨bA⟩⟩
   rw [if_neg c15] at H
   have c15b0 := decide_eq_false c15
   clear c15
   (first | rw [c15b0] | (simp only [i64_w, i32_w]; rw [c15b0]) | skip)
   obtain ⟨t688, A16, H⟩ := bindE H
   try dsimp only at H
   have H' := Aside0.mk H
   clear H
   obtain ⟨p687, q687⟩ : 0 ≤ (a2 : Int) ∧ a2 < (l1.length : Int) := ⟨dA, dA⟩
   obtain ⟨ad687, A687_0, c687_0, e687, hx687_0, hx687_1, hl687_0, hi687_0⟩ := at_T85 HR1.out a2 p687 q687
   obtain rfl : ad684 = ad687 := (by injection e687)
   replace hx687_0 := hC HB hx687_0
   replace hx687_1 := hC HB hx687_1
   have HR687_0 := Aside0.mk hi687_0
   have HC687_0 := Aside0.mk hl687_0
   clear hi687_0 hl687_0
   obtain ⟨p687, q687⟩ := eT p687 q687
   go_wp2_with (first | (go_at_call 133; (with_reducible refine (spec_l6Has.calls k _ _ ((rd_T85 l1 (ji7)).f0) a4 t688 _ ?_ ?_ A16.out).mono ?_); exact cB HR684_0; exact HC684_0.out; rintro e w' ⟨rfl, ⟨nd, rfl⟩⟩))
   go_meet
   case rel => exact ⟨_, (t688), rS, H', ⟨oL⟩, ⟨bA⟩⟩
  replace c14 := Bool.eq_false_iff.mpr c14
  subst c14
  have H1 : (spec_l9Light.j0 k l0 l1 a2 a3 a4 false false) = some r := by rw [if_neg (show ¬ (false = true) by decide)] at H; exact H
  clear H
  have H := H1
  clear H1
  have H' := Aside0.mk H
  clear H
  go_wp2
  go_meet
  case rel => exact ⟨_, (false), rS, H', ⟨oL⟩, ⟨bA⟩⟩
 case rest =>
  clear HC13
  obtain ⟨kq, x29_12, rfl, HA, HJ12, HB⟩ := hcut
  cases kq with
  | zero => exact absurd HA.out (by simp [spec_l9Light.j0])
  | succ kj12 =>
   have H := HA.out
   clear HA
   simp only [spec_l9Light.j0] at H
   by_cases c17 : x29_12 = true
   ·
    subst c17
    have H1 : (some 1) = some r := by rw [if_pos rfl] at H; exact H
    clear H
    have H := H1
    clear H1
    obtain rfl := Option.some.inj H
    go_wp2
    go_ret
    exact ⟨by first | rfl | (simp [errW_none, errW_some] <;> rfl) | (simp only [← hji7]; first | rfl | (simp [errW_none, errW_some] <;> rfl)) | (simp [*, errW_none, errW_some] <;> rfl), bA⟩
   replace c17 := Bool.eq_false_iff.mpr c17
   subst c17
   have H1 : (if t686 = true then (if 0 ≤ a2 then (if a2 < (l1.length : Int) then ((spec_FindPath.f kj12 l0 a4).bind fun t690 => (if 0 ≤ t690 then (if t690 < (l0.length : Int) then ((spec_ClearOf.f ((rd_T50 l0 t690).f0) ((rd_T50 l0 t690).f1) ((rd_T50 l0 t690).f2) ((rd_T50 l0 t690).f3)).bind fun t692 => (if a3 < (wrap64 (((rd_T85 l1 a2).f1) + t692)) then (some 2) else (some 0))) else (none)) else (none))) else (none)) else (none)) else (some 0)) = some r := by rw [if_neg (show ¬ (false = true) by decide)] at H; exact H
   clear H
   have H := H1
   clear H1
   by_cases c18 : t686 = true
   ·
    subst c18
    have H1 : (if 0 ≤ a2 then (if a2 < (l1.length : Int) then ((spec_FindPath.f kj12 l0 a4).bind fun t690 => (if 0 ≤ t690 then (if t690 < (l0.length : Int) then ((spec_ClearOf.f ((rd_T50 l0 t690).f0) ((rd_T50 l0 t690).f1) ((rd_T50 l0 t690).f2) ((rd_T50 l0 t690).f3)).bind fun t692 => (if a3 < (wrap64 (((rd_T85 l1 a2).f1) + t692)) then (some 2) else (some 0))) else (none)) else (none))) else (none)) else (none)) = some r := by rw [if_pos rfl] at H; exact H
    clear H
    have H := H1
    clear H1
    have c19 : 0 ≤ a2 := ifN H
    replace H := ifT H
    have c19b0 := decide_eq_true c19
    clear c19
    have c20 : a2 < (l1.length : Int) := ifN H
    replace H := ifT H
    have c20b0 := decide_eq_true c20
    clear c20
    obtain ⟨t690, A21, H⟩ := bindE H
    try dsimp only at H
    have c22 : 0 ≤ t690 := ifN H
    replace H := ifT H
    have c22b0 := decide_eq_true c22
    clear c22
    have c23 : t690 < (l0.length : Int) := ifN H
    replace H := ifT H
    have c23b0 := decide_eq_true c23
    clear c23
    obtain ⟨t692, A24, H⟩ := bindE H
    try dsimp only at H
    by_cases c25 : a3 < (wrap64 (((rd_T85 l1 a2).f1) + t692))
    ·
     rw [if_pos c25] at H
     have c25b0 := decide_eq_true c25
     clear c25
     obtain rfl := Option.some.inj H
     try go_wp2
     have HBo := HB
     replace HB := db HB
     obtain ⟨p689, q689⟩ : 0 ≤ (a2 : Int) ∧ a2 < (l1.length : Int) := ⟨dA, dA⟩
     obtain ⟨ad689, A689_0, c689_0, e689, hx689_0, hx689_1, hl689_0, hi689_0⟩ := at_T85 HR1.out a2 p689 q689
     have hw689_1 := hx689_1
     have hw689_0 := hx689_0
     obtain rfl : ad684 = ad689 := (by injection e689)
     replace hx689_0 := hC HB hx689_0
     replace hx689_1 := hC HB hx689_1
     have HR689_0 := Aside0.mk hi689_0
     have HC689_0 := Aside0.mk hl689_0
     clear hi689_0 hl689_0
     obtain ⟨p689, q689⟩ := eT p689 q689
     obtain ⟨p691, q691⟩ : 0 ≤ (t690 : Int) ∧ t690 < (l0.length : Int) := ⟨dA, dA⟩
     obtain ⟨ad691, e691, hx691_0, hx691_1, hx691_2, hx691_3⟩ := at_T50 HR0.out t690 p691 q691
     have hw691_3 := hx691_3
     have hw691_2 := hx691_2
     have hw691_1 := hx691_1
     have hw691_0 := hx691_0
     cases e691
     replace hx691_0 := hC HB hx691_0
     replace hx691_1 := hC HB hx691_1
     replace hx691_2 := hC HB hx691_2
     replace hx691_3 := hC HB hx691_3
     obtain ⟨p691, q691⟩ := eT p691 q691
     refine sw (ds := []) 19 (mb 19 0) spec_l9Light.tab5 spec_l9Light.bits5 (h1c (hC HB hw689_0) (h1c (hC HB hw689_1) (h1c (hC HB hw691_0) (h1c (hC HB hw691_1) (h1c (hC HB hw691_2) (h1 (hC HB hw691_3))))))) (fun hHeld HT_ HW_ => ?_)
     generalize wc.drew = w26 at HB HR689_0 hx689_0 hx689_1 hx691_0 hx691_1 hx691_2 hx691_3 hHeld ⊢
     refine pa 0 46 (mb 19 1) HT_ ?_
     refine pa 1 47 (mb 19 3) HT_ ?_
     refine pa 2 48 (mb 19 7) HT_ ?_
     refine pa 3 49 (mb 19 15) HT_ ?_
     refine pa 4 50 (mb 19 31) HT_ ?_
     refine pa 5 51 (mb 19 63) HT_ ?_
     refine pa 6 52 (mb 19 127) HT_ ?_
     refine pa 8 54 (mb 19 383) HT_ ?_
     refine pa 9 55 (mb 19 895) HT_ ?_
     refine pa 10 56 (mb 19 1919) HT_ ?_
     refine ta6 7 53 (mb 19 2047) HT_ HW_ hHeld ?_
     refine oa 11 57 (mb 19 4095) HT_ (fun K hK => ?_)
     refine gA Try.func144 #[.slice (some ad691) l0.length c0, .int .i64 a4] ?_
     with_reducible refine (spec_FindPath.calls kj12 _ _ l0 a4 t690 _ ?side1 ?side2 A21.out).mono ?_
     (case side1 => exact cB HR0)
     (case side2 => exact HC0.out)
     rintro e w' ⟨rfl, ⟨nd, rfl⟩⟩
     refine ⟨_, rfl, ?_⟩
     refine hK.out _ _ ⟨(hC HB hw689_0), (hC HB hw689_1), (hC HB hw691_0), (hC HB hw691_1), (hC HB hw691_2), (hC HB hw691_3)⟩ (fun hHeld => ?_)
     clear hK K
     refine nB ?_
     refine pa 12 58 (mb 19 8191) HT_ ?_
     refine ta6 13 59 (mb 19 16383) HT_ HW_ hHeld ?_
     refine oa 14 60 (mb 19 32767) HT_ (fun K hK => ?_)
     refine gA Try.func185 #[.agg #[.int .i64 ((rd_T50 l0 t690).f0), .int .i64 ((rd_T50 l0 t690).f1), .int .i64 ((rd_T50 l0 t690).f2), .int .i64 ((rd_T50 l0 t690).f3)]] ?_
     with_reducible refine (spec_ClearOf.calls ((rd_T50 l0 t690).f0) ((rd_T50 l0 t690).f1) ((rd_T50 l0 t690).f2) ((rd_T50 l0 t690).f3) t692 _ A24.out).mono ?_
     rintro e w27 ⟨rfl, hb⟩
     refine ⟨_, rfl, ?_⟩
     replace HB := bs HB hb
     (try clear hb)
     (try clear hb2)
     (try clear hk)
     (try clear hi)
     refine hK.out _ _ ⟨(hC HB hw689_0), (hC HB hw689_1), (hC HB hw691_0), (hC HB hw691_1), (hC HB hw691_2), (hC HB hw691_3)⟩ (fun hHeld => ?_)
     clear hK K
     refine nB ?_
     refine pa 15 61 (mb 19 65535) HT_ ?_
     refine pa 16 62 (mb 19 131071) HT_ ?_
     refine pa 17 63 (mb 19 262143) HT_ ?_
     refine pa 18 45 (mb 19 524287) HT_ ?_
     refine eA HT_ ?_
     try go_wp2
     go_ret
     exact ⟨by first | rfl | (simp [errW_none, errW_some] <;> rfl) | (simp only [← hji7]; first | rfl | (simp [errW_none, errW_some] <;> rfl)) | (simp [*, errW_none, errW_some] <;> rfl), bA⟩
    rw [if_neg c25] at H
    have c25b0 := decide_eq_false c25
    clear c25
    obtain rfl := Option.some.inj H
    try go_wp2
    have HBo := HB
    replace HB := db HB
    obtain ⟨p689, q689⟩ : 0 ≤ (a2 : Int) ∧ a2 < (l1.length : Int) := ⟨dA, dA⟩
    obtain ⟨ad689, A689_0, c689_0, e689, hx689_0, hx689_1, hl689_0, hi689_0⟩ := at_T85 HR1.out a2 p689 q689
    have hw689_1 := hx689_1
    have hw689_0 := hx689_0
    obtain rfl : ad684 = ad689 := (by injection e689)
    replace hx689_0 := hC HB hx689_0
    replace hx689_1 := hC HB hx689_1
    have HR689_0 := Aside0.mk hi689_0
    have HC689_0 := Aside0.mk hl689_0
    clear hi689_0 hl689_0
    obtain ⟨p689, q689⟩ := eT p689 q689
    obtain ⟨p691, q691⟩ : 0 ≤ (t690 : Int) ∧ t690 < (l0.length : Int) := ⟨dA, dA⟩
    obtain ⟨ad691, e691, hx691_0, hx691_1, hx691_2, hx691_3⟩ := at_T50 HR0.out t690 p691 q691
    have hw691_3 := hx691_3
    have hw691_2 := hx691_2
    have hw691_1 := hx691_1
    have hw691_0 := hx691_0
    cases e691
    replace hx691_0 := hC HB hx691_0
    replace hx691_1 := hC HB hx691_1
    replace hx691_2 := hC HB hx691_2
    replace hx691_3 := hC HB hx691_3
    obtain ⟨p691, q691⟩ := eT p691 q691
    refine sw (ds := []) 19 (mb 19 0) spec_l9Light.tab5 spec_l9Light.bits5 (h1c (hC HB hw689_0) (h1c (hC HB hw689_1) (h1c (hC HB hw691_0) (h1c (hC HB hw691_1) (h1c (hC HB hw691_2) (h1 (hC HB hw691_3))))))) (fun hHeld HT_ HW_ => ?_)
    generalize wc.drew = w28 at HB HR689_0 hx689_0 hx689_1 hx691_0 hx691_1 hx691_2 hx691_3 hHeld ⊢
    refine pa 0 46 (mb 19 1) HT_ ?_
    refine pa 1 47 (mb 19 3) HT_ ?_
    refine pa 2 48 (mb 19 7) HT_ ?_
    refine pa 3 49 (mb 19 15) HT_ ?_
    refine pa 4 50 (mb 19 31) HT_ ?_
    refine pa 5 51 (mb 19 63) HT_ ?_
    refine pa 6 52 (mb 19 127) HT_ ?_
    refine pa 8 54 (mb 19 383) HT_ ?_
    refine pa 9 55 (mb 19 895) HT_ ?_
    refine pa 10 56 (mb 19 1919) HT_ ?_
    refine ta6 7 53 (mb 19 2047) HT_ HW_ hHeld ?_
    refine oa 11 57 (mb 19 4095) HT_ (fun K hK => ?_)
    refine gA Try.func144 #[.slice (some ad691) l0.length c0, .int .i64 a4] ?_
    with_reducible refine (spec_FindPath.calls kj12 _ _ l0 a4 t690 _ ?side1 ?side2 A21.out).mono ?_
    (case side1 => exact cB HR0)
    (case side2 => exact HC0.out)
    rintro e w' ⟨rfl, ⟨nd, rfl⟩⟩
    refine ⟨_, rfl, ?_⟩
    refine hK.out _ _ ⟨(hC HB hw689_0), (hC HB hw689_1), (hC HB hw691_0), (hC HB hw691_1), (hC HB hw691_2), (hC HB hw691_3)⟩ (fun hHeld => ?_)
    clear hK K
    refine nB ?_
    refine pa 12 58 (mb 19 8191) HT_ ?_
    refine ta6 13 59 (mb 19 16383) HT_ HW_ hHeld ?_
    refine oa 14 60 (mb 19 32767) HT_ (fun K hK => ?_)
    refine gA Try.func185 #[.agg #[.int .i64 ((rd_T50 l0 t690).f0), .int .i64 ((rd_T50 l0 t690).f1), .int .i64 ((rd_T50 l0 t690).f2), .int .i64 ((rd_T50 l0 t690).f3)]] ?_
    with_reducible refine (spec_ClearOf.calls ((rd_T50 l0 t690).f0) ((rd_T50 l0 t690).f1) ((rd_T50 l0 t690).f2) ((rd_T50 l0 t690).f3) t692 _ A24.out).mono ?_
    rintro e w29 ⟨rfl, hb⟩
    refine ⟨_, rfl, ?_⟩
    replace HB := bs HB hb
    (try clear hb)
    (try clear hb2)
    (try clear hk)
    (try clear hi)
    refine hK.out _ _ ⟨(hC HB hw689_0), (hC HB hw689_1), (hC HB hw691_0), (hC HB hw691_1), (hC HB hw691_2), (hC HB hw691_3)⟩ (fun hHeld => ?_)
    clear hK K
    refine nB ?_
    refine pa 15 61 (mb 19 65535) HT_ ?_
    refine pa 16 62 (mb 19 131071) HT_ ?_
    refine pa 17 63 (mb 19 262143) HT_ ?_
    refine pa 18 45 (mb 19 524287) HT_ ?_
    refine eA HT_ ?_
    try go_wp2
    go_ret
    exact ⟨by first | rfl | (simp [errW_none, errW_some] <;> rfl) | (simp only [← hji7]; first | rfl | (simp [errW_none, errW_some] <;> rfl)) | (simp [*, errW_none, errW_some] <;> rfl), bA⟩
   replace c18 := Bool.eq_false_iff.mpr c18
   subst c18
   have H1 : (some 0) = some r := by rw [if_neg (show ¬ (false = true) by decide)] at H; exact H
   clear H
   have H := H1
   clear H1
   obtain rfl := Option.some.inj H
   try go_wp2
   have HBo := HB
   replace HB := db HB
   refine sw (ds := []) 19 (mb 19 0) spec_l9Light.tab5 spec_l9Light.bits5 h0 (fun hHeld HT_ HW_ => ?_)
   generalize wc.drew = w30 at HB hHeld ⊢
   refine pa 0 46 (mb 19 1) HT_ ?_
   refine pa 1 47 (mb 19 3) HT_ ?_
   refine pu 2 48 (mb 19 7) HT_ ?_
   refine pu 3 49 (mb 19 15) HT_ ?_
   refine pu 4 50 (mb 19 31) HT_ ?_
   refine pu 5 51 (mb 19 63) HT_ ?_
   refine pu 6 52 (mb 19 127) HT_ ?_
   refine pu 7 53 (mb 19 255) HT_ ?_
   refine pu 8 54 (mb 19 511) HT_ ?_
   refine pu 9 55 (mb 19 1023) HT_ ?_
   refine pu 10 56 (mb 19 2047) HT_ ?_
   refine pu 11 57 (mb 19 4095) HT_ ?_
   refine pu 12 58 (mb 19 8191) HT_ ?_
   refine pu 13 59 (mb 19 16383) HT_ ?_
   refine pu 14 60 (mb 19 32767) HT_ ?_
   refine pu 15 61 (mb 19 65535) HT_ ?_
   refine pu 16 62 (mb 19 131071) HT_ ?_
   refine pa 17 63 (mb 19 262143) HT_ ?_
   refine pa 18 45 (mb 19 524287) HT_ ?_
   refine eA HT_ ?_
   try go_wp2
   go_ret
   exact ⟨by first | rfl | (simp [errW_none, errW_some] <;> rfl) | (simp only [← hji7]; first | rfl | (simp [errW_none, errW_some] <;> rfl)) | (simp [*, errW_none, errW_some] <;> rfl), bA⟩

/-! ### spec_LightAt: function 146 -/
def spec_LightAt.f (k : Nat) (l0 : List (S50)) (l1 : List (S85)) (a2 : Int) (a3 : Int) : Option (Int) := (spec_PartAt.f k l0 l1 a2).bind fun bt693 => (if bt693.1 < 0 then (some 0) else ((spec_FindPath.f k l0 a3).bind fun t695 => (if t695 < 0 then (some 0) else ((spec_l9Light.f k l0 l1 bt693.1 bt693.2 a3).bind fun t696 => (some t696)))))
theorem spec_LightAt.mono : ∀ a0 a1 a2 a3 k, LeO (spec_LightAt.f k a0 a1 a2 a3) (spec_LightAt.f (k + 1) a0 a1 a2 a3) := by
 intro a0 a1 a2 a3 k
 unfold spec_LightAt.f
 exact mz3 spec_FindPath.mono spec_PartAt.mono spec_l9Light.mono
set_option maxHeartbeats 8000000 in
set_option maxRecDepth 100000 in
theorem spec_LightAt.calls (k : Nat) (A0 : Option Addr) (c0 : Nat) (l0 : List (S50)) (A1 : Option Addr) (c1 : Nat) (l1 : List (S85)) (a2 : Int) (a3 : Int) (r : Int) (w : World) (hr0 : Kd.C k50 w A0 l0.length l0) (hc0 : l0.length ≤ c0) (hr1 : Kd.C k85 w A1 l1.length l1) (hc1 : l1.length ≤ c1) (h : spec_LightAt.f k l0 l1 a2 a3 = some r) :
  Calls Try.prog 146 #[.slice A0 l0.length c0, .slice A1 l1.length c1, .int .i64 a2, .int .i64 a3] w fun e w' => e = .returned (.int .i64 r) ∧ Below w.heap.size w w' := by
 have HR0 := Aside0.mk hr0
 have HC0 := Aside0.mk hc0
 clear hr0 hc0
 have HR1 := Aside0.mk hr1
 have HC1 := Aside0.mk hc1
 clear hr1 hc1
 have HB := Aside0.mk (Below.refl w.heap.size w)
 have H : ((spec_PartAt.f k l0 l1 a2).bind fun bt693 => (if bt693.1 < 0 then (some 0) else ((spec_FindPath.f k l0 a3).bind fun t695 => (if t695 < 0 then (some 0) else ((spec_l9Light.f k l0 l1 bt693.1 bt693.2 a3).bind fun t696 => (some t696)))))) = some r := h
 clear h
 obtain ⟨⟨t693, t694⟩, A5, H⟩ := bindE H
 try dsimp only at H
 by_cases c6 : t693 < 0
 ·
  rw [if_pos c6] at H
  have c6b0 := decide_eq_true c6
  clear c6
  obtain rfl := Option.some.inj H
  go_enter Try.func146, Try.ntmps146
  go_wp2_with (first | ((with_reducible refine gate_callee (f := 170) rfl ?_); refine gL (some 15) Try.func170 #[.slice A0 l0.length c0, .slice A1 l1.length c1, .int .i64 a2] ?_; (with_reducible refine (spec_PartAt.calls k _ _ l0 _ _ l1 a2 t693 t694 _ ?_ ?_ ?_ ?_ A5.out).mono ?_); exact cO HR0; exact HC0.out; exact cO HR1; exact HC1.out; rintro e w7 ⟨rfl, hb⟩; refine ⟨_, rfl, ?_⟩; replace HB := bs HB hb; (try clear hb)))
  go_ret
  exact ⟨rA, bA⟩
 rw [if_neg c6] at H
 have c6b0 := decide_eq_false c6
 clear c6
 obtain ⟨t695, A8, H⟩ := bindE H
 try dsimp only at H
 by_cases c9 : t695 < 0
 ·
  rw [if_pos c9] at H
  have c9b0 := decide_eq_true c9
  clear c9
  obtain rfl := Option.some.inj H
  go_enter Try.func146, Try.ntmps146
  go_wp2_with (first | ((with_reducible refine gate_callee (f := 170) rfl ?_); refine gL (some 15) Try.func170 #[.slice A0 l0.length c0, .slice A1 l1.length c1, .int .i64 a2] ?_; (with_reducible refine (spec_PartAt.calls k _ _ l0 _ _ l1 a2 t693 t694 _ ?_ ?_ ?_ ?_ A5.out).mono ?_); exact cO HR0; exact HC0.out; exact cO HR1; exact HC1.out; rintro e w10 ⟨rfl, hb⟩; refine ⟨_, rfl, ?_⟩; replace HB := bs HB hb; (try clear hb)) | (go_at_call 144; (with_reducible refine (spec_FindPath.calls k _ _ l0 a3 t695 _ ?_ ?_ A8.out).mono ?_); exact cB HR0; exact HC0.out; rintro e w' ⟨rfl, ⟨nd, rfl⟩⟩))
  go_ret
  exact ⟨rA, bA⟩
 rw [if_neg c9] at H
 have c9b0 := decide_eq_false c9
 clear c9
 obtain ⟨t696, A11, H⟩ := bindE H
 try dsimp only at H
 obtain rfl := Option.some.inj H
 go_enter Try.func146, Try.ntmps146
 go_wp2_with (first | ((with_reducible refine gate_callee (f := 170) rfl ?_); refine gL (some 15) Try.func170 #[.slice A0 l0.length c0, .slice A1 l1.length c1, .int .i64 a2] ?_; (with_reducible refine (spec_PartAt.calls k _ _ l0 _ _ l1 a2 t693 t694 _ ?_ ?_ ?_ ?_ A5.out).mono ?_); exact cO HR0; exact HC0.out; exact cO HR1; exact HC1.out; rintro e w12 ⟨rfl, hb⟩; refine ⟨_, rfl, ?_⟩; replace HB := bs HB hb; (try clear hb)) | (go_at_call 144; (with_reducible refine (spec_FindPath.calls k _ _ l0 a3 t695 _ ?_ ?_ A8.out).mono ?_); exact cB HR0; exact HC0.out; rintro e w' ⟨rfl, ⟨nd, rfl⟩⟩) | ((with_reducible refine gate_callee (f := 171) rfl ?_); refine gL (some 31) Try.func171 #[.slice A0 l0.length c0, .slice A1 l1.length c1, .int .i64 t693, .int .i64 t694, .int .i64 a3] ?_; (with_reducible refine (spec_l9Light.calls k _ _ l0 _ _ l1 t693 t694 a3 t696 _ ?_ ?_ ?_ ?_ A11.out).mono ?_); exact cG HR0; exact HC0.out; exact cG HR1; exact HC1.out; rintro e w13 ⟨rfl, hb⟩; refine ⟨_, rfl, ?_⟩; replace HB := bs HB hb; (try clear hb)))
 go_ret
 exact ⟨rA, bA⟩

/-! ### spec_LightsAt: function 116 -/
def spec_LightsAt.l0 : Nat → List (S50) → List (S85) → Int → List Int → Int → Option (List Int)
 | 0, _, _, _, _, _ => none
 | k + 1, x0, x1, x2, x7, x8 => if x8 < (x0.length : Int) then (if 0 ≤ x8 then ((spec_LightAt.f k x0 x1 x2 ((rd_T50 x0 x8).f0)).bind fun t701 => (if x7.length < 17592186044416 then (spec_LightsAt.l0 k x0 x1 x2 (x7 ++ [t701]) (wrap64 (x8 + 1))) else (none))) else (none)) else (some x7)
def spec_LightsAt.f (k : Nat) (l0 : List (S50)) (l1 : List (S85)) (a2 : Int) : Option (List Int) := spec_LightsAt.l0 k l0 l1 a2 (([] : List Int)) 0
theorem spec_LightsAt.mono_l : ∀ k, (∀ y0 y1 y2 y3 y4, LeO (spec_LightsAt.l0 k y0 y1 y2 y3 y4) (spec_LightsAt.l0 (k + 1) y0 y1 y2 y3 y4))
 | 0 => fun _ _ _ _ _ r h => by simp [spec_LightsAt.l0] at h
 | k + 1 => by
  have ih0 := spec_LightsAt.mono_l k
  ·
   intro y0 y1 y2 y3 y4
   unfold spec_LightsAt.l0
   exact mz2 ih0 spec_LightAt.mono
theorem spec_LightsAt.mono : ∀ a0 a1 a2 k, LeO (spec_LightsAt.f k a0 a1 a2) (spec_LightsAt.f (k + 1) a0 a1 a2) := by
 intro a0 a1 a2 k
 have ih0 := spec_LightsAt.mono_l k
 unfold spec_LightsAt.f
 exact mz2 ih0 spec_LightAt.mono
set_option maxHeartbeats 8000000 in
set_option maxRecDepth 100000 in
theorem spec_LightsAt.calls (k : Nat) (A0 : Option Addr) (c0 : Nat) (l0 : List (S50)) (A1 : Option Addr) (c1 : Nat) (l1 : List (S85)) (a2 : Int) (r : List Int) (w : World) (hr0 : Kd.C k50 w A0 l0.length l0) (hc0 : l0.length ≤ c0) (hr1 : Kd.C k85 w A1 l1.length l1) (hc1 : l1.length ≤ c1) (h : spec_LightsAt.f k l0 l1 a2 = some r) :
  Calls Try.prog 116 #[.slice A0 l0.length c0, .slice A1 l1.length c1, .int .i64 a2] w fun e w' => ∃ v0_ : Value, e = .returned (v0_) ∧ Kd.R (Kd.int .i64) 3 w' w.heap.size (fun _ => True) v0_ r ∧ Below w.heap.size w w' := by
 have HR0 := Aside0.mk hr0
 have HC0 := Aside0.mk hc0
 clear hr0 hc0
 have HR1 := Aside0.mk hr1
 have HC1 := Aside0.mk hc1
 clear hr1 hc1
 have HB := Aside0.mk (Below.refl w.heap.size w)
 have H : (spec_LightsAt.l0 k l0 l1 a2 (([] : List Int)) 0) = some r := h
 clear h
 obtain ⟨y697, hy697⟩ : ∃ y_ : List Int, y_ = (([] : List Int)) := ⟨_, rfl⟩
 replace H : (spec_LightsAt.l0 k l0 l1 a2 y697 0) = some r := rH H hy697
 have Ny697 := Aside0.mk hy697
 clear hy697
 have H' := Aside0.mk H
 clear H
 go_enter Try.func116, Try.ntmps116
 go_wp2_with (first | ((with_reducible refine gate_dst (N := 9) rfl ?_); refine Kd.R_lit (Kd.int .i64) _ 3 ?hg (N := 9) ?hd (xs := ([] : List Int)) (inner := []) (ok := fun _ => True) (okp := fun _ => True) ?hr ?hp (fun _ hk => hk) trivial (Below.refl _ _) (Nat.le_refl _) (by simp) ?_; (case hd => rfl); (case hg => rfl); (case hr => first | (go_simp; done) | (go_simp; rfl)); (case hp => exact (Reps.none _ _)); intro v698 w4 ho5 hb hg_ hnew_; clear hg_ hnew_; (first | rw [← Ny697.out] at ho5 | (simp only [Int.reduceToNat] at ho5; rw [← Ny697.out] at ho5)); have HO699 := rl w ho5; replace HB := bs HB hb; clear hb ho5))
 go_loopg [7, 8] k (fun kq v7 v8 w' => ∃ (x7_1 : List Int) (x8_1 : Int), v8 = .int .i64 x8_1 ∧ Aside0 (spec_LightsAt.l0 kq l0 l1 a2 x7_1 x8_1 = some r) ∧ Aside0 (kq ≤ k) ∧ Aside0 (Kd.R (Kd.int .i64) 3 w' w.heap.size (fun _ => True) v7 x7_1) ∧ Aside0 (Below w.heap.size w w'))
 case atStart => exact ⟨(y697), (0), rS, H', ⟨Nat.le_refl _⟩, ⟨rK HO699⟩, ⟨bA⟩⟩
 case round =>
  clear H'
  obtain ⟨x7_1, x8_1, rfl, HA, HK1, HO_7, HB⟩ := hrel
  cases gk with
  | zero => exact absurd HA.out (by simp [spec_LightsAt.l0])
  | succ k1 =>
   have H := HA.out
   clear HA
   simp only [spec_LightsAt.l0] at H
   by_cases c6 : x8_1 < (l0.length : Int)
   ·
    rw [if_pos c6] at H
    have c6b0 := decide_eq_true c6
    clear c6
    have c7 : 0 ≤ x8_1 := ifN H
    replace H := ifT H
    have c7b0 := decide_eq_true c7
    clear c7
    obtain ⟨t701, A8, H⟩ := bindE H
    try dsimp only at H
    have c9 : x7_1.length < 17592186044416 := ifN H
    replace H := ifT H
    have LMc9 := Aside0.mk c9
    clear c9
    obtain ⟨y702, hy702⟩ : ∃ y_ : List Int, y_ = (x7_1 ++ [t701]) := ⟨_, rfl⟩
    replace H : (spec_LightsAt.l0 k1 l0 l1 a2 y702 (wrap64 (x8_1 + 1))) = some r := rH H hy702
    have Ny702 := Aside0.mk hy702
    clear hy702
    have H' := Aside0.mk H
    clear H
    obtain ⟨p700, q700⟩ : 0 ≤ (x8_1 : Int) ∧ x8_1 < (l0.length : Int) := ⟨dA, dA⟩
    obtain ⟨ad700, e700, hx700_0, hx700_1, hx700_2, hx700_3⟩ := at_T50 (Kd.C_below HR0.out HB.out) x8_1 p700 q700
    cases e700
    obtain ⟨p700, q700⟩ := eT p700 q700
    go_wp2_with (first | ((with_reducible refine gate_callee (f := 146) rfl ?_); refine gL (some 25) Try.func146 #[.slice (some ad700) l0.length c0, .slice A1 l1.length c1, .int .i64 a2, .int .i64 ((rd_T50 l0 x8_1).f0)] ?_; (with_reducible refine (spec_LightAt.calls k1 _ _ l0 _ _ l1 a2 ((rd_T50 l0 x8_1).f0) t701 _ ?_ ?_ ?_ ?_ A8.out).mono ?_); exact cB HR0; exact HC0.out; exact cB HR1; exact HC1.out; rintro e w10 ⟨rfl, hb⟩; refine ⟨_, rfl, ?_⟩; replace HO_7 := rb HO_7 hb; replace HB := bs HB hb; (try clear hb)) | ((with_reducible refine gate_builtin (b := .append) (xs := #[.tmp 16, .tmp 26]) rfl ?_); at_builtin; refine Kd.R_append (Kd.int .i64) (w0 := w) w.heap.size rfl (.tmp 16) (.tmp 26) 35 3 (.int .i64 0) 8 rfl Try.underlying35 info3 rfl (by decide) (by omega) u7 x7_1 t701 [.int .i64 t701] (fun _ => True) (fun _ => False) rfl rfl ?aP (fun _ hk => hk.elim) ?aF ?aO ?aB ?aS ?aL ?_; (case aP => exact rfl); (case aB => exact bA); (case aF => exact (fun _ _ => trivial)); (case aO => exact (rK HO_7)); (case aS => exact (below_size bA)); (case aL => have := LMc9.out; omega); intro v703 w11 ho hb hg hat; rw [← Ny702.out] at ho; have n0_ := Aside0.mk (hb); have n1_ := Aside0.mk (ho); clear HB; clear HO_7; have HB := n0_; have HO704 := n1_; clear n0_ n1_; clear ho hb hg hat))
    go_roundg k1
    case measure => have := HK1.out; omega
    case rel => exact ⟨(y702), (wrap64 (x8_1 + 1)), rS, H', ⟨by have := HK1.out; omega⟩, ⟨rK HO704⟩, ⟨bA⟩⟩
   rw [if_neg c6] at H
   have c6b0 := decide_eq_false c6
   clear c6
   obtain rfl := Option.some.inj H
   go_wp2
   go_ret
   exact ⟨_, rA, rK HO_7, bA⟩

/-! ### spec_DrawIsSafeLights: function 67 -/
def spec_DrawIsSafeLights.j0 : Nat → List (S50) → List Int → Bool → List Int → Int → Int → Option ((List (S50)) × List Int)
 | 0, _, _, _, _, _, _ => none
 | k + 1, x4, x8, x27, x716000, x716001, x716002 => if x27 = true then ((spec_l1Below.f x716000 x716001 x716002 (x8.length : Int)).bind fun bt722 => ((spec_l1Int.f x716000 bt722.2.1 bt722.2.2 (([0, 1, 2, 3] : List Int))).bind fun bt728 => (if 0 ≤ bt722.1 then (if bt722.1 < (x8.length : Int) then (some (x4, (x8.set (bt722.1 : Int).toNat bt728.1))) else (none)) else (none)))) else (some (x4, x8))
def spec_DrawIsSafeLights.f (k : Nat) (l0 : List Int) : Option ((List (S50)) × List Int) := (spec_DrawLightsAt.f k l0).bind fun bt705 => ((spec_l1New.f k l0).bind fun bt712 => ((spec_LightsAt.f k bt705.1 bt705.2.1 bt705.2.2).bind fun t716 => (if (t716.length : Int) > 0 then ((spec_l1Once.f bt712.1 bt712.2.1 bt712.2.2 2).bind fun bt719 => (spec_DrawIsSafeLights.j0 k bt705.1 t716 bt719.1 bt712.1 bt719.2.1 bt719.2.2)) else (spec_DrawIsSafeLights.j0 k bt705.1 t716 false bt712.1 bt712.2.1 bt712.2.2))))
theorem spec_DrawIsSafeLights.mono_l : ∀ k, (∀ y0 y1 y2 y3 y4 y5, LeO (spec_DrawIsSafeLights.j0 k y0 y1 y2 y3 y4 y5) (spec_DrawIsSafeLights.j0 (k + 1) y0 y1 y2 y3 y4 y5))
 | 0 => fun _ _ _ _ _ _ r h => by simp [spec_DrawIsSafeLights.j0] at h
 | k + 1 => by
  have ih0 := spec_DrawIsSafeLights.mono_l k
  ·
   intro y0 y1 y2 y3 y4 y5
   unfold spec_DrawIsSafeLights.j0
   exact mz4 ih0 spec_DrawLightsAt.mono spec_LightsAt.mono spec_l1New.mono
theorem spec_DrawIsSafeLights.mono : ∀ a0 k, LeO (spec_DrawIsSafeLights.f k a0) (spec_DrawIsSafeLights.f (k + 1) a0) := by
 intro a0 k
 have ih0 := spec_DrawIsSafeLights.mono_l k
 unfold spec_DrawIsSafeLights.f
 exact mz4 ih0 spec_DrawLightsAt.mono spec_LightsAt.mono spec_l1New.mono
set_option maxHeartbeats 8000000 in
set_option maxRecDepth 100000 in
theorem spec_DrawIsSafeLights.calls (k : Nat) (A0 : Option Addr) (c0 : Nat) (l0 : List Int) (r1 : List (S50)) (r2 : List Int) (w : World) (hr0 : Kd.C (Kd.int .u8) w A0 l0.length l0) (hc0 : l0.length ≤ c0) (h : spec_DrawIsSafeLights.f k l0 = some (r1, r2)) :
  Calls Try.prog 67 #[.slice A0 l0.length c0] w fun e w' => ∃ v0_ v1_ : Value, e = .returned (.tuple #[v0_, v1_]) ∧ Kd.R k50 50 w' w.heap.size (fun _ => True) v0_ r1 ∧ Kd.R (Kd.int .i64) 3 w' w.heap.size (fun _ => True) v1_ r2 ∧ Below w.heap.size w w' := by
 have HR0 := Aside0.mk hr0
 have HC0 := Aside0.mk hc0
 clear hr0 hc0
 have HB := Aside0.mk (Below.refl w.heap.size w)
 have H : ((spec_DrawLightsAt.f k l0).bind fun bt705 => ((spec_l1New.f k l0).bind fun bt712 => ((spec_LightsAt.f k bt705.1 bt705.2.1 bt705.2.2).bind fun t716 => (if (t716.length : Int) > 0 then ((spec_l1Once.f bt712.1 bt712.2.1 bt712.2.2 2).bind fun bt719 => (spec_DrawIsSafeLights.j0 k bt705.1 t716 bt719.1 bt712.1 bt719.2.1 bt719.2.2)) else (spec_DrawIsSafeLights.j0 k bt705.1 t716 false bt712.1 bt712.2.1 bt712.2.2))))) = some (r1, r2) := h
 clear h
 obtain ⟨⟨t705, t708, t711⟩, A2, H⟩ := bindE H
 try dsimp only at H
 obtain ⟨⟨t712, t713, t714⟩, A3, H⟩ := bindE H
 try dsimp only at H
 obtain ⟨t716, A4, H⟩ := bindE H
 try dsimp only at H
 have HC5 := Aside0.mk H
 clear H
 go_enter Try.func67, Try.ntmps67
 go_upto_region 4 with (first | ((with_reducible refine gate_callee (f := 59) rfl ?_); refine gL (some 11) Try.func59 #[.slice A0 l0.length c0] ?_; (with_reducible refine (spec_DrawLightsAt.calls k _ _ l0 t705 t708 t711 _ ?_ ?_ A2.out).mono ?_); exact cO HR0; exact HC0.out; rintro e w6 ⟨v706, v709, rfl, ho0, ho1, hb⟩; refine ⟨_, rfl, ?_⟩; have HO707 := rl w (Kd.R_mono (ok' := fun k_ => True) ho0 (fun _ hk_ => trivial)); have HO710 := Aside0.mk (Kd.V_lower (Kd.V_mono (ok' := n1 v706) ho1 (fun k_ hk_ => hk_.2)) (below_size bA)); replace HB := bs HB hb; (try clear hb); (try clear ho0); (try clear ho1)) | ((with_reducible refine gate_callee (f := 81) rfl ?_); refine gL (some 16) Try.func81 #[.slice A0 l0.length c0] ?_; (with_reducible refine (spec_l1New.calls k _ _ l0 t712 t713 t714 w _ ?_ ?_ ?_ A3.out).mono ?_); exact sB0 HB.out; exact HR0.out; exact HC0.out; rintro e w7 ⟨g715, rfl, hi, hb, hb2, hge_⟩; refine ⟨_, rfl, ?_⟩; have n0_ := rb HO707 hb2; have n1_ := Aside0.mk (Kd.V_below (Kd.V_elderB (by (with_reducible repeat (first | apply Kd.V_alloc | apply Kd.V_drewN | apply Kd.V_drew)); exact HO710.out) g715 hge_) hb2); have n2_ := Aside0.mk (hb); have n3_ := Aside0.mk (hi); clear HO707; clear HO710; clear HB; have HO707 := n0_; have HO710 := n1_; have HB := n2_; have HI715 := n3_; clear n0_ n1_ n2_ n3_; (try clear hb); (try clear hb2); (try clear hi); (try clear hge_); obtain ⟨Ao8, co8, eo8⟩ := Kd.R_slice HO707.out; subst eo8; obtain ⟨Ao9, co9, eo9⟩ := Kd.V_slice HO710.out; subst eo9) | ((with_reducible refine gate_callee (f := 116) rfl ?_); refine gL (some 20) Try.func116 #[.slice Ao8 t705.length co8, .slice Ao9 t708.length co9, .int .i64 t711] ?_; (with_reducible refine (spec_LightsAt.calls k _ _ t705 _ _ t708 t711 t716 _ ?_ ?_ ?_ ?_ A4.out).mono ?_); exact cO ⟨(Kd.R_reads' HO707.out).2.2⟩; exact (Kd.R_reads' HO707.out).2.1; (focus repeat (first | exact (Kd.V_reads' HO710.out).2.2 | (with_reducible refine Kd.C_alloc ?_ _) | (with_reducible refine Kd.C_drewN ?_ _) | (with_reducible refine Kd.C_drew ?_))); exact (Kd.V_reads' HO710.out).2.1; rintro e w10 ⟨v717, rfl, ho0, hb⟩; refine ⟨_, rfl, ?_⟩; have n0_ := rb HO707 hb; have n1_ := Aside0.mk (Kd.V_elder' (by (with_reducible repeat (first | apply Kd.V_alloc | apply Kd.V_drewN | apply Kd.V_drew)); exact HO710.out) (Kd.R_base ho0) hb); have n2_ := Aside0.mk (Kd.R_lower ho0 (below_size (by exact sB1 HB.out (IsS138.ge HI715.out)))); have n3_ := Aside0.mk (IsS138.below (by exact sI1380 HI715.out) hb); have n4_ := Aside0.mk (below_step (by exact sB1 HB.out (IsS138.ge HI715.out)) hb); clear HO707; clear HO710; clear HI715; clear HB; have HO707 := n0_; have HO710 := n1_; have HO718 := n2_; have HI715 := n3_; have HB := n4_; clear n0_ n1_ n2_ n3_ n4_; (try clear hb); (try clear ho0)))
 (try simp only [Act.put, List.setIfInBounds_toArray, List.set_cons_zero, List.set_cons_succ])
 go_cut [27] (fun v27 wc => ∃ (kq : Nat) (x27_4 : Bool) (x716001_4 : Int) (x716002_4 : Int), v27 = .bool x27_4 ∧ Aside0 (spec_DrawIsSafeLights.j0 kq t705 t716 x27_4 t712 x716001_4 x716002_4 = some (r1, r2)) ∧ Aside0 (kq ≤ k) ∧ Aside0 (Kd.R k50 50 wc w.heap.size (fun _ => True) (.slice Ao8 t705.length co8) t705) ∧ Aside0 (Kd.R (Kd.int .i64) 3 wc w.heap.size (fun _ => True) v717 t716) ∧ Aside0 (IsS138 w wc g715 t712 x716001_4 x716002_4) ∧ Aside0 (Below w.heap.size w wc))
 case first =>
  have H := HC5.out
  clear HC5
  by_cases c11 : (t716.length : Int) > 0
  ·
   rw [if_pos c11] at H
   have c11b0 := decide_eq_true c11
   have c11b1 : decide (0 < t716.length) = true := decide_eq_true (by omega)
   clear c11
   (first | rw [c11b0] | (simp only [i64_w, i32_w]; rw [c11b0]) | skip)
   obtain ⟨⟨t719, t720, t721⟩, A12, H⟩ := bindE H
   try dsimp only at H
   have H' := Aside0.mk H
   clear H
   obtain ⟨Ao13, co13, eo13⟩ := Kd.R_slice HO718.out
   subst eo13
   go_wp2_with (first | (go_at_call 93; (with_reducible refine (spec_l1Once.calls g715 t712 t713 t714 2 t719 t720 t721 w _ ?_ ?_ A12.out).mono ?_); exact sI1380 HI715.out; exact sB1 HB.out (IsS138.ge HI715.out); rintro e w14 ⟨rfl, hi, hb, hk⟩; have n0_ := Aside0.mk (Kd.R_mono (Kd.R_keep (IsS138.apart (show IsS138 w _ g715 t712 t713 t714 from by exact sI1380 HI715.out) (rK HO707) (by decide)) hk (fun _ h => h.2)) (fun _ h => h.1)); have n1_ := Aside0.mk (Kd.V_mono (Kd.V_keep (Kd.V_mono (ok := fun k_ => ((some k_ ≠ (.slice Ao8 t705.length co8 : Value).ownBlock ∧ k_ ≠ g715) ∧ some k_ ≠ (.slice Ao13 t716.length co13 : Value).ownBlock)) (by (with_reducible repeat (first | apply Kd.V_alloc | apply Kd.V_drewN | apply Kd.V_drew)); exact HO710.out) (fun k_ hk_ => (⟨hk_, hk_.1.2⟩ : _ ∧ k_ ≠ g715))) hk (fun _ h => h.2)) (fun _ h => h.1)); have n2_ := Aside0.mk (Kd.R_mono (Kd.R_keep (IsS138.apart (show IsS138 w _ g715 t712 t713 t714 from by exact sI1380 HI715.out) (rK HO718) (by decide)) hk (fun _ h => h.2)) (fun _ h => h.1)); have n3_ := Aside0.mk (hb); have n4_ := Aside0.mk (hi); clear HO707; clear HO710; clear HO718; clear HB; clear HI715; have HO707 := n0_; have HO710 := n1_; have HO718 := n2_; have HB := n3_; have HI715 := n4_; clear n0_ n1_ n2_ n3_ n4_; (try clear hb); (try clear hk); (try clear hi)))
   go_meet
   case rel => exact ⟨_, (t719), (t720), (t721), rS, H', ⟨oL⟩, ⟨rK HO707⟩, ⟨rK HO718⟩, ⟨by exact sI1380 HI715.out⟩, ⟨by exact sB1 HB.out (IsS138.ge HI715.out)⟩⟩
  rw [if_neg c11] at H
  have c11b0 := decide_eq_false c11
  have c11b1 : decide (0 < t716.length) = false := decide_eq_false (by omega)
  clear c11
  (first | rw [c11b0] | (simp only [i64_w, i32_w]; rw [c11b0]) | skip)
  have H' := Aside0.mk H
  clear H
  obtain ⟨Ao15, co15, eo15⟩ := Kd.R_slice HO718.out
  subst eo15
  go_wp2
  go_meet
  case rel => exact ⟨_, (false), (t713), (t714), rS, H', ⟨oL⟩, ⟨rK HO707⟩, ⟨rK HO718⟩, ⟨by exact sI1380 HI715.out⟩, ⟨by exact sB1 HB.out (IsS138.ge HI715.out)⟩⟩
 case rest =>
  clear HC5
  obtain ⟨kq, x27_4, x716001_4, x716002_4, rfl, HA, HJ4, HO_4, HO_8, HI715, HB⟩ := hcut
  cases kq with
  | zero => exact absurd HA.out (by simp [spec_DrawIsSafeLights.j0])
  | succ kj4 =>
   have H := HA.out
   clear HA
   simp only [spec_DrawIsSafeLights.j0] at H
   by_cases c16 : x27_4 = true
   ·
    subst c16
    have H1 : ((spec_l1Below.f t712 x716001_4 x716002_4 (t716.length : Int)).bind fun bt722 => ((spec_l1Int.f t712 bt722.2.1 bt722.2.2 (([0, 1, 2, 3] : List Int))).bind fun bt728 => (if 0 ≤ bt722.1 then (if bt722.1 < (t716.length : Int) then (some (t705, (t716.set (bt722.1 : Int).toNat bt728.1))) else (none)) else (none)))) = some (r1, r2) := by rw [if_pos rfl] at H; exact H
    clear H
    have H := H1
    clear H1
    obtain ⟨⟨t722, t723, t724⟩, A17, H⟩ := bindE H
    try dsimp only at H
    obtain ⟨y725, hy725⟩ : ∃ y_ : List Int, y_ = (([0, 1, 2, 3] : List Int)) := ⟨_, rfl⟩
    replace H : ((spec_l1Int.f t712 t723 t724 y725).bind fun bt728 => (if 0 ≤ t722 then (if t722 < (t716.length : Int) then (some (t705, (t716.set (t722 : Int).toNat bt728.1))) else (none)) else (none))) = some (r1, r2) := rH H hy725
    have Ny725 := Aside0.mk hy725
    clear hy725
    obtain ⟨⟨t728, t729, t730⟩, A18, H⟩ := bindE H
    try dsimp only at H
    have c19 : 0 ≤ t722 := ifN H
    replace H := ifT H
    have c19b0 := decide_eq_true c19
    clear c19
    have c20 : t722 < (t716.length : Int) := ifN H
    replace H := ifT H
    have c20b0 := decide_eq_true c20
    clear c20
    obtain ⟨y731, hy731⟩ : ∃ y_ : List Int, y_ = (t716.set (t722 : Int).toNat t728) := ⟨_, rfl⟩
    replace H : (some (t705, y731)) = some (r1, r2) := rH H hy731
    have Ny731 := Aside0.mk hy731
    clear hy731
    simp only [Option.some.injEq, Prod.mk.injEq] at H
    obtain ⟨rfl, rfl⟩ := H
    obtain ⟨Ao22, co22, eo22⟩ := Kd.R_slice HO_8.out
    subst eo22
    go_wp2_with (first | ((with_reducible refine gate_callee (f := 84) rfl ?_); refine gL (some 32) Try.func84 #[.pointer (some ⟨g715, 0, none⟩), .int .i64 (t716.length : Int)] ?_; (with_reducible refine (spec_l1Below.calls g715 t712 x716001_4 x716002_4 (t716.length : Int) t722 t723 t724 w _ ?_ ?_ A17.out).mono ?_); exact sI1380 HI715.out; exact sB1 HB.out (IsS138.ge HI715.out); rintro e w23 ⟨rfl, hi, hb, hk⟩; refine ⟨_, rfl, ?_⟩; replace HO_4 := Aside0.mk (Kd.R_mono (Kd.R_keep (IsS138.apart (show IsS138 w _ g715 t712 x716001_4 x716002_4 from by exact sI1380 HI715.out) (rK HO_4) (by decide)) hk (fun _ h => h.2)) (fun _ h => h.1)); replace HO_8 := Aside0.mk (Kd.R_mono (Kd.R_keep (IsS138.apart (show IsS138 w _ g715 t712 x716001_4 x716002_4 from by exact sI1380 HI715.out) (rK HO_8) (by decide)) hk (fun _ h => h.2)) (fun _ h => h.1)); replace HB := Aside0.mk (hb); replace HI715 := Aside0.mk (hi); (try clear hb); (try clear hk); (try clear hi)) | ((with_reducible refine gate_dst (N := 34) rfl ?_); refine Kd.R_lit (Kd.int .i64) _ 3 ?hg (N := 34) ?hd (xs := ([0, 1, 2, 3] : List Int)) (inner := [.int .i64 0, .int .i64 1, .int .i64 2, .int .i64 3]) (ok := fun _ => True) (okp := fun _ => True) ?hr ?hp (fun _ hk => hk) trivial (Below.refl _ _) (Nat.le_refl _) (by simp) ?_; (case hd => rfl); (case hg => rfl); (case hr => first | (go_simp; done) | (go_simp; rfl)); (case hp => exact (Reps.one (show Kd.M (Kd.int .i64) _ _ _ 0 [.int .i64 0] from rfl) (Reps.one (show Kd.M (Kd.int .i64) _ _ _ 1 [.int .i64 1] from rfl) (Reps.one (show Kd.M (Kd.int .i64) _ _ _ 2 [.int .i64 2] from rfl) (Reps.one (show Kd.M (Kd.int .i64) _ _ _ 3 [.int .i64 3] from rfl) (Reps.none _ _)))))); intro v726 w24 ho25 hb hg_ hnew_; clear hg_ hnew_; (first | rw [← Ny725.out] at ho25 | (simp only [Int.reduceToNat] at ho25; rw [← Ny725.out] at ho25)); replace HO_4 := rb HO_4 hb; have HO727 := Aside0.mk (Kd.R_lower (Kd.R_new' ho25 (Kd.R_lt (rK HO_8))) (below_size (by exact sB1 HB.out (IsS138.ge HI715.out)))); replace HO_8 := re HO_8 ho25 hb; replace HB := Aside0.mk (below_step (by exact sB1 HB.out (IsS138.ge HI715.out)) hb); replace HI715 := Aside0.mk (IsS138.below (by exact sI1380 HI715.out) hb); clear hb ho25; obtain ⟨Ao26, co26, eo26⟩ := Kd.R_slice HO727.out; subst eo26) | ((with_reducible refine gate_callee (f := 94) rfl ?_); refine gL (some 35) Try.func94 #[.pointer (some ⟨g715, 0, none⟩), .slice Ao26 y725.length co26] ?_; (with_reducible refine (spec_l1Int.calls g715 t712 t723 t724 _ _ y725 t728 t729 t730 w _ ?_ ?_ ?_ ?_ ?_ A18.out).mono ?_); exact sI1380 HI715.out; exact sB1 HB.out (IsS138.ge HI715.out); exact cO ⟨(Kd.R_reads' HO727.out).2.2⟩; exact (Kd.R_reads' HO727.out).2.1; exact far_slice (IsS138.own_ne HI715.out HO727.out (by decide)); rintro e w27 ⟨rfl, hi, hb, hk⟩; refine ⟨_, rfl, ?_⟩; replace HO_4 := Aside0.mk (Kd.R_mono (Kd.R_keep (IsS138.apart (show IsS138 w _ g715 t712 t723 t724 from by exact sI1380 HI715.out) (rK HO_4) (by decide)) hk (fun _ h => h.2)) (fun _ h => h.1)); replace HO_8 := Aside0.mk (Kd.R_mono (Kd.R_keep (IsS138.apart (show IsS138 w _ g715 t712 t723 t724 from by exact sI1380 HI715.out) (rK HO_8) (by decide)) hk (fun _ h => h.2)) (fun _ h => h.1)); replace HO727 := Aside0.mk (Kd.R_mono (Kd.R_keep (IsS138.apart (show IsS138 w _ g715 t712 t723 t724 from by exact sI1380 HI715.out) (rK HO727) (by decide)) hk (fun _ h => h.2)) (fun _ h => h.1)); replace HB := Aside0.mk (hb); replace HI715 := Aside0.mk (hi); (try clear hb); (try clear hk); (try clear hi); have p21 : 0 ≤ (t722 : Int) := dA; have q21 : (t722 : Int) < ((t716.length : Int) : Int) := dA; obtain ⟨go21, co21, eo21, gb21, gl21, cl21, HG21⟩ := Kd.R_form HO_8.out (by omega); (first | cases eo21 | (injection eo21 with ea_ en_ ec_; (first | subst ea_ | (injection ea_ with ea_; subst ea_)); subst ec_; clear en_)); have GB21 := Aside0.mk gb21; have GG21 := Aside0.mk HG21; clear gb21 gl21 HG21; obtain ⟨hx21_0, hf21_0⟩ := Kd.R_celln 0 HO_8.out (t722 : Int) p21 q21; replace p21 := eq_true p21; replace q21 := eq_true q21; have n_ := Aside0.mk (Kd.R_mono (ok' := (n1 (.slice Ao26 y725.length co26))) HO_8.out (fun k_ hk => hk.2)); clear HO_8; have HO_8 := n_; clear n_; obtain ⟨hy28_, hz28_⟩ := Kd.R_celln 0 HO_8.out (t722 : Int) (dA) (dA); have HP28 := Kd.R_putg HO_8.out (t722 : Int) t728) | ((with_reducible refine gate_store (t := 3) (p := 36) rfl ?_); refine store_event (t := 3) (p := 36) (v := ?vo_w29) (w1 := (w27.setCell ⟨go21, (t722 : Int).toNat, none⟩ (.int .i64 t728))) ?hg ?ho ?hn ?hr ?_; (case ho => rfl); (case hg => rfl); (case hn => rfl); (case hr => first | (go_simp; done) | (go_simp; rfl)); intro w29 hw; have hg : w27.grownBy w29 (some go21) := (by rw [hw]; exact HP28.2); have hp_ : Kd.R (Kd.int .i64) 3 w29 w.heap.size (n1 (.slice Ao26 y725.length co26)) (.slice (some ⟨go21, 0, none⟩) t716.length co22) y731 := (by rw [hw, Ny731.out]; exact HP28.1); clear HP28; have n0_ := Aside0.mk (Kd.R_over' (v := (.slice (some ⟨go21, 0, none⟩) t716.length co22)) (rK HO_4) (Kd.R_typed HO_8.out) (by decide) hg); have n1_ := Aside0.mk (hp_); have n2_ := Aside0.mk (IsS138.grown (by exact sI1380 HI715.out) hg (IsS138.own_ne HI715.out HO_8.out (by decide))); have n3_ := Aside0.mk (Kd.R_after (v := (.slice (some ⟨go21, 0, none⟩) t716.length co22)) (v1 := (.slice (some ⟨go21, 0, none⟩) t716.length co22)) (ok := (fun _ => True)) (rK HO727) hg (.inl rfl)); have n4_ := Aside0.mk ((by rw [hw]; exact below_set (HB.out) GB21.out : Below w.heap.size w w29)); clear HO_4; clear HO_8; clear HI715; clear HO727; clear HB; have HO_4 := n0_; have HO_8 := n1_; have HI715 := n2_; have HO727 := n3_; have HB := n4_; clear n0_ n1_ n2_ n3_ n4_; clear hg hw hp_))
    go_ret2
    exact ⟨_, _, rA, rK HO_4, rm HO_8 (fun _ hk => trivial), by exact sB1 HB.out (IsS138.ge HI715.out)⟩
   replace c16 := Bool.eq_false_iff.mpr c16
   subst c16
   have H1 : (some (t705, t716)) = some (r1, r2) := by rw [if_neg (show ¬ (false = true) by decide)] at H; exact H
   clear H
   have H := H1
   clear H1
   simp only [Option.some.injEq, Prod.mk.injEq] at H
   obtain ⟨rfl, rfl⟩ := H
   go_wp2
   go_ret2
   exact ⟨_, _, rA, rK HO_4, rK HO_8, by exact sB1 HB.out (IsS138.ge HI715.out)⟩

end Go.Proofs.Ytjgonpcajedkjaa.P
