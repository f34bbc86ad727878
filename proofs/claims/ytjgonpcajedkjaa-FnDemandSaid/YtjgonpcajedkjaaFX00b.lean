/- Printed by myprint.py (wip/tools) over the kit's print: what Go's functions compute, and that they do. Lean checks it. -/
import Derived.Test.YtjgonpcajedkjaaF0
import Derived.Test.YtjgonpcajedkjaaFX00
namespace Go.Proofs.Ytjgonpcajedkjaa.P
open Go.RowKit Go.Proofs.YtjgonpcajedkjaaW.PrintWords Go.Proofs.YtjgonpcajedkjaaW.PrintLast Go.Proofs.YtjgonpcajedkjaaW.PrintMore Go.Proofs.Ytjgonpcajedkjaa.Sq
attribute [local go_sem] max2_int min2_int max_two min_two max_three min_three max_four min_four
set_option linter.unusedVariables false
set_option linter.unusedSimpArgs false

/-! ### spec_l10Any: function 87 -/
def spec_l10Any.f (k : Nat) (s0_0 : List Int) (s0_1 : Int) (s0_2 : Int) : Option ((List (S50)) × (List (S120)) × Int × Int) := (spec_l5Any.f k s0_0 s0_1 s0_2).bind fun bt230 => ((spec_l10Draw.f k s0_0 bt230.2.1 bt230.2.2 bt230.1).bind fun bt235 => (if (bt235.1.length : Int) = 0 then (some (bt230.1, bt235.1, bt235.2.1, bt235.2.2)) else ((spec_l1Below.f s0_0 bt235.2.1 bt235.2.2 (bt235.1.length : Int)).bind fun bt240 => ((spec_l1Below.f s0_0 bt240.2.1 bt240.2.2 9).bind fun bt243 => (if bt243.1 = 0 then ((spec_l1Below.f s0_0 bt243.2.1 bt243.2.2 22).bind fun bt246 => (if 0 ≤ bt240.1 then (if bt240.1 < (bt235.1.length : Int) then (some (bt230.1, (bt235.1.set (bt240.1 : Int).toNat (⟨bt246.1, (rd_T120 bt235.1 bt240.1).f1, (rd_T120 bt235.1 bt240.1).f2, (rd_T120 bt235.1 bt240.1).f3⟩ : S120)), bt246.2.1, bt246.2.2)) else (none)) else (none))) else (if bt243.1 = 1 then ((spec_l1Int.f s0_0 bt243.2.1 bt243.2.2 (([(-1), 1000, 1001] : List Int))).bind fun bt253 => (if 0 ≤ bt240.1 then (if bt240.1 < (bt235.1.length : Int) then (some (bt230.1, (bt235.1.set (bt240.1 : Int).toNat (⟨(rd_T120 bt235.1 bt240.1).f0, bt253.1, (rd_T120 bt235.1 bt240.1).f2, (rd_T120 bt235.1 bt240.1).f3⟩ : S120)), bt253.2.1, bt253.2.2)) else (none)) else (none))) else (if bt243.1 = 2 then ((spec_l4Raw.f s0_0 bt243.2.1 bt243.2.2).bind fun bt257 => (if 0 ≤ bt240.1 then (if bt240.1 < (bt235.1.length : Int) then (some (bt230.1, (bt235.1.set (bt240.1 : Int).toNat (⟨(rd_T120 bt235.1 bt240.1).f0, (rd_T120 bt235.1 bt240.1).f1, bt257.1, (rd_T120 bt235.1 bt240.1).f3⟩ : S120)), bt257.2.1, bt257.2.2)) else (none)) else (none))) else (some (bt230.1, bt235.1, bt243.2.1, bt243.2.2)))))))))
theorem spec_l10Any.mono : ∀ a0 a1 a2 k, LeO (spec_l10Any.f k a0 a1 a2) (spec_l10Any.f (k + 1) a0 a1 a2) := by
 intro a0 a1 a2 k
 unfold spec_l10Any.f
 repeat' first | (with_reducible first | exact LeO.refl _ | exact LeO.none _ | refine LeO.ite ?_ ?_ | refine LeO.bind ?_ (fun _ => ?_) | exact spec_l10Draw.mono _ _ _ _ _ | exact spec_l5Any.mono _ _ _ _)
set_option maxHeartbeats 8000000 in
set_option maxRecDepth 100000 in
theorem spec_l10Any.calls (k : Nat) (g : Nat) (s0_0 : List Int) (s0_1 : Int) (s0_2 : Int) (r1 : List (S50)) (r2 : List (S120)) (r3 : Int) (r4 : Int) (w0 w : World) (hI : IsS138 w0 w g s0_0 s0_1 s0_2) (hB : Below w0.heap.size w0 w) (h : spec_l10Any.f k s0_0 s0_1 s0_2 = some (r1, r2, r3, r4)) :
  Calls Try.prog 87 #[.pointer (some ⟨g, 0, none⟩)] w fun e w' => ∃ v0_ v1_ : Value, e = .returned (.tuple #[v0_, v1_]) ∧ Kd.R k50 50 w' w.heap.size (fun _ => True) v0_ r1 ∧ Kd.R k120 120 w' w.heap.size (fun _ => True) v1_ r2 ∧ IsS138 w0 w' g s0_0 r3 r4 ∧ Below w0.heap.size w0 w' ∧ KeepBut w w' g none := by
 have HI0 := Aside0.mk hI
 have HK := Aside0.mk (KeepBut.refl w g none)
 have HL := Aside0.mk hB.size
 clear hI
 have HW0 := Aside0.mk hB.size
 have HB := Aside0.mk hB
 clear hB
 have H : ((spec_l5Any.f k s0_0 s0_1 s0_2).bind fun bt230 => ((spec_l10Draw.f k s0_0 bt230.2.1 bt230.2.2 bt230.1).bind fun bt235 => (if (bt235.1.length : Int) = 0 then (some (bt230.1, bt235.1, bt235.2.1, bt235.2.2)) else ((spec_l1Below.f s0_0 bt235.2.1 bt235.2.2 (bt235.1.length : Int)).bind fun bt240 => ((spec_l1Below.f s0_0 bt240.2.1 bt240.2.2 9).bind fun bt243 => (if bt243.1 = 0 then ((spec_l1Below.f s0_0 bt243.2.1 bt243.2.2 22).bind fun bt246 => (if 0 ≤ bt240.1 then (if bt240.1 < (bt235.1.length : Int) then (some (bt230.1, (bt235.1.set (bt240.1 : Int).toNat (⟨bt246.1, (rd_T120 bt235.1 bt240.1).f1, (rd_T120 bt235.1 bt240.1).f2, (rd_T120 bt235.1 bt240.1).f3⟩ : S120)), bt246.2.1, bt246.2.2)) else (none)) else (none))) else (if bt243.1 = 1 then ((spec_l1Int.f s0_0 bt243.2.1 bt243.2.2 (([(-1), 1000, 1001] : List Int))).bind fun bt253 => (if 0 ≤ bt240.1 then (if bt240.1 < (bt235.1.length : Int) then (some (bt230.1, (bt235.1.set (bt240.1 : Int).toNat (⟨(rd_T120 bt235.1 bt240.1).f0, bt253.1, (rd_T120 bt235.1 bt240.1).f2, (rd_T120 bt235.1 bt240.1).f3⟩ : S120)), bt253.2.1, bt253.2.2)) else (none)) else (none))) else (if bt243.1 = 2 then ((spec_l4Raw.f s0_0 bt243.2.1 bt243.2.2).bind fun bt257 => (if 0 ≤ bt240.1 then (if bt240.1 < (bt235.1.length : Int) then (some (bt230.1, (bt235.1.set (bt240.1 : Int).toNat (⟨(rd_T120 bt235.1 bt240.1).f0, (rd_T120 bt235.1 bt240.1).f1, bt257.1, (rd_T120 bt235.1 bt240.1).f3⟩ : S120)), bt257.2.1, bt257.2.2)) else (none)) else (none))) else (some (bt230.1, bt235.1, bt243.2.1, bt243.2.2)))))))))) = some (r1, r2, r3, r4) := h
 clear h
 obtain ⟨⟨t230, t233, t234⟩, A2, H⟩ := bindE H
 try dsimp only at H
 obtain ⟨⟨t235, t238, t239⟩, A3, H⟩ := bindE H
 try dsimp only at H
 by_cases c4 : (t235.length : Int) = 0
 ·
  rw [if_pos c4] at H
  have c4b0 : ((t235.length : Int) == 0) = true := beq_iff_eq.mpr c4
  have c4b1 : ((t235.length : Int) != 0) = false := bne_eq_false_iff_eq.mpr c4
  clear c4
  simp only [Option.some.injEq, Prod.mk.injEq] at H
  obtain ⟨rfl, rfl, rfl, rfl⟩ := H
  go_enter Try.func87, Try.ntmps87
  go_wp2_with (first | ((with_reducible refine gate_callee (f := 125) rfl ?_); refine gL (some 8) Try.func125 #[.pointer (some ⟨g, 0, none⟩)] ?_; (with_reducible refine (spec_l5Any.calls k g s0_0 s0_1 s0_2 t230 t233 t234 w0 _ ?side1 ?side2 A2.out).mono ?_); (case side1 => repeat (first | (with_reducible first | exact HI0.out | apply IsS138.alloc | apply IsS138.drewN | apply IsS138.drew | apply IsS138.set_1 | apply IsS138.set_2) | exact HI0.out)); (case side2 => repeat (first | (with_reducible first | exact HB.out | apply below_alloc | apply pw_below_drewN | apply below_drew1 | refine below_set ?_ (IsS138.ge HI0.out)) | exact HB.out)); rintro e w5 ⟨v231, rfl, ho0, hi, hb, hk⟩; refine ⟨_, rfl, ?_⟩; have n0_ := Aside0.mk (Kd.R_lower ho0 (keep_size (w := w) (g := g) (row := none) (by repeat (first | (with_reducible first | exact HK.out | apply KeepBut.set_ | apply keep_drewN | apply keep_drew | apply keep_alloc) | exact HK.out)))); have n1_ := Aside0.mk (KeepBut.trans (by repeat (first | (with_reducible first | exact HK.out | apply KeepBut.set_ | apply keep_drewN | apply keep_drew | apply keep_alloc) | exact HK.out)) hk (.inl rfl)); have n2_ := Aside0.mk (hb); have n3_ := Aside0.mk (hi); clear HK; clear HB; clear HI0; have HO232 := n0_; have HK := n1_; have HB := n2_; have HI0 := n3_; clear n0_ n1_ n2_ n3_; (try clear hb); (try clear hk); (try clear hi); (try clear ho0); obtain ⟨Ao6, co6, eo6⟩ := Kd.R_slice HO232.out; subst eo6) | ((with_reducible refine gate_callee (f := 104) rfl ?_); refine gL (some 11) Try.func104 #[.pointer (some ⟨g, 0, none⟩), .slice Ao6 t230.length co6] ?_; (with_reducible refine (spec_l10Draw.calls k g s0_0 t233 t234 _ _ t230 t235 t238 t239 w0 _ ?side1 ?side2 ?side3 ?side4 A3.out).mono ?_); (case side1 => repeat (first | (with_reducible first | exact HI0.out | apply IsS138.alloc | apply IsS138.drewN | apply IsS138.drew | apply IsS138.set_1 | apply IsS138.set_2) | exact HI0.out)); (case side2 => repeat (first | (with_reducible first | exact HB.out | apply below_alloc | apply pw_below_drewN | apply below_drew1 | refine below_set ?_ (IsS138.ge HI0.out)) | exact HB.out)); (case side3 => exact Kd.C_foot_own (IsS138.apart (show IsS138 w0 _ g s0_0 t233 t234 from by repeat (first | (with_reducible first | exact HI0.out | apply IsS138.alloc | apply IsS138.drewN | apply IsS138.drew | apply IsS138.set_1 | apply IsS138.set_2) | exact HI0.out)) (rK HO232) (by decide)) (fun _ h_ => h_.2)); (case side4 => exact (Kd.R_reads' HO232.out).2.1); rintro e w7 ⟨v236, rfl, ho0, hi, hb, hk⟩; refine ⟨_, rfl, ?_⟩; replace HO232 := Aside0.mk (Kd.R_mono (Kd.R_keep (IsS138.apart (show IsS138 w0 _ g s0_0 t233 t234 from by repeat (first | (with_reducible first | exact HI0.out | apply IsS138.alloc | apply IsS138.drewN | apply IsS138.drew | apply IsS138.set_1 | apply IsS138.set_2) | exact HI0.out)) (rK HO232) (by decide)) hk (fun _ h => h.2)) (fun _ h => h.1)); have HO237 := Aside0.mk (Kd.R_lower ho0 (keep_size (w := w) (g := g) (row := none) (by repeat (first | (with_reducible first | exact HK.out | apply KeepBut.set_ | apply keep_drewN | apply keep_drew | apply keep_alloc) | exact HK.out)))); replace HK := Aside0.mk (KeepBut.trans (by repeat (first | (with_reducible first | exact HK.out | apply KeepBut.set_ | apply keep_drewN | apply keep_drew | apply keep_alloc) | exact HK.out)) hk (.inl rfl)); replace HB := Aside0.mk (hb); replace HI0 := Aside0.mk (hi); (try clear hb); (try clear hk); (try clear hi); (try clear ho0); obtain ⟨Ao8, co8, eo8⟩ := Kd.R_slice HO237.out; subst eo8))
  go_ret2
  exact ⟨_, _, by first | rfl | (simp [errW_none, errW_some] <;> rfl) | (simp [*, errW_none, errW_some] <;> rfl), by (with_reducible repeat (first | apply Kd.R_alloc | apply Kd.R_drewN | apply Kd.R_drew)); exact HO232.out, by (with_reducible repeat (first | apply Kd.R_alloc | apply Kd.R_drewN | apply Kd.R_drew)); exact HO237.out, by repeat (first | (with_reducible first | exact HI0.out | apply IsS138.alloc | apply IsS138.drewN | apply IsS138.drew | apply IsS138.set_1 | apply IsS138.set_2) | exact HI0.out), by repeat (first | (with_reducible first | exact HB.out | apply below_alloc | apply pw_below_drewN | apply below_drew1 | refine below_set ?_ (IsS138.ge HI0.out)) | exact HB.out), by repeat (first | (with_reducible first | exact HK.out | apply KeepBut.set_ | apply keep_drewN | apply keep_drew | apply keep_alloc) | exact HK.out)⟩
 ·
  rw [if_neg c4] at H
  have c4b0 : ((t235.length : Int) == 0) = false := beq_eq_false_iff_ne.mpr c4
  have c4b1 : ((t235.length : Int) != 0) = true := bne_iff_ne.mpr c4
  have c4b2 : ¬ (t235 = []) := fun h_ => c4 (by rw [h_]; rfl)
  obtain ⟨⟨t240, t241, t242⟩, A9, H⟩ := bindE H
  try dsimp only at H
  obtain ⟨⟨t243, t244, t245⟩, A10, H⟩ := bindE H
  try dsimp only at H
  by_cases c11 : t243 = 0
  ·
   rw [if_pos c11] at H
   have c11b0 : (t243 == 0) = true := beq_iff_eq.mpr c11
   have c11b1 : (t243 != 0) = false := bne_eq_false_iff_eq.mpr c11
   clear c11
   obtain ⟨⟨t246, t247, t248⟩, A12, H⟩ := bindE H
   try dsimp only at H
   have c13 : 0 ≤ t240 := ifN H
   replace H := ifT H
   have c13b0 := decide_eq_true c13
   clear c13
   have c14 : t240 < (t235.length : Int) := ifN H
   replace H := ifT H
   have c14b0 := decide_eq_true c14
   clear c14
   obtain ⟨y249, hy249⟩ : ∃ y_ : List (S120), y_ = (t235.set (t240 : Int).toNat (⟨t246, (rd_T120 t235 t240).f1, (rd_T120 t235 t240).f2, (rd_T120 t235 t240).f3⟩ : S120)) := ⟨_, rfl⟩
   replace H : (some (t230, y249, t247, t248)) = some (r1, r2, r3, r4) := by first | (rw [hy249]; with_reducible exact H) | (have H2_ := (Option.bind_some _ _).symm.trans H; rw [hy249]; with_reducible exact H2_) | (have H2_ := (Option.bind_some _ _).symm.trans H; with_reducible exact H2_) | with_reducible exact H | (rw [hy249]; exact H) | exact H
   have Ny249 := Aside0.mk hy249
   clear hy249
   simp only [Option.some.injEq, Prod.mk.injEq] at H
   obtain ⟨rfl, rfl, rfl, rfl⟩ := H
   go_enter Try.func87, Try.ntmps87
   go_wp2_with (first | ((with_reducible refine gate_callee (f := 125) rfl ?_); refine gL (some 8) Try.func125 #[.pointer (some ⟨g, 0, none⟩)] ?_; (with_reducible refine (spec_l5Any.calls k g s0_0 s0_1 s0_2 t230 t233 t234 w0 _ ?side1 ?side2 A2.out).mono ?_); (case side1 => repeat (first | (with_reducible first | exact HI0.out | apply IsS138.alloc | apply IsS138.drewN | apply IsS138.drew | apply IsS138.set_1 | apply IsS138.set_2) | exact HI0.out)); (case side2 => repeat (first | (with_reducible first | exact HB.out | apply below_alloc | apply pw_below_drewN | apply below_drew1 | refine below_set ?_ (IsS138.ge HI0.out)) | exact HB.out)); rintro e w16 ⟨v231, rfl, ho0, hi, hb, hk⟩; refine ⟨_, rfl, ?_⟩; have n0_ := Aside0.mk (Kd.R_lower ho0 (keep_size (w := w) (g := g) (row := none) (by repeat (first | (with_reducible first | exact HK.out | apply KeepBut.set_ | apply keep_drewN | apply keep_drew | apply keep_alloc) | exact HK.out)))); have n1_ := Aside0.mk (KeepBut.trans (by repeat (first | (with_reducible first | exact HK.out | apply KeepBut.set_ | apply keep_drewN | apply keep_drew | apply keep_alloc) | exact HK.out)) hk (.inl rfl)); have n2_ := Aside0.mk (hb); have n3_ := Aside0.mk (hi); clear HK; clear HB; clear HI0; have HO232 := n0_; have HK := n1_; have HB := n2_; have HI0 := n3_; clear n0_ n1_ n2_ n3_; (try clear hb); (try clear hk); (try clear hi); (try clear ho0); obtain ⟨Ao17, co17, eo17⟩ := Kd.R_slice HO232.out; subst eo17) | ((with_reducible refine gate_callee (f := 104) rfl ?_); refine gL (some 11) Try.func104 #[.pointer (some ⟨g, 0, none⟩), .slice Ao17 t230.length co17] ?_; (with_reducible refine (spec_l10Draw.calls k g s0_0 t233 t234 _ _ t230 t235 t238 t239 w0 _ ?side1 ?side2 ?side3 ?side4 A3.out).mono ?_); (case side1 => repeat (first | (with_reducible first | exact HI0.out | apply IsS138.alloc | apply IsS138.drewN | apply IsS138.drew | apply IsS138.set_1 | apply IsS138.set_2) | exact HI0.out)); (case side2 => repeat (first | (with_reducible first | exact HB.out | apply below_alloc | apply pw_below_drewN | apply below_drew1 | refine below_set ?_ (IsS138.ge HI0.out)) | exact HB.out)); (case side3 => exact Kd.C_foot_own (IsS138.apart (show IsS138 w0 _ g s0_0 t233 t234 from by repeat (first | (with_reducible first | exact HI0.out | apply IsS138.alloc | apply IsS138.drewN | apply IsS138.drew | apply IsS138.set_1 | apply IsS138.set_2) | exact HI0.out)) (rK HO232) (by decide)) (fun _ h_ => h_.2)); (case side4 => exact (Kd.R_reads' HO232.out).2.1); rintro e w18 ⟨v236, rfl, ho0, hi, hb, hk⟩; refine ⟨_, rfl, ?_⟩; replace HO232 := Aside0.mk (Kd.R_mono (Kd.R_keep (IsS138.apart (show IsS138 w0 _ g s0_0 t233 t234 from by repeat (first | (with_reducible first | exact HI0.out | apply IsS138.alloc | apply IsS138.drewN | apply IsS138.drew | apply IsS138.set_1 | apply IsS138.set_2) | exact HI0.out)) (rK HO232) (by decide)) hk (fun _ h => h.2)) (fun _ h => h.1)); have HO237 := Aside0.mk (Kd.R_lower ho0 (keep_size (w := w) (g := g) (row := none) (by repeat (first | (with_reducible first | exact HK.out | apply KeepBut.set_ | apply keep_drewN | apply keep_drew | apply keep_alloc) | exact HK.out)))); replace HK := Aside0.mk (KeepBut.trans (by repeat (first | (with_reducible first | exact HK.out | apply KeepBut.set_ | apply keep_drewN | apply keep_drew | apply keep_alloc) | exact HK.out)) hk (.inl rfl)); replace HB := Aside0.mk (hb); replace HI0 := Aside0.mk (hi); (try clear hb); (try clear hk); (try clear hi); (try clear ho0); obtain ⟨Ao19, co19, eo19⟩ := Kd.R_slice HO237.out; subst eo19) | ((with_reducible refine gate_callee (f := 84) rfl ?_); refine gL (some 20) Try.func84 #[.pointer (some ⟨g, 0, none⟩), .int .i64 (t235.length : Int)] ?_; (with_reducible refine (spec_l1Below.calls g s0_0 t238 t239 (t235.length : Int) t240 t241 t242 w0 _ ?side1 ?side2 A9.out).mono ?_); (case side1 => repeat (first | (with_reducible first | exact HI0.out | apply IsS138.alloc | apply IsS138.drewN | apply IsS138.drew | apply IsS138.set_1 | apply IsS138.set_2) | exact HI0.out)); (case side2 => repeat (first | (with_reducible first | exact HB.out | apply below_alloc | apply pw_below_drewN | apply below_drew1 | refine below_set ?_ (IsS138.ge HI0.out)) | exact HB.out)); rintro e w20 ⟨rfl, hi, hb, hk⟩; refine ⟨_, rfl, ?_⟩; replace HO232 := Aside0.mk (Kd.R_mono (Kd.R_keep (IsS138.apart (show IsS138 w0 _ g s0_0 t238 t239 from by repeat (first | (with_reducible first | exact HI0.out | apply IsS138.alloc | apply IsS138.drewN | apply IsS138.drew | apply IsS138.set_1 | apply IsS138.set_2) | exact HI0.out)) (rK HO232) (by decide)) hk (fun _ h => h.2)) (fun _ h => h.1)); replace HO237 := Aside0.mk (Kd.R_mono (Kd.R_keep (IsS138.apart (show IsS138 w0 _ g s0_0 t238 t239 from by repeat (first | (with_reducible first | exact HI0.out | apply IsS138.alloc | apply IsS138.drewN | apply IsS138.drew | apply IsS138.set_1 | apply IsS138.set_2) | exact HI0.out)) (rK HO237) (by decide)) hk (fun _ h => h.2)) (fun _ h => h.1)); replace HK := Aside0.mk (KeepBut.trans (by repeat (first | (with_reducible first | exact HK.out | apply KeepBut.set_ | apply keep_drewN | apply keep_drew | apply keep_alloc) | exact HK.out)) hk (.inl rfl)); replace HB := Aside0.mk (hb); replace HI0 := Aside0.mk (hi); (try clear hb); (try clear hk); (try clear hi)) | ((with_reducible refine gate_callee (f := 84) rfl ?_); refine gL (some 22) Try.func84 #[.pointer (some ⟨g, 0, none⟩), .int .i64 9] ?_; (with_reducible refine (spec_l1Below.calls g s0_0 t241 t242 9 t243 t244 t245 w0 _ ?side1 ?side2 A10.out).mono ?_); (case side1 => repeat (first | (with_reducible first | exact HI0.out | apply IsS138.alloc | apply IsS138.drewN | apply IsS138.drew | apply IsS138.set_1 | apply IsS138.set_2) | exact HI0.out)); (case side2 => repeat (first | (with_reducible first | exact HB.out | apply below_alloc | apply pw_below_drewN | apply below_drew1 | refine below_set ?_ (IsS138.ge HI0.out)) | exact HB.out)); rintro e w21 ⟨rfl, hi, hb, hk⟩; refine ⟨_, rfl, ?_⟩; replace HO232 := Aside0.mk (Kd.R_mono (Kd.R_keep (IsS138.apart (show IsS138 w0 _ g s0_0 t241 t242 from by repeat (first | (with_reducible first | exact HI0.out | apply IsS138.alloc | apply IsS138.drewN | apply IsS138.drew | apply IsS138.set_1 | apply IsS138.set_2) | exact HI0.out)) (rK HO232) (by decide)) hk (fun _ h => h.2)) (fun _ h => h.1)); replace HO237 := Aside0.mk (Kd.R_mono (Kd.R_keep (IsS138.apart (show IsS138 w0 _ g s0_0 t241 t242 from by repeat (first | (with_reducible first | exact HI0.out | apply IsS138.alloc | apply IsS138.drewN | apply IsS138.drew | apply IsS138.set_1 | apply IsS138.set_2) | exact HI0.out)) (rK HO237) (by decide)) hk (fun _ h => h.2)) (fun _ h => h.1)); replace HK := Aside0.mk (KeepBut.trans (by repeat (first | (with_reducible first | exact HK.out | apply KeepBut.set_ | apply keep_drewN | apply keep_drew | apply keep_alloc) | exact HK.out)) hk (.inl rfl)); replace HB := Aside0.mk (hb); replace HI0 := Aside0.mk (hi); (try clear hb); (try clear hk); (try clear hi)) | ((with_reducible refine gate_callee (f := 84) rfl ?_); refine gL (some 28) Try.func84 #[.pointer (some ⟨g, 0, none⟩), .int .i64 22] ?_; (with_reducible refine (spec_l1Below.calls g s0_0 t244 t245 22 t246 t247 t248 w0 _ ?side1 ?side2 A12.out).mono ?_); (case side1 => repeat (first | (with_reducible first | exact HI0.out | apply IsS138.alloc | apply IsS138.drewN | apply IsS138.drew | apply IsS138.set_1 | apply IsS138.set_2) | exact HI0.out)); (case side2 => repeat (first | (with_reducible first | exact HB.out | apply below_alloc | apply pw_below_drewN | apply below_drew1 | refine below_set ?_ (IsS138.ge HI0.out)) | exact HB.out)); rintro e w22 ⟨rfl, hi, hb, hk⟩; refine ⟨_, rfl, ?_⟩; replace HO232 := Aside0.mk (Kd.R_mono (Kd.R_keep (IsS138.apart (show IsS138 w0 _ g s0_0 t244 t245 from by repeat (first | (with_reducible first | exact HI0.out | apply IsS138.alloc | apply IsS138.drewN | apply IsS138.drew | apply IsS138.set_1 | apply IsS138.set_2) | exact HI0.out)) (rK HO232) (by decide)) hk (fun _ h => h.2)) (fun _ h => h.1)); replace HO237 := Aside0.mk (Kd.R_mono (Kd.R_keep (IsS138.apart (show IsS138 w0 _ g s0_0 t244 t245 from by repeat (first | (with_reducible first | exact HI0.out | apply IsS138.alloc | apply IsS138.drewN | apply IsS138.drew | apply IsS138.set_1 | apply IsS138.set_2) | exact HI0.out)) (rK HO237) (by decide)) hk (fun _ h => h.2)) (fun _ h => h.1)); replace HK := Aside0.mk (KeepBut.trans (by repeat (first | (with_reducible first | exact HK.out | apply KeepBut.set_ | apply keep_drewN | apply keep_drew | apply keep_alloc) | exact HK.out)) hk (.inl rfl)); replace HB := Aside0.mk (hb); replace HI0 := Aside0.mk (hi); (try clear hb); (try clear hk); (try clear hi); have p15 : 0 ≤ (t240 : Int) := dA; have q15 : (t240 : Int) < ((t235.length : Int) : Int) := dA; obtain ⟨go15, co15, eo15, gb15, gl15, cl15, HG15⟩ := Kd.R_form HO237.out (by omega); (first | cases eo15 | (injection eo15 with ea_ en_ ec_; (first | subst ea_ | (injection ea_ with ea_; subst ea_)); subst ec_; clear en_)); have GB15 := Aside0.mk gb15; have GG15 := Aside0.mk HG15; clear gb15 gl15 HG15; obtain ⟨ce15, hcl15, hM15, hcc15, hfr15⟩ := Kd.R_elem HO237.out z120 (t240 : Int) p15 q15; obtain rfl := k120_openM hM15; have hx15_0 : w22.cell? ⟨go15, (t240 : Int).toNat * 4, none⟩ = some (.int .i64 ((rd_T120 t235 t240).f0)) := hcc15 0 _ rfl; have hx15_1 : w22.cell? ⟨go15, (t240 : Int).toNat * 4 + 1, none⟩ = some (.int .i64 ((rd_T120 t235 t240).f1)) := hcc15 1 _ rfl; have hx15_2 : w22.cell? ⟨go15, (t240 : Int).toNat * 4 + 2, none⟩ = some (.int .i64 ((rd_T120 t235 t240).f2)) := hcc15 2 _ rfl; have hx15_3 : w22.cell? ⟨go15, (t240 : Int).toNat * 4 + 3, none⟩ = some (.bool ((rd_T120 t235 t240).f3)) := hcc15 3 _ rfl; have hf15_0 : w22.frozen? ⟨go15, (t240 : Int).toNat * 4, none⟩ = false := hfr15 0; have hf15_1 : w22.frozen? ⟨go15, (t240 : Int).toNat * 4 + 1, none⟩ = false := hfr15 1; have hf15_2 : w22.frozen? ⟨go15, (t240 : Int).toNat * 4 + 2, none⟩ = false := hfr15 2; have hf15_3 : w22.frozen? ⟨go15, (t240 : Int).toNat * 4 + 3, none⟩ = false := hfr15 3; clear hcl15 hcc15 hfr15 hM15; replace p15 := eq_true p15; replace q15 := eq_true q15; have HX23 := Aside0.mk (show Kd.R k120 120 w22 w.heap.size (fun _ => True) (.slice (some ⟨go15, 0, none⟩) t235.length co19) t235 from (rK HO237)); obtain ⟨ce23, hcl23, hM23, hcc23, hfr23⟩ := Kd.R_elem HX23.out z120 (t240 : Int) (dA) (by have h_ : (t240 : Int) < ((t235.length : Int) : Int) := dA; first | exact h_ | (have e_ := (Kd.R_reads' HO237.out).1; omega) | simpa using h_); obtain rfl := k120_openM hM23; have HP23 := Kd.R_seg HX23.out (t240 : Int) (dA) (by have h_ : (t240 : Int) < ((t235.length : Int) : Int) := dA; first | exact h_ | (have e_ := (Kd.R_reads' HO237.out).1; omega) | simpa using h_) (seg := [.int .i64 t246]) (j := 0) hcl23 hcc23 (show 1 ≤ 4 from by decide) (x' := (⟨t246, (rd_T120 t235 t240).f1, (rd_T120 t235 t240).f2, (rd_T120 t235 t240).f3⟩ : S120)) (k120_mkM _ _ _ (⟨t246, (rd_T120 t235 t240).f1, (rd_T120 t235 t240).f2, (rd_T120 t235 t240).f3⟩ : S120) ) (fun _ hk => hk); have hx23_0 := hcc23 0 _ rfl; (try simp only [show (k120).sz = 4 from rfl, Nat.mul_one, Nat.add_zero] at hx23_0); have hf23_0 := hfr23 0; (try simp only [show (k120).sz = 4 from rfl, Nat.mul_one, Nat.add_zero] at hf23_0); clear hcl23 hcc23 hfr23 hM23) | ((with_reducible refine gate_store (t := 3) (p := 30) rfl ?_); refine store_event (t := 3) (p := 30) (v := ?vo_w24) (w1 := (w22.setCell ⟨go15, (t240 : Int).toNat * 4, none⟩ (.int .i64 t246))) ?hg ?ho ?hn ?hr ?_; (case ho => rfl); (case hg => rfl); (case hn => rfl); (case hr => first | (go_simp; done) | (go_simp; rfl)); intro w24 hw; have hg : w22.grownBy w24 (some go15) := (by rw [hw]; exact HP23.2); have hp_ : Kd.R k120 120 w24 w.heap.size (fun _ => True) (.slice (some ⟨go15, 0, none⟩) t235.length co19) y249 := (by rw [hw, Ny249.out]; exact HP23.1); clear HP23; have n0_ := Aside0.mk (IsS138.grown (by repeat (first | (with_reducible first | exact HI0.out | apply IsS138.alloc | apply IsS138.drewN | apply IsS138.drew | apply IsS138.set_1 | apply IsS138.set_2) | exact HI0.out)) hg (IsS138.own_ne HI0.out HO237.out (by decide))); have n1_ := Aside0.mk (Kd.R_over' (v := (.slice (some ⟨go15, 0, none⟩) t235.length co19)) (rK HO232) (Kd.R_typed HO237.out) (by decide) hg); have n2_ := Aside0.mk (hp_); have n3_ := Aside0.mk ((by rw [hw]; exact below_set (HB.out) (Nat.le_trans HL.out GB15.out) : Below w0.heap.size w0 w24)); have n4_ := Aside0.mk (KeepBut.trans (by repeat (first | (with_reducible first | exact HK.out | apply KeepBut.set_ | apply keep_drewN | apply keep_drew | apply keep_alloc) | exact HK.out)) (KeepBut.of_grown hg g) (Kd.R_base2 HO237.out)); clear HI0; clear HO232; clear HO237; clear HB; clear HK; have HI0 := n0_; have HO232 := n1_; have HO237 := n2_; have HB := n3_; have HK := n4_; clear n0_ n1_ n2_ n3_ n4_; clear hg hw hp_))
   go_ret2
   exact ⟨_, _, by first | rfl | (simp [errW_none, errW_some] <;> rfl) | (simp [*, errW_none, errW_some] <;> rfl), by (with_reducible repeat (first | apply Kd.R_alloc | apply Kd.R_drewN | apply Kd.R_drew)); exact HO232.out, by (with_reducible repeat (first | apply Kd.R_alloc | apply Kd.R_drewN | apply Kd.R_drew)); exact HO237.out, by repeat (first | (with_reducible first | exact HI0.out | apply IsS138.alloc | apply IsS138.drewN | apply IsS138.drew | apply IsS138.set_1 | apply IsS138.set_2) | exact HI0.out), by repeat (first | (with_reducible first | exact HB.out | apply below_alloc | apply pw_below_drewN | apply below_drew1 | refine below_set ?_ (IsS138.ge HI0.out)) | exact HB.out), by repeat (first | (with_reducible first | exact HK.out | apply KeepBut.set_ | apply keep_drewN | apply keep_drew | apply keep_alloc) | exact HK.out)⟩
  ·
   rw [if_neg c11] at H
   have c11b0 : (t243 == 0) = false := beq_eq_false_iff_ne.mpr c11
   have c11b1 : (t243 != 0) = true := bne_iff_ne.mpr c11
   by_cases c25 : t243 = 1
   ·
    rw [if_pos c25] at H
    have c25b0 : (t243 == 1) = true := beq_iff_eq.mpr c25
    have c25b1 : (t243 != 1) = false := bne_eq_false_iff_eq.mpr c25
    clear c25
    obtain ⟨y250, hy250⟩ : ∃ y_ : List Int, y_ = (([(-1), 1000, 1001] : List Int)) := ⟨_, rfl⟩
    replace H : ((spec_l1Int.f s0_0 t244 t245 y250).bind fun bt253 => (if 0 ≤ t240 then (if t240 < (t235.length : Int) then (some (t230, (t235.set (t240 : Int).toNat (⟨(rd_T120 t235 t240).f0, bt253.1, (rd_T120 t235 t240).f2, (rd_T120 t235 t240).f3⟩ : S120)), bt253.2.1, bt253.2.2)) else (none)) else (none))) = some (r1, r2, r3, r4) := by first | (rw [hy250]; with_reducible exact H) | (have H2_ := (Option.bind_some _ _).symm.trans H; rw [hy250]; with_reducible exact H2_) | (have H2_ := (Option.bind_some _ _).symm.trans H; with_reducible exact H2_) | with_reducible exact H | (rw [hy250]; exact H) | exact H
    have Ny250 := Aside0.mk hy250
    clear hy250
    obtain ⟨⟨t253, t254, t255⟩, A26, H⟩ := bindE H
    try dsimp only at H
    have c27 : 0 ≤ t240 := ifN H
    replace H := ifT H
    have c27b0 := decide_eq_true c27
    clear c27
    have c28 : t240 < (t235.length : Int) := ifN H
    replace H := ifT H
    have c28b0 := decide_eq_true c28
    clear c28
    obtain ⟨y256, hy256⟩ : ∃ y_ : List (S120), y_ = (t235.set (t240 : Int).toNat (⟨(rd_T120 t235 t240).f0, t253, (rd_T120 t235 t240).f2, (rd_T120 t235 t240).f3⟩ : S120)) := ⟨_, rfl⟩
    replace H : (some (t230, y256, t254, t255)) = some (r1, r2, r3, r4) := by first | (rw [hy256]; with_reducible exact H) | (have H2_ := (Option.bind_some _ _).symm.trans H; rw [hy256]; with_reducible exact H2_) | (have H2_ := (Option.bind_some _ _).symm.trans H; with_reducible exact H2_) | with_reducible exact H | (rw [hy256]; exact H) | exact H
    have Ny256 := Aside0.mk hy256
    clear hy256
    simp only [Option.some.injEq, Prod.mk.injEq] at H
    obtain ⟨rfl, rfl, rfl, rfl⟩ := H
    go_enter Try.func87, Try.ntmps87
    go_wp2_with (first | ((with_reducible refine gate_callee (f := 125) rfl ?_); refine gL (some 8) Try.func125 #[.pointer (some ⟨g, 0, none⟩)] ?_; (with_reducible refine (spec_l5Any.calls k g s0_0 s0_1 s0_2 t230 t233 t234 w0 _ ?side1 ?side2 A2.out).mono ?_); (case side1 => repeat (first | (with_reducible first | exact HI0.out | apply IsS138.alloc | apply IsS138.drewN | apply IsS138.drew | apply IsS138.set_1 | apply IsS138.set_2) | exact HI0.out)); (case side2 => repeat (first | (with_reducible first | exact HB.out | apply below_alloc | apply pw_below_drewN | apply below_drew1 | refine below_set ?_ (IsS138.ge HI0.out)) | exact HB.out)); rintro e w30 ⟨v231, rfl, ho0, hi, hb, hk⟩; refine ⟨_, rfl, ?_⟩; have n0_ := Aside0.mk (Kd.R_lower ho0 (keep_size (w := w) (g := g) (row := none) (by repeat (first | (with_reducible first | exact HK.out | apply KeepBut.set_ | apply keep_drewN | apply keep_drew | apply keep_alloc) | exact HK.out)))); have n1_ := Aside0.mk (KeepBut.trans (by repeat (first | (with_reducible first | exact HK.out | apply KeepBut.set_ | apply keep_drewN | apply keep_drew | apply keep_alloc) | exact HK.out)) hk (.inl rfl)); have n2_ := Aside0.mk (hb); have n3_ := Aside0.mk (hi); clear HK; clear HB; clear HI0; have HO232 := n0_; have HK := n1_; have HB := n2_; have HI0 := n3_; clear n0_ n1_ n2_ n3_; (try clear hb); (try clear hk); (try clear hi); (try clear ho0); obtain ⟨Ao31, co31, eo31⟩ := Kd.R_slice HO232.out; subst eo31) | ((with_reducible refine gate_callee (f := 104) rfl ?_); refine gL (some 11) Try.func104 #[.pointer (some ⟨g, 0, none⟩), .slice Ao31 t230.length co31] ?_; (with_reducible refine (spec_l10Draw.calls k g s0_0 t233 t234 _ _ t230 t235 t238 t239 w0 _ ?side1 ?side2 ?side3 ?side4 A3.out).mono ?_); (case side1 => repeat (first | (with_reducible first | exact HI0.out | apply IsS138.alloc | apply IsS138.drewN | apply IsS138.drew | apply IsS138.set_1 | apply IsS138.set_2) | exact HI0.out)); (case side2 => repeat (first | (with_reducible first | exact HB.out | apply below_alloc | apply pw_below_drewN | apply below_drew1 | refine below_set ?_ (IsS138.ge HI0.out)) | exact HB.out)); (case side3 => exact Kd.C_foot_own (IsS138.apart (show IsS138 w0 _ g s0_0 t233 t234 from by repeat (first | (with_reducible first | exact HI0.out | apply IsS138.alloc | apply IsS138.drewN | apply IsS138.drew | apply IsS138.set_1 | apply IsS138.set_2) | exact HI0.out)) (rK HO232) (by decide)) (fun _ h_ => h_.2)); (case side4 => exact (Kd.R_reads' HO232.out).2.1); rintro e w32 ⟨v236, rfl, ho0, hi, hb, hk⟩; refine ⟨_, rfl, ?_⟩; replace HO232 := Aside0.mk (Kd.R_mono (Kd.R_keep (IsS138.apart (show IsS138 w0 _ g s0_0 t233 t234 from by repeat (first | (with_reducible first | exact HI0.out | apply IsS138.alloc | apply IsS138.drewN | apply IsS138.drew | apply IsS138.set_1 | apply IsS138.set_2) | exact HI0.out)) (rK HO232) (by decide)) hk (fun _ h => h.2)) (fun _ h => h.1)); have HO237 := Aside0.mk (Kd.R_lower ho0 (keep_size (w := w) (g := g) (row := none) (by repeat (first | (with_reducible first | exact HK.out | apply KeepBut.set_ | apply keep_drewN | apply keep_drew | apply keep_alloc) | exact HK.out)))); replace HK := Aside0.mk (KeepBut.trans (by repeat (first | (with_reducible first | exact HK.out | apply KeepBut.set_ | apply keep_drewN | apply keep_drew | apply keep_alloc) | exact HK.out)) hk (.inl rfl)); replace HB := Aside0.mk (hb); replace HI0 := Aside0.mk (hi); (try clear hb); (try clear hk); (try clear hi); (try clear ho0); obtain ⟨Ao33, co33, eo33⟩ := Kd.R_slice HO237.out; subst eo33) | ((with_reducible refine gate_callee (f := 84) rfl ?_); refine gL (some 20) Try.func84 #[.pointer (some ⟨g, 0, none⟩), .int .i64 (t235.length : Int)] ?_; (with_reducible refine (spec_l1Below.calls g s0_0 t238 t239 (t235.length : Int) t240 t241 t242 w0 _ ?side1 ?side2 A9.out).mono ?_); (case side1 => repeat (first | (with_reducible first | exact HI0.out | apply IsS138.alloc | apply IsS138.drewN | apply IsS138.drew | apply IsS138.set_1 | apply IsS138.set_2) | exact HI0.out)); (case side2 => repeat (first | (with_reducible first | exact HB.out | apply below_alloc | apply pw_below_drewN | apply below_drew1 | refine below_set ?_ (IsS138.ge HI0.out)) | exact HB.out)); rintro e w34 ⟨rfl, hi, hb, hk⟩; refine ⟨_, rfl, ?_⟩; replace HO232 := Aside0.mk (Kd.R_mono (Kd.R_keep (IsS138.apart (show IsS138 w0 _ g s0_0 t238 t239 from by repeat (first | (with_reducible first | exact HI0.out | apply IsS138.alloc | apply IsS138.drewN | apply IsS138.drew | apply IsS138.set_1 | apply IsS138.set_2) | exact HI0.out)) (rK HO232) (by decide)) hk (fun _ h => h.2)) (fun _ h => h.1)); replace HO237 := Aside0.mk (Kd.R_mono (Kd.R_keep (IsS138.apart (show IsS138 w0 _ g s0_0 t238 t239 from by repeat (first | (with_reducible first | exact HI0.out | apply IsS138.alloc | apply IsS138.drewN | apply IsS138.drew | apply IsS138.set_1 | apply IsS138.set_2) | exact HI0.out)) (rK HO237) (by decide)) hk (fun _ h => h.2)) (fun _ h => h.1)); replace HK := Aside0.mk (KeepBut.trans (by repeat (first | (with_reducible first | exact HK.out | apply KeepBut.set_ | apply keep_drewN | apply keep_drew | apply keep_alloc) | exact HK.out)) hk (.inl rfl)); replace HB := Aside0.mk (hb); replace HI0 := Aside0.mk (hi); (try clear hb); (try clear hk); (try clear hi)) | ((with_reducible refine gate_callee (f := 84) rfl ?_); refine gL (some 22) Try.func84 #[.pointer (some ⟨g, 0, none⟩), .int .i64 9] ?_; (with_reducible refine (spec_l1Below.calls g s0_0 t241 t242 9 t243 t244 t245 w0 _ ?side1 ?side2 A10.out).mono ?_); (case side1 => repeat (first | (with_reducible first | exact HI0.out | apply IsS138.alloc | apply IsS138.drewN | apply IsS138.drew | apply IsS138.set_1 | apply IsS138.set_2) | exact HI0.out)); (case side2 => repeat (first | (with_reducible first | exact HB.out | apply below_alloc | apply pw_below_drewN | apply below_drew1 | refine below_set ?_ (IsS138.ge HI0.out)) | exact HB.out)); rintro e w35 ⟨rfl, hi, hb, hk⟩; refine ⟨_, rfl, ?_⟩; replace HO232 := Aside0.mk (Kd.R_mono (Kd.R_keep (IsS138.apart (show IsS138 w0 _ g s0_0 t241 t242 from by repeat (first | (with_reducible first | exact HI0.out | apply IsS138.alloc | apply IsS138.drewN | apply IsS138.drew | apply IsS138.set_1 | apply IsS138.set_2) | exact HI0.out)) (rK HO232) (by decide)) hk (fun _ h => h.2)) (fun _ h => h.1)); replace HO237 := Aside0.mk (Kd.R_mono (Kd.R_keep (IsS138.apart (show IsS138 w0 _ g s0_0 t241 t242 from by repeat (first | (with_reducible first | exact HI0.out | apply IsS138.alloc | apply IsS138.drewN | apply IsS138.drew | apply IsS138.set_1 | apply IsS138.set_2) | exact HI0.out)) (rK HO237) (by decide)) hk (fun _ h => h.2)) (fun _ h => h.1)); replace HK := Aside0.mk (KeepBut.trans (by repeat (first | (with_reducible first | exact HK.out | apply KeepBut.set_ | apply keep_drewN | apply keep_drew | apply keep_alloc) | exact HK.out)) hk (.inl rfl)); replace HB := Aside0.mk (hb); replace HI0 := Aside0.mk (hi); (try clear hb); (try clear hk); (try clear hi)) | ((with_reducible refine gate_dst (N := 36) rfl ?_); refine Kd.R_lit (Kd.int .i64) _ 3 ?hg (N := 36) ?hd (xs := ([(-1), 1000, 1001] : List Int)) (inner := [.int .i64 (-1), .int .i64 1000, .int .i64 1001]) (ok := fun _ => True) (okp := fun _ => True) ?hr ?hp (fun _ hk => hk) trivial (Below.refl _ _) (Nat.le_refl _) (by simp) ?_; (case hd => rfl); (case hg => rfl); (case hr => first | (go_simp; done) | (go_simp; rfl)); (case hp => exact (Reps.one (show Kd.M (Kd.int .i64) _ _ _ (-1) [.int .i64 (-1)] from rfl) (Reps.one (show Kd.M (Kd.int .i64) _ _ _ 1000 [.int .i64 1000] from rfl) (Reps.one (show Kd.M (Kd.int .i64) _ _ _ 1001 [.int .i64 1001] from rfl) (Reps.none _ _))))); intro v251 w36 ho37 hb hg_ hnew_; clear hg_ hnew_; (first | rw [← Ny250.out] at ho37 | (simp only [Int.reduceToNat] at ho37; rw [← Ny250.out] at ho37)); replace HO232 := Aside0.mk (Kd.R_below (rK HO232) hb); replace HO237 := Aside0.mk (Kd.R_below (rK HO237) hb); have HO252 := Aside0.mk (Kd.R_lower ho37 (keep_size (w := w) (g := g) (row := none) (by repeat (first | (with_reducible first | exact HK.out | apply KeepBut.set_ | apply keep_drewN | apply keep_drew | apply keep_alloc) | exact HK.out)))); replace HK := Aside0.mk (KeepBut.trans (by repeat (first | (with_reducible first | exact HK.out | apply KeepBut.set_ | apply keep_drewN | apply keep_drew | apply keep_alloc) | exact HK.out)) (KeepBut.of_below hb g none) (.inl rfl)); replace HB := Aside0.mk (below_step (by repeat (first | (with_reducible first | exact HB.out | apply below_alloc | apply pw_below_drewN | apply below_drew1 | refine below_set ?_ (IsS138.ge HI0.out)) | exact HB.out)) hb); replace HI0 := Aside0.mk (IsS138.below (by repeat (first | (with_reducible first | exact HI0.out | apply IsS138.alloc | apply IsS138.drewN | apply IsS138.drew | apply IsS138.set_1 | apply IsS138.set_2) | exact HI0.out)) hb); clear hb ho37; obtain ⟨Ao38, co38, eo38⟩ := Kd.R_slice HO252.out; subst eo38) | ((with_reducible refine gate_callee (f := 94) rfl ?_); refine gL (some 37) Try.func94 #[.pointer (some ⟨g, 0, none⟩), .slice Ao38 y250.length co38] ?_; (with_reducible refine (spec_l1Int.calls g s0_0 t244 t245 _ _ y250 t253 t254 t255 w0 _ ?side1 ?side2 ?side3 ?side4 ?side5 A26.out).mono ?_); (case side1 => repeat (first | (with_reducible first | exact HI0.out | apply IsS138.alloc | apply IsS138.drewN | apply IsS138.drew | apply IsS138.set_1 | apply IsS138.set_2) | exact HI0.out)); (case side2 => repeat (first | (with_reducible first | exact HB.out | apply below_alloc | apply pw_below_drewN | apply below_drew1 | refine below_set ?_ (IsS138.ge HI0.out)) | exact HB.out)); (case side3 => exact cO ⟨(Kd.R_reads' HO252.out).2.2⟩); (case side4 => exact (Kd.R_reads' HO252.out).2.1); (case side5 => exact far_slice (IsS138.own_ne HI0.out HO252.out (by decide))); rintro e w39 ⟨rfl, hi, hb, hk⟩; refine ⟨_, rfl, ?_⟩; replace HO232 := Aside0.mk (Kd.R_mono (Kd.R_keep (IsS138.apart (show IsS138 w0 _ g s0_0 t244 t245 from by repeat (first | (with_reducible first | exact HI0.out | apply IsS138.alloc | apply IsS138.drewN | apply IsS138.drew | apply IsS138.set_1 | apply IsS138.set_2) | exact HI0.out)) (rK HO232) (by decide)) hk (fun _ h => h.2)) (fun _ h => h.1)); replace HO237 := Aside0.mk (Kd.R_mono (Kd.R_keep (IsS138.apart (show IsS138 w0 _ g s0_0 t244 t245 from by repeat (first | (with_reducible first | exact HI0.out | apply IsS138.alloc | apply IsS138.drewN | apply IsS138.drew | apply IsS138.set_1 | apply IsS138.set_2) | exact HI0.out)) (rK HO237) (by decide)) hk (fun _ h => h.2)) (fun _ h => h.1)); replace HO252 := Aside0.mk (Kd.R_mono (Kd.R_keep (IsS138.apart (show IsS138 w0 _ g s0_0 t244 t245 from by repeat (first | (with_reducible first | exact HI0.out | apply IsS138.alloc | apply IsS138.drewN | apply IsS138.drew | apply IsS138.set_1 | apply IsS138.set_2) | exact HI0.out)) (rK HO252) (by decide)) hk (fun _ h => h.2)) (fun _ h => h.1)); replace HK := Aside0.mk (KeepBut.trans (by repeat (first | (with_reducible first | exact HK.out | apply KeepBut.set_ | apply keep_drewN | apply keep_drew | apply keep_alloc) | exact HK.out)) hk (.inl rfl)); replace HB := Aside0.mk (hb); replace HI0 := Aside0.mk (hi); (try clear hb); (try clear hk); (try clear hi); have p29 : 0 ≤ (t240 : Int) := dA; have q29 : (t240 : Int) < ((t235.length : Int) : Int) := dA; obtain ⟨go29, co29, eo29, gb29, gl29, cl29, HG29⟩ := Kd.R_form HO237.out (by omega); (first | cases eo29 | (injection eo29 with ea_ en_ ec_; (first | subst ea_ | (injection ea_ with ea_; subst ea_)); subst ec_; clear en_)); have GB29 := Aside0.mk gb29; have GG29 := Aside0.mk HG29; clear gb29 gl29 HG29; obtain ⟨ce29, hcl29, hM29, hcc29, hfr29⟩ := Kd.R_elem HO237.out z120 (t240 : Int) p29 q29; obtain rfl := k120_openM hM29; have hx29_0 : w39.cell? ⟨go29, (t240 : Int).toNat * 4, none⟩ = some (.int .i64 ((rd_T120 t235 t240).f0)) := hcc29 0 _ rfl; have hx29_1 : w39.cell? ⟨go29, (t240 : Int).toNat * 4 + 1, none⟩ = some (.int .i64 ((rd_T120 t235 t240).f1)) := hcc29 1 _ rfl; have hx29_2 : w39.cell? ⟨go29, (t240 : Int).toNat * 4 + 2, none⟩ = some (.int .i64 ((rd_T120 t235 t240).f2)) := hcc29 2 _ rfl; have hx29_3 : w39.cell? ⟨go29, (t240 : Int).toNat * 4 + 3, none⟩ = some (.bool ((rd_T120 t235 t240).f3)) := hcc29 3 _ rfl; have hf29_0 : w39.frozen? ⟨go29, (t240 : Int).toNat * 4, none⟩ = false := hfr29 0; have hf29_1 : w39.frozen? ⟨go29, (t240 : Int).toNat * 4 + 1, none⟩ = false := hfr29 1; have hf29_2 : w39.frozen? ⟨go29, (t240 : Int).toNat * 4 + 2, none⟩ = false := hfr29 2; have hf29_3 : w39.frozen? ⟨go29, (t240 : Int).toNat * 4 + 3, none⟩ = false := hfr29 3; clear hcl29 hcc29 hfr29 hM29; replace p29 := eq_true p29; replace q29 := eq_true q29; have HX40 := Aside0.mk (show Kd.R k120 120 w39 w.heap.size (fun _ => True) (.slice (some ⟨go29, 0, none⟩) t235.length co33) t235 from (rK HO237)); obtain ⟨ce40, hcl40, hM40, hcc40, hfr40⟩ := Kd.R_elem HX40.out z120 (t240 : Int) (dA) (by have h_ : (t240 : Int) < ((t235.length : Int) : Int) := dA; first | exact h_ | (have e_ := (Kd.R_reads' HO237.out).1; omega) | simpa using h_); obtain rfl := k120_openM hM40; have HP40 := Kd.R_seg HX40.out (t240 : Int) (dA) (by have h_ : (t240 : Int) < ((t235.length : Int) : Int) := dA; first | exact h_ | (have e_ := (Kd.R_reads' HO237.out).1; omega) | simpa using h_) (seg := [.int .i64 t253]) (j := 1) hcl40 hcc40 (show 2 ≤ 4 from by decide) (x' := (⟨(rd_T120 t235 t240).f0, t253, (rd_T120 t235 t240).f2, (rd_T120 t235 t240).f3⟩ : S120)) (k120_mkM _ _ _ (⟨(rd_T120 t235 t240).f0, t253, (rd_T120 t235 t240).f2, (rd_T120 t235 t240).f3⟩ : S120) ) (fun _ hk => hk); have hx40_1 := hcc40 1 _ rfl; (try simp only [show (k120).sz = 4 from rfl, Nat.mul_one, Nat.add_zero] at hx40_1); have hf40_1 := hfr40 1; (try simp only [show (k120).sz = 4 from rfl, Nat.mul_one, Nat.add_zero] at hf40_1); clear hcl40 hcc40 hfr40 hM40) | ((with_reducible refine gate_store (t := 3) (p := 39) rfl ?_); refine store_event (t := 3) (p := 39) (v := ?vo_w41) (w1 := (w39.setCell ⟨go29, (t240 : Int).toNat * 4 + 1, none⟩ (.int .i64 t253))) ?hg ?ho ?hn ?hr ?_; (case ho => rfl); (case hg => rfl); (case hn => rfl); (case hr => first | (go_simp; done) | (go_simp; rfl)); intro w41 hw; have hg : w39.grownBy w41 (some go29) := (by rw [hw]; exact HP40.2); have hp_ : Kd.R k120 120 w41 w.heap.size (fun _ => True) (.slice (some ⟨go29, 0, none⟩) t235.length co33) y256 := (by rw [hw, Ny256.out]; exact HP40.1); clear HP40; have n0_ := Aside0.mk (IsS138.grown (by repeat (first | (with_reducible first | exact HI0.out | apply IsS138.alloc | apply IsS138.drewN | apply IsS138.drew | apply IsS138.set_1 | apply IsS138.set_2) | exact HI0.out)) hg (IsS138.own_ne HI0.out HO237.out (by decide))); have n1_ := Aside0.mk (Kd.R_over' (v := (.slice (some ⟨go29, 0, none⟩) t235.length co33)) (rK HO232) (Kd.R_typed HO237.out) (by decide) hg); have n2_ := Aside0.mk (hp_); have n3_ := Aside0.mk (Kd.R_over' (v := (.slice (some ⟨go29, 0, none⟩) t235.length co33)) (rK HO252) (Kd.R_typed HO237.out) (by decide) hg); have n4_ := Aside0.mk ((by rw [hw]; exact below_set (HB.out) (Nat.le_trans HL.out GB29.out) : Below w0.heap.size w0 w41)); have n5_ := Aside0.mk (KeepBut.trans (by repeat (first | (with_reducible first | exact HK.out | apply KeepBut.set_ | apply keep_drewN | apply keep_drew | apply keep_alloc) | exact HK.out)) (KeepBut.of_grown hg g) (Kd.R_base2 HO237.out)); clear HI0; clear HO232; clear HO237; clear HO252; clear HB; clear HK; have HI0 := n0_; have HO232 := n1_; have HO237 := n2_; have HO252 := n3_; have HB := n4_; have HK := n5_; clear n0_ n1_ n2_ n3_ n4_ n5_; clear hg hw hp_))
    go_ret2
    exact ⟨_, _, by first | rfl | (simp [errW_none, errW_some] <;> rfl) | (simp [*, errW_none, errW_some] <;> rfl), by (with_reducible repeat (first | apply Kd.R_alloc | apply Kd.R_drewN | apply Kd.R_drew)); exact HO232.out, by (with_reducible repeat (first | apply Kd.R_alloc | apply Kd.R_drewN | apply Kd.R_drew)); exact HO237.out, by repeat (first | (with_reducible first | exact HI0.out | apply IsS138.alloc | apply IsS138.drewN | apply IsS138.drew | apply IsS138.set_1 | apply IsS138.set_2) | exact HI0.out), by repeat (first | (with_reducible first | exact HB.out | apply below_alloc | apply pw_below_drewN | apply below_drew1 | refine below_set ?_ (IsS138.ge HI0.out)) | exact HB.out), by repeat (first | (with_reducible first | exact HK.out | apply KeepBut.set_ | apply keep_drewN | apply keep_drew | apply keep_alloc) | exact HK.out)⟩
   ·
    rw [if_neg c25] at H
    have c25b0 : (t243 == 1) = false := beq_eq_false_iff_ne.mpr c25
    have c25b1 : (t243 != 1) = true := bne_iff_ne.mpr c25
    by_cases c42 : t243 = 2
    ·
     rw [if_pos c42] at H
     have c42b0 : (t243 == 2) = true := beq_iff_eq.mpr c42
     have c42b1 : (t243 != 2) = false := bne_eq_false_iff_eq.mpr c42
     clear c42
     obtain ⟨⟨t257, t258, t259⟩, A43, H⟩ := bindE H
     try dsimp only at H
     have c44 : 0 ≤ t240 := ifN H
     replace H := ifT H
     have c44b0 := decide_eq_true c44
     clear c44
     have c45 : t240 < (t235.length : Int) := ifN H
     replace H := ifT H
     have c45b0 := decide_eq_true c45
     clear c45
     obtain ⟨y260, hy260⟩ : ∃ y_ : List (S120), y_ = (t235.set (t240 : Int).toNat (⟨(rd_T120 t235 t240).f0, (rd_T120 t235 t240).f1, t257, (rd_T120 t235 t240).f3⟩ : S120)) := ⟨_, rfl⟩
     replace H : (some (t230, y260, t258, t259)) = some (r1, r2, r3, r4) := by first | (rw [hy260]; with_reducible exact H) | (have H2_ := (Option.bind_some _ _).symm.trans H; rw [hy260]; with_reducible exact H2_) | (have H2_ := (Option.bind_some _ _).symm.trans H; with_reducible exact H2_) | with_reducible exact H | (rw [hy260]; exact H) | exact H
     have Ny260 := Aside0.mk hy260
     clear hy260
     simp only [Option.some.injEq, Prod.mk.injEq] at H
     obtain ⟨rfl, rfl, rfl, rfl⟩ := H
     go_enter Try.func87, Try.ntmps87
     go_wp2_with (first | ((with_reducible refine gate_callee (f := 125) rfl ?_); refine gL (some 8) Try.func125 #[.pointer (some ⟨g, 0, none⟩)] ?_; (with_reducible refine (spec_l5Any.calls k g s0_0 s0_1 s0_2 t230 t233 t234 w0 _ ?side1 ?side2 A2.out).mono ?_); (case side1 => repeat (first | (with_reducible first | exact HI0.out | apply IsS138.alloc | apply IsS138.drewN | apply IsS138.drew | apply IsS138.set_1 | apply IsS138.set_2) | exact HI0.out)); (case side2 => repeat (first | (with_reducible first | exact HB.out | apply below_alloc | apply pw_below_drewN | apply below_drew1 | refine below_set ?_ (IsS138.ge HI0.out)) | exact HB.out)); rintro e w47 ⟨v231, rfl, ho0, hi, hb, hk⟩; refine ⟨_, rfl, ?_⟩; have n0_ := Aside0.mk (Kd.R_lower ho0 (keep_size (w := w) (g := g) (row := none) (by repeat (first | (with_reducible first | exact HK.out | apply KeepBut.set_ | apply keep_drewN | apply keep_drew | apply keep_alloc) | exact HK.out)))); have n1_ := Aside0.mk (KeepBut.trans (by repeat (first | (with_reducible first | exact HK.out | apply KeepBut.set_ | apply keep_drewN | apply keep_drew | apply keep_alloc) | exact HK.out)) hk (.inl rfl)); have n2_ := Aside0.mk (hb); have n3_ := Aside0.mk (hi); clear HK; clear HB; clear HI0; have HO232 := n0_; have HK := n1_; have HB := n2_; have HI0 := n3_; clear n0_ n1_ n2_ n3_; (try clear hb); (try clear hk); (try clear hi); (try clear ho0); obtain ⟨Ao48, co48, eo48⟩ := Kd.R_slice HO232.out; subst eo48) | ((with_reducible refine gate_callee (f := 104) rfl ?_); refine gL (some 11) Try.func104 #[.pointer (some ⟨g, 0, none⟩), .slice Ao48 t230.length co48] ?_; (with_reducible refine (spec_l10Draw.calls k g s0_0 t233 t234 _ _ t230 t235 t238 t239 w0 _ ?side1 ?side2 ?side3 ?side4 A3.out).mono ?_); (case side1 => repeat (first | (with_reducible first | exact HI0.out | apply IsS138.alloc | apply IsS138.drewN | apply IsS138.drew | apply IsS138.set_1 | apply IsS138.set_2) | exact HI0.out)); (case side2 => repeat (first | (with_reducible first | exact HB.out | apply below_alloc | apply pw_below_drewN | apply below_drew1 | refine below_set ?_ (IsS138.ge HI0.out)) | exact HB.out)); (case side3 => exact Kd.C_foot_own (IsS138.apart (show IsS138 w0 _ g s0_0 t233 t234 from by repeat (first | (with_reducible first | exact HI0.out | apply IsS138.alloc | apply IsS138.drewN | apply IsS138.drew | apply IsS138.set_1 | apply IsS138.set_2) | exact HI0.out)) (rK HO232) (by decide)) (fun _ h_ => h_.2)); (case side4 => exact (Kd.R_reads' HO232.out).2.1); rintro e w49 ⟨v236, rfl, ho0, hi, hb, hk⟩; refine ⟨_, rfl, ?_⟩; replace HO232 := Aside0.mk (Kd.R_mono (Kd.R_keep (IsS138.apart (show IsS138 w0 _ g s0_0 t233 t234 from by repeat (first | (with_reducible first | exact HI0.out | apply IsS138.alloc | apply IsS138.drewN | apply IsS138.drew | apply IsS138.set_1 | apply IsS138.set_2) | exact HI0.out)) (rK HO232) (by decide)) hk (fun _ h => h.2)) (fun _ h => h.1)); have HO237 := Aside0.mk (Kd.R_lower ho0 (keep_size (w := w) (g := g) (row := none) (by repeat (first | (with_reducible first | exact HK.out | apply KeepBut.set_ | apply keep_drewN | apply keep_drew | apply keep_alloc) | exact HK.out)))); replace HK := Aside0.mk (KeepBut.trans (by repeat (first | (with_reducible first | exact HK.out | apply KeepBut.set_ | apply keep_drewN | apply keep_drew | apply keep_alloc) | exact HK.out)) hk (.inl rfl)); replace HB := Aside0.mk (hb); replace HI0 := Aside0.mk (hi); (try clear hb); (try clear hk); (try clear hi); (try clear ho0); obtain ⟨Ao50, co50, eo50⟩ := Kd.R_slice HO237.out; subst eo50) | ((with_reducible refine gate_callee (f := 84) rfl ?_); refine gL (some 20) Try.func84 #[.pointer (some ⟨g, 0, none⟩), .int .i64 (t235.length : Int)] ?_; (with_reducible refine (spec_l1Below.calls g s0_0 t238 t239 (t235.length : Int) t240 t241 t242 w0 _ ?side1 ?side2 A9.out).mono ?_); (case side1 => repeat (first | (with_reducible first | exact HI0.out | apply IsS138.alloc | apply IsS138.drewN | apply IsS138.drew | apply IsS138.set_1 | apply IsS138.set_2) | exact HI0.out)); (case side2 => repeat (first | (with_reducible first | exact HB.out | apply below_alloc | apply pw_below_drewN | apply below_drew1 | refine below_set ?_ (IsS138.ge HI0.out)) | exact HB.out)); rintro e w51 ⟨rfl, hi, hb, hk⟩; refine ⟨_, rfl, ?_⟩; replace HO232 := Aside0.mk (Kd.R_mono (Kd.R_keep (IsS138.apart (show IsS138 w0 _ g s0_0 t238 t239 from by repeat (first | (with_reducible first | exact HI0.out | apply IsS138.alloc | apply IsS138.drewN | apply IsS138.drew | apply IsS138.set_1 | apply IsS138.set_2) | exact HI0.out)) (rK HO232) (by decide)) hk (fun _ h => h.2)) (fun _ h => h.1)); replace HO237 := Aside0.mk (Kd.R_mono (Kd.R_keep (IsS138.apart (show IsS138 w0 _ g s0_0 t238 t239 from by repeat (first | (with_reducible first | exact HI0.out | apply IsS138.alloc | apply IsS138.drewN | apply IsS138.drew | apply IsS138.set_1 | apply IsS138.set_2) | exact HI0.out)) (rK HO237) (by decide)) hk (fun _ h => h.2)) (fun _ h => h.1)); replace HK := Aside0.mk (KeepBut.trans (by repeat (first | (with_reducible first | exact HK.out | apply KeepBut.set_ | apply keep_drewN | apply keep_drew | apply keep_alloc) | exact HK.out)) hk (.inl rfl)); replace HB := Aside0.mk (hb); replace HI0 := Aside0.mk (hi); (try clear hb); (try clear hk); (try clear hi)) | ((with_reducible refine gate_callee (f := 84) rfl ?_); refine gL (some 22) Try.func84 #[.pointer (some ⟨g, 0, none⟩), .int .i64 9] ?_; (with_reducible refine (spec_l1Below.calls g s0_0 t241 t242 9 t243 t244 t245 w0 _ ?side1 ?side2 A10.out).mono ?_); (case side1 => repeat (first | (with_reducible first | exact HI0.out | apply IsS138.alloc | apply IsS138.drewN | apply IsS138.drew | apply IsS138.set_1 | apply IsS138.set_2) | exact HI0.out)); (case side2 => repeat (first | (with_reducible first | exact HB.out | apply below_alloc | apply pw_below_drewN | apply below_drew1 | refine below_set ?_ (IsS138.ge HI0.out)) | exact HB.out)); rintro e w52 ⟨rfl, hi, hb, hk⟩; refine ⟨_, rfl, ?_⟩; replace HO232 := Aside0.mk (Kd.R_mono (Kd.R_keep (IsS138.apart (show IsS138 w0 _ g s0_0 t241 t242 from by repeat (first | (with_reducible first | exact HI0.out | apply IsS138.alloc | apply IsS138.drewN | apply IsS138.drew | apply IsS138.set_1 | apply IsS138.set_2) | exact HI0.out)) (rK HO232) (by decide)) hk (fun _ h => h.2)) (fun _ h => h.1)); replace HO237 := Aside0.mk (Kd.R_mono (Kd.R_keep (IsS138.apart (show IsS138 w0 _ g s0_0 t241 t242 from by repeat (first | (with_reducible first | exact HI0.out | apply IsS138.alloc | apply IsS138.drewN | apply IsS138.drew | apply IsS138.set_1 | apply IsS138.set_2) | exact HI0.out)) (rK HO237) (by decide)) hk (fun _ h => h.2)) (fun _ h => h.1)); replace HK := Aside0.mk (KeepBut.trans (by repeat (first | (with_reducible first | exact HK.out | apply KeepBut.set_ | apply keep_drewN | apply keep_drew | apply keep_alloc) | exact HK.out)) hk (.inl rfl)); replace HB := Aside0.mk (hb); replace HI0 := Aside0.mk (hi); (try clear hb); (try clear hk); (try clear hi)) | ((with_reducible refine gate_callee (f := 129) rfl ?_); refine gL (some 45) Try.func129 #[.pointer (some ⟨g, 0, none⟩)] ?_; (with_reducible refine (spec_l4Raw.calls g s0_0 t244 t245 t257 t258 t259 w0 _ ?side1 ?side2 A43.out).mono ?_); (case side1 => repeat (first | (with_reducible first | exact HI0.out | apply IsS138.alloc | apply IsS138.drewN | apply IsS138.drew | apply IsS138.set_1 | apply IsS138.set_2) | exact HI0.out)); (case side2 => repeat (first | (with_reducible first | exact HB.out | apply below_alloc | apply pw_below_drewN | apply below_drew1 | refine below_set ?_ (IsS138.ge HI0.out)) | exact HB.out)); rintro e w53 ⟨rfl, hi, hb, hk⟩; refine ⟨_, rfl, ?_⟩; replace HO232 := Aside0.mk (Kd.R_mono (Kd.R_keep (IsS138.apart (show IsS138 w0 _ g s0_0 t244 t245 from by repeat (first | (with_reducible first | exact HI0.out | apply IsS138.alloc | apply IsS138.drewN | apply IsS138.drew | apply IsS138.set_1 | apply IsS138.set_2) | exact HI0.out)) (rK HO232) (by decide)) hk (fun _ h => h.2)) (fun _ h => h.1)); replace HO237 := Aside0.mk (Kd.R_mono (Kd.R_keep (IsS138.apart (show IsS138 w0 _ g s0_0 t244 t245 from by repeat (first | (with_reducible first | exact HI0.out | apply IsS138.alloc | apply IsS138.drewN | apply IsS138.drew | apply IsS138.set_1 | apply IsS138.set_2) | exact HI0.out)) (rK HO237) (by decide)) hk (fun _ h => h.2)) (fun _ h => h.1)); replace HK := Aside0.mk (KeepBut.trans (by repeat (first | (with_reducible first | exact HK.out | apply KeepBut.set_ | apply keep_drewN | apply keep_drew | apply keep_alloc) | exact HK.out)) hk (.inl rfl)); replace HB := Aside0.mk (hb); replace HI0 := Aside0.mk (hi); (try clear hb); (try clear hk); (try clear hi); have p46 : 0 ≤ (t240 : Int) := dA; have q46 : (t240 : Int) < ((t235.length : Int) : Int) := dA; obtain ⟨go46, co46, eo46, gb46, gl46, cl46, HG46⟩ := Kd.R_form HO237.out (by omega); (first | cases eo46 | (injection eo46 with ea_ en_ ec_; (first | subst ea_ | (injection ea_ with ea_; subst ea_)); subst ec_; clear en_)); have GB46 := Aside0.mk gb46; have GG46 := Aside0.mk HG46; clear gb46 gl46 HG46; obtain ⟨ce46, hcl46, hM46, hcc46, hfr46⟩ := Kd.R_elem HO237.out z120 (t240 : Int) p46 q46; obtain rfl := k120_openM hM46; have hx46_0 : w53.cell? ⟨go46, (t240 : Int).toNat * 4, none⟩ = some (.int .i64 ((rd_T120 t235 t240).f0)) := hcc46 0 _ rfl; have hx46_1 : w53.cell? ⟨go46, (t240 : Int).toNat * 4 + 1, none⟩ = some (.int .i64 ((rd_T120 t235 t240).f1)) := hcc46 1 _ rfl; have hx46_2 : w53.cell? ⟨go46, (t240 : Int).toNat * 4 + 2, none⟩ = some (.int .i64 ((rd_T120 t235 t240).f2)) := hcc46 2 _ rfl; have hx46_3 : w53.cell? ⟨go46, (t240 : Int).toNat * 4 + 3, none⟩ = some (.bool ((rd_T120 t235 t240).f3)) := hcc46 3 _ rfl; have hf46_0 : w53.frozen? ⟨go46, (t240 : Int).toNat * 4, none⟩ = false := hfr46 0; have hf46_1 : w53.frozen? ⟨go46, (t240 : Int).toNat * 4 + 1, none⟩ = false := hfr46 1; have hf46_2 : w53.frozen? ⟨go46, (t240 : Int).toNat * 4 + 2, none⟩ = false := hfr46 2; have hf46_3 : w53.frozen? ⟨go46, (t240 : Int).toNat * 4 + 3, none⟩ = false := hfr46 3; clear hcl46 hcc46 hfr46 hM46; replace p46 := eq_true p46; replace q46 := eq_true q46; have HX54 := Aside0.mk (show Kd.R k120 120 w53 w.heap.size (fun _ => True) (.slice (some ⟨go46, 0, none⟩) t235.length co50) t235 from (rK HO237)); obtain ⟨ce54, hcl54, hM54, hcc54, hfr54⟩ := Kd.R_elem HX54.out z120 (t240 : Int) (dA) (by have h_ : (t240 : Int) < ((t235.length : Int) : Int) := dA; first | exact h_ | (have e_ := (Kd.R_reads' HO237.out).1; omega) | simpa using h_); obtain rfl := k120_openM hM54; have HP54 := Kd.R_seg HX54.out (t240 : Int) (dA) (by have h_ : (t240 : Int) < ((t235.length : Int) : Int) := dA; first | exact h_ | (have e_ := (Kd.R_reads' HO237.out).1; omega) | simpa using h_) (seg := [.int .i64 t257]) (j := 2) hcl54 hcc54 (show 3 ≤ 4 from by decide) (x' := (⟨(rd_T120 t235 t240).f0, (rd_T120 t235 t240).f1, t257, (rd_T120 t235 t240).f3⟩ : S120)) (k120_mkM _ _ _ (⟨(rd_T120 t235 t240).f0, (rd_T120 t235 t240).f1, t257, (rd_T120 t235 t240).f3⟩ : S120) ) (fun _ hk => hk); have hx54_2 := hcc54 2 _ rfl; (try simp only [show (k120).sz = 4 from rfl, Nat.mul_one, Nat.add_zero] at hx54_2); have hf54_2 := hfr54 2; (try simp only [show (k120).sz = 4 from rfl, Nat.mul_one, Nat.add_zero] at hf54_2); clear hcl54 hcc54 hfr54 hM54) | ((with_reducible refine gate_store (t := 3) (p := 47) rfl ?_); refine store_event (t := 3) (p := 47) (v := ?vo_w55) (w1 := (w53.setCell ⟨go46, (t240 : Int).toNat * 4 + 2, none⟩ (.int .i64 t257))) ?hg ?ho ?hn ?hr ?_; (case ho => rfl); (case hg => rfl); (case hn => rfl); (case hr => first | (go_simp; done) | (go_simp; rfl)); intro w55 hw; have hg : w53.grownBy w55 (some go46) := (by rw [hw]; exact HP54.2); have hp_ : Kd.R k120 120 w55 w.heap.size (fun _ => True) (.slice (some ⟨go46, 0, none⟩) t235.length co50) y260 := (by rw [hw, Ny260.out]; exact HP54.1); clear HP54; have n0_ := Aside0.mk (IsS138.grown (by repeat (first | (with_reducible first | exact HI0.out | apply IsS138.alloc | apply IsS138.drewN | apply IsS138.drew | apply IsS138.set_1 | apply IsS138.set_2) | exact HI0.out)) hg (IsS138.own_ne HI0.out HO237.out (by decide))); have n1_ := Aside0.mk (Kd.R_over' (v := (.slice (some ⟨go46, 0, none⟩) t235.length co50)) (rK HO232) (Kd.R_typed HO237.out) (by decide) hg); have n2_ := Aside0.mk (hp_); have n3_ := Aside0.mk ((by rw [hw]; exact below_set (HB.out) (Nat.le_trans HL.out GB46.out) : Below w0.heap.size w0 w55)); have n4_ := Aside0.mk (KeepBut.trans (by repeat (first | (with_reducible first | exact HK.out | apply KeepBut.set_ | apply keep_drewN | apply keep_drew | apply keep_alloc) | exact HK.out)) (KeepBut.of_grown hg g) (Kd.R_base2 HO237.out)); clear HI0; clear HO232; clear HO237; clear HB; clear HK; have HI0 := n0_; have HO232 := n1_; have HO237 := n2_; have HB := n3_; have HK := n4_; clear n0_ n1_ n2_ n3_ n4_; clear hg hw hp_))
     go_ret2
     exact ⟨_, _, by first | rfl | (simp [errW_none, errW_some] <;> rfl) | (simp [*, errW_none, errW_some] <;> rfl), by (with_reducible repeat (first | apply Kd.R_alloc | apply Kd.R_drewN | apply Kd.R_drew)); exact HO232.out, by (with_reducible repeat (first | apply Kd.R_alloc | apply Kd.R_drewN | apply Kd.R_drew)); exact HO237.out, by repeat (first | (with_reducible first | exact HI0.out | apply IsS138.alloc | apply IsS138.drewN | apply IsS138.drew | apply IsS138.set_1 | apply IsS138.set_2) | exact HI0.out), by repeat (first | (with_reducible first | exact HB.out | apply below_alloc | apply pw_below_drewN | apply below_drew1 | refine below_set ?_ (IsS138.ge HI0.out)) | exact HB.out), by repeat (first | (with_reducible first | exact HK.out | apply KeepBut.set_ | apply keep_drewN | apply keep_drew | apply keep_alloc) | exact HK.out)⟩
    ·
     rw [if_neg c42] at H
     have c42b0 : (t243 == 2) = false := beq_eq_false_iff_ne.mpr c42
     have c42b1 : (t243 != 2) = true := bne_iff_ne.mpr c42
     simp only [Option.some.injEq, Prod.mk.injEq] at H
     obtain ⟨rfl, rfl, rfl, rfl⟩ := H
     go_enter Try.func87, Try.ntmps87
     go_wp2_with (first | ((with_reducible refine gate_callee (f := 125) rfl ?_); refine gL (some 8) Try.func125 #[.pointer (some ⟨g, 0, none⟩)] ?_; (with_reducible refine (spec_l5Any.calls k g s0_0 s0_1 s0_2 t230 t233 t234 w0 _ ?side1 ?side2 A2.out).mono ?_); (case side1 => repeat (first | (with_reducible first | exact HI0.out | apply IsS138.alloc | apply IsS138.drewN | apply IsS138.drew | apply IsS138.set_1 | apply IsS138.set_2) | exact HI0.out)); (case side2 => repeat (first | (with_reducible first | exact HB.out | apply below_alloc | apply pw_below_drewN | apply below_drew1 | refine below_set ?_ (IsS138.ge HI0.out)) | exact HB.out)); rintro e w56 ⟨v231, rfl, ho0, hi, hb, hk⟩; refine ⟨_, rfl, ?_⟩; have n0_ := Aside0.mk (Kd.R_lower ho0 (keep_size (w := w) (g := g) (row := none) (by repeat (first | (with_reducible first | exact HK.out | apply KeepBut.set_ | apply keep_drewN | apply keep_drew | apply keep_alloc) | exact HK.out)))); have n1_ := Aside0.mk (KeepBut.trans (by repeat (first | (with_reducible first | exact HK.out | apply KeepBut.set_ | apply keep_drewN | apply keep_drew | apply keep_alloc) | exact HK.out)) hk (.inl rfl)); have n2_ := Aside0.mk (hb); have n3_ := Aside0.mk (hi); clear HK; clear HB; clear HI0; have HO232 := n0_; have HK := n1_; have HB := n2_; have HI0 := n3_; clear n0_ n1_ n2_ n3_; (try clear hb); (try clear hk); (try clear hi); (try clear ho0); obtain ⟨Ao57, co57, eo57⟩ := Kd.R_slice HO232.out; subst eo57) | ((with_reducible refine gate_callee (f := 104) rfl ?_); refine gL (some 11) Try.func104 #[.pointer (some ⟨g, 0, none⟩), .slice Ao57 t230.length co57] ?_; (with_reducible refine (spec_l10Draw.calls k g s0_0 t233 t234 _ _ t230 t235 t238 t239 w0 _ ?side1 ?side2 ?side3 ?side4 A3.out).mono ?_); (case side1 => repeat (first | (with_reducible first | exact HI0.out | apply IsS138.alloc | apply IsS138.drewN | apply IsS138.drew | apply IsS138.set_1 | apply IsS138.set_2) | exact HI0.out)); (case side2 => repeat (first | (with_reducible first | exact HB.out | apply below_alloc | apply pw_below_drewN | apply below_drew1 | refine below_set ?_ (IsS138.ge HI0.out)) | exact HB.out)); (case side3 => exact Kd.C_foot_own (IsS138.apart (show IsS138 w0 _ g s0_0 t233 t234 from by repeat (first | (with_reducible first | exact HI0.out | apply IsS138.alloc | apply IsS138.drewN | apply IsS138.drew | apply IsS138.set_1 | apply IsS138.set_2) | exact HI0.out)) (rK HO232) (by decide)) (fun _ h_ => h_.2)); (case side4 => exact (Kd.R_reads' HO232.out).2.1); rintro e w58 ⟨v236, rfl, ho0, hi, hb, hk⟩; refine ⟨_, rfl, ?_⟩; replace HO232 := Aside0.mk (Kd.R_mono (Kd.R_keep (IsS138.apart (show IsS138 w0 _ g s0_0 t233 t234 from by repeat (first | (with_reducible first | exact HI0.out | apply IsS138.alloc | apply IsS138.drewN | apply IsS138.drew | apply IsS138.set_1 | apply IsS138.set_2) | exact HI0.out)) (rK HO232) (by decide)) hk (fun _ h => h.2)) (fun _ h => h.1)); have HO237 := Aside0.mk (Kd.R_lower ho0 (keep_size (w := w) (g := g) (row := none) (by repeat (first | (with_reducible first | exact HK.out | apply KeepBut.set_ | apply keep_drewN | apply keep_drew | apply keep_alloc) | exact HK.out)))); replace HK := Aside0.mk (KeepBut.trans (by repeat (first | (with_reducible first | exact HK.out | apply KeepBut.set_ | apply keep_drewN | apply keep_drew | apply keep_alloc) | exact HK.out)) hk (.inl rfl)); replace HB := Aside0.mk (hb); replace HI0 := Aside0.mk (hi); (try clear hb); (try clear hk); (try clear hi); (try clear ho0); obtain ⟨Ao59, co59, eo59⟩ := Kd.R_slice HO237.out; subst eo59) | ((with_reducible refine gate_callee (f := 84) rfl ?_); refine gL (some 20) Try.func84 #[.pointer (some ⟨g, 0, none⟩), .int .i64 (t235.length : Int)] ?_; (with_reducible refine (spec_l1Below.calls g s0_0 t238 t239 (t235.length : Int) t240 t241 t242 w0 _ ?side1 ?side2 A9.out).mono ?_); (case side1 => repeat (first | (with_reducible first | exact HI0.out | apply IsS138.alloc | apply IsS138.drewN | apply IsS138.drew | apply IsS138.set_1 | apply IsS138.set_2) | exact HI0.out)); (case side2 => repeat (first | (with_reducible first | exact HB.out | apply below_alloc | apply pw_below_drewN | apply below_drew1 | refine below_set ?_ (IsS138.ge HI0.out)) | exact HB.out)); rintro e w60 ⟨rfl, hi, hb, hk⟩; refine ⟨_, rfl, ?_⟩; replace HO232 := Aside0.mk (Kd.R_mono (Kd.R_keep (IsS138.apart (show IsS138 w0 _ g s0_0 t238 t239 from by repeat (first | (with_reducible first | exact HI0.out | apply IsS138.alloc | apply IsS138.drewN | apply IsS138.drew | apply IsS138.set_1 | apply IsS138.set_2) | exact HI0.out)) (rK HO232) (by decide)) hk (fun _ h => h.2)) (fun _ h => h.1)); replace HO237 := Aside0.mk (Kd.R_mono (Kd.R_keep (IsS138.apart (show IsS138 w0 _ g s0_0 t238 t239 from by repeat (first | (with_reducible first | exact HI0.out | apply IsS138.alloc | apply IsS138.drewN | apply IsS138.drew | apply IsS138.set_1 | apply IsS138.set_2) | exact HI0.out)) (rK HO237) (by decide)) hk (fun _ h => h.2)) (fun _ h => h.1)); replace HK := Aside0.mk (KeepBut.trans (by repeat (first | (with_reducible first | exact HK.out | apply KeepBut.set_ | apply keep_drewN | apply keep_drew | apply keep_alloc) | exact HK.out)) hk (.inl rfl)); replace HB := Aside0.mk (hb); replace HI0 := Aside0.mk (hi); (try clear hb); (try clear hk); (try clear hi)) | ((with_reducible refine gate_callee (f := 84) rfl ?_); refine gL (some 22) Try.func84 #[.pointer (some ⟨g, 0, none⟩), .int .i64 9] ?_; (with_reducible refine (spec_l1Below.calls g s0_0 t241 t242 9 t243 t244 t245 w0 _ ?side1 ?side2 A10.out).mono ?_); (case side1 => repeat (first | (with_reducible first | exact HI0.out | apply IsS138.alloc | apply IsS138.drewN | apply IsS138.drew | apply IsS138.set_1 | apply IsS138.set_2) | exact HI0.out)); (case side2 => repeat (first | (with_reducible first | exact HB.out | apply below_alloc | apply pw_below_drewN | apply below_drew1 | refine below_set ?_ (IsS138.ge HI0.out)) | exact HB.out)); rintro e w61 ⟨rfl, hi, hb, hk⟩; refine ⟨_, rfl, ?_⟩; replace HO232 := Aside0.mk (Kd.R_mono (Kd.R_keep (IsS138.apart (show IsS138 w0 _ g s0_0 t241 t242 from by repeat (first | (with_reducible first | exact HI0.out | apply IsS138.alloc | apply IsS138.drewN | apply IsS138.drew | apply IsS138.set_1 | apply IsS138.set_2) | exact HI0.out)) (rK HO232) (by decide)) hk (fun _ h => h.2)) (fun _ h => h.1)); replace HO237 := Aside0.mk (Kd.R_mono (Kd.R_keep (IsS138.apart (show IsS138 w0 _ g s0_0 t241 t242 from by repeat (first | (with_reducible first | exact HI0.out | apply IsS138.alloc | apply IsS138.drewN | apply IsS138.drew | apply IsS138.set_1 | apply IsS138.set_2) | exact HI0.out)) (rK HO237) (by decide)) hk (fun _ h => h.2)) (fun _ h => h.1)); replace HK := Aside0.mk (KeepBut.trans (by repeat (first | (with_reducible first | exact HK.out | apply KeepBut.set_ | apply keep_drewN | apply keep_drew | apply keep_alloc) | exact HK.out)) hk (.inl rfl)); replace HB := Aside0.mk (hb); replace HI0 := Aside0.mk (hi); (try clear hb); (try clear hk); (try clear hi)))
     go_ret2
     exact ⟨_, _, by first | rfl | (simp [errW_none, errW_some] <;> rfl) | (simp [*, errW_none, errW_some] <;> rfl), by (with_reducible repeat (first | apply Kd.R_alloc | apply Kd.R_drewN | apply Kd.R_drew)); exact HO232.out, by (with_reducible repeat (first | apply Kd.R_alloc | apply Kd.R_drewN | apply Kd.R_drew)); exact HO237.out, by repeat (first | (with_reducible first | exact HI0.out | apply IsS138.alloc | apply IsS138.drewN | apply IsS138.drew | apply IsS138.set_1 | apply IsS138.set_2) | exact HI0.out), by repeat (first | (with_reducible first | exact HB.out | apply below_alloc | apply pw_below_drewN | apply below_drew1 | refine below_set ?_ (IsS138.ge HI0.out)) | exact HB.out), by repeat (first | (with_reducible first | exact HK.out | apply KeepBut.set_ | apply keep_drewN | apply keep_drew | apply keep_alloc) | exact HK.out)⟩

/-! ### spec_DrawAreDetectors: function 24 -/
def spec_DrawAreDetectors.f (k : Nat) (l0 : List Int) : Option ((List (S50)) × (List (S120))) := (spec_l1New.f k l0).bind fun bt261 => ((spec_l10Any.f k bt261.1 bt261.2.1 bt261.2.2).bind fun bt265 => (some (bt265.1, bt265.2.1)))
theorem spec_DrawAreDetectors.mono : ∀ a0 k, LeO (spec_DrawAreDetectors.f k a0) (spec_DrawAreDetectors.f (k + 1) a0) := by
 intro a0 k
 unfold spec_DrawAreDetectors.f
 repeat' first | (with_reducible first | exact LeO.refl _ | exact LeO.none _ | refine LeO.ite ?_ ?_ | refine LeO.bind ?_ (fun _ => ?_) | exact spec_l10Any.mono _ _ _ _ | exact spec_l1New.mono _ _)
set_option maxHeartbeats 8000000 in
set_option maxRecDepth 100000 in
theorem spec_DrawAreDetectors.calls (k : Nat) (A0 : Option Addr) (c0 : Nat) (l0 : List Int) (r1 : List (S50)) (r2 : List (S120)) (w : World) (hr0 : Kd.C (Kd.int .u8) w A0 l0.length l0) (hc0 : l0.length ≤ c0) (h : spec_DrawAreDetectors.f k l0 = some (r1, r2)) :
  Calls Try.prog 24 #[.slice A0 l0.length c0] w fun e w' => ∃ v0_ v1_ : Value, e = .returned (.tuple #[v0_, v1_]) ∧ Kd.R k50 50 w' w.heap.size (fun _ => True) v0_ r1 ∧ Kd.R k120 120 w' w.heap.size (fun _ => True) v1_ r2 ∧ Below w.heap.size w w' := by
 have HR0 := Aside0.mk hr0
 have HC0 := Aside0.mk hc0
 clear hr0 hc0
 have HB := Aside0.mk (Below.refl w.heap.size w)
 have H : ((spec_l1New.f k l0).bind fun bt261 => ((spec_l10Any.f k bt261.1 bt261.2.1 bt261.2.2).bind fun bt265 => (some (bt265.1, bt265.2.1)))) = some (r1, r2) := h
 clear h
 obtain ⟨⟨t261, t262, t263⟩, A2, H⟩ := bindE H
 try dsimp only at H
 obtain ⟨⟨t265, t268, t271, t272⟩, A3, H⟩ := bindE H
 try dsimp only at H
 simp only [Option.some.injEq, Prod.mk.injEq] at H
 obtain ⟨rfl, rfl⟩ := H
 go_enter Try.func24, Try.ntmps24
 go_wp2_with (first | ((with_reducible refine gate_callee (f := 81) rfl ?_); refine gL (some 6) Try.func81 #[.slice A0 l0.length c0] ?_; (with_reducible refine (spec_l1New.calls k _ _ l0 t261 t262 t263 w _ ?side1 ?side2 ?side3 A2.out).mono ?_); (case side1 => repeat (first | (with_reducible first | exact HB.out | apply below_alloc | apply pw_below_drewN | apply below_drew1) | exact HB.out)); (case side2 => exact HR0.out); (case side3 => exact HC0.out); rintro e w4 ⟨g264, rfl, hi, hb, hb2⟩; refine ⟨_, rfl, ?_⟩; replace HB := Aside0.mk (hb); have HI264 := Aside0.mk (hi); (try clear hb); (try clear hb2); (try clear hi)) | ((with_reducible refine gate_callee (f := 87) rfl ?_); refine gL (some 8) Try.func87 #[.pointer (some ⟨g264, 0, none⟩)] ?_; (with_reducible refine (spec_l10Any.calls k g264 t261 t262 t263 t265 t268 t271 t272 w _ ?side1 ?side2 A3.out).mono ?_); (case side1 => repeat (first | (with_reducible first | exact HI264.out | apply IsS138.alloc | apply IsS138.drewN | apply IsS138.drew | apply IsS138.set_1 | apply IsS138.set_2) | exact HI264.out)); (case side2 => repeat (first | (with_reducible first | exact HB.out | apply below_alloc | apply pw_below_drewN | apply below_drew1 | refine below_set ?_ (IsS138.ge HI264.out)) | exact HB.out)); rintro e w5 ⟨v266, v269, rfl, ho0, ho1, hi, hb, hk⟩; refine ⟨_, rfl, ?_⟩; have n0_ := Aside0.mk (Kd.R_lower ho0 (below_size (by repeat (first | (with_reducible first | exact HB.out | apply below_alloc | apply pw_below_drewN | apply below_drew1 | refine below_set ?_ (IsS138.ge HI264.out)) | exact HB.out)))); have n1_ := Aside0.mk (Kd.R_lower ho1 (below_size (by repeat (first | (with_reducible first | exact HB.out | apply below_alloc | apply pw_below_drewN | apply below_drew1 | refine below_set ?_ (IsS138.ge HI264.out)) | exact HB.out)))); have n2_ := Aside0.mk (hb); have n3_ := Aside0.mk (hi); clear HB; clear HI264; have HO267 := n0_; have HO270 := n1_; have HB := n2_; have HI264 := n3_; clear n0_ n1_ n2_ n3_; (try clear hb); (try clear hk); (try clear hi); (try clear ho0); (try clear ho1)))
 go_ret2
 exact ⟨_, _, by first | rfl | (simp [errW_none, errW_some] <;> rfl) | (simp [*, errW_none, errW_some] <;> rfl), by (with_reducible repeat (first | apply Kd.R_alloc | apply Kd.R_drewN | apply Kd.R_drew)); exact HO267.out, by (with_reducible repeat (first | apply Kd.R_alloc | apply Kd.R_drewN | apply Kd.R_drew)); exact HO270.out, by repeat (first | (with_reducible first | exact HB.out | apply below_alloc | apply pw_below_drewN | apply below_drew1 | refine below_set ?_ (IsS138.ge HI264.out)) | exact HB.out)⟩

/-! ### impl_trusted: function 88 -/
set_option maxHeartbeats 8000000 in
set_option maxRecDepth 100000 in
theorem impl_trusted.isT (a b c : Int) (d : Bool) (w : World) :
  Calls Try.prog 132 #[.agg #[.int .i64 a, .int .i64 b, .int .i64 c, .bool d]] w fun e w' => e = .returned (.bool (!d && decide (c ≤ 900))) ∧ Below w.heap.size w w' := by
 have hu := Try.underlying120
 cases d with
 | true =>
  go_enter Try.func132, Try.ntmps132
  go_wp2
  go_ret
  exact ⟨rfl, (Below.refl _ _).alloc (Nat.le_refl _) _⟩
 | false =>
  go_enter Try.func132, Try.ntmps132
  go_wp2
  go_ret
  exact ⟨by simp, (Below.refl _ _).alloc (Nat.le_refl _) _⟩
def impl_trusted.q (id : Int) (x : S120) : Bool := decide (x.f0 = id) && (!x.f3 && decide (x.f2 ≤ 900))
set_option maxHeartbeats 400000 in
set_option maxRecDepth 100000 in
theorem impl_trusted.clo (id : Int) (g : Nat) (x : S120) (w : World) (hc : w.cell? ⟨g, 0, none⟩ = some (.int .i64 id)) :
  Calls Try.prog 131 #[.agg #[.int .i64 x.f0, .int .i64 x.f1, .int .i64 x.f2, .bool x.f3], .pointer (some ⟨g, 0, none⟩)] w fun e w' => e = .returned (.bool (impl_trusted.q id x)) ∧ Below w.heap.size w w' := by
 have hu := Try.underlying120
 have hg : g < w.heap.size := World.block_lt_of_cell? w _ hc
 by_cases h0 : x.f0 = id
 ·
  have h0b : (x.f0 == id) = true := beq_iff_eq.mpr h0
  have h0c : decide (x.f0 = id) = true := decide_eq_true h0
  have HQ := Aside0.mk h0
  clear h0
  go_enter Try.func131, Try.ntmps131
  go_wp2_with (go_at_call 132; refine (impl_trusted.isT _ _ _ _ _).mono ?_; rintro e w1 ⟨rfl, hb1⟩)
  go_ret
  exact ⟨by simp [impl_trusted.q, HQ.out], below_step (below_alloc (Below.refl _ _) _) hb1⟩
 ·
  have h0b : (x.f0 == id) = false := beq_eq_false_iff_ne.mpr h0
  have h0c : decide (x.f0 = id) = false := decide_eq_false h0
  have HQ := Aside0.mk h0
  clear h0
  go_enter Try.func131, Try.ntmps131
  go_wp2
  go_ret
  exact ⟨by simp [impl_trusted.q, HQ.out], (Below.refl _ _).alloc (Nat.le_refl _) _⟩
def impl_trusted.ix (id : Int) : List S120 → Int → Int
 | [], _ => -1
 | x :: l, i => if impl_trusted.q id x = true then i else impl_trusted.ix id l (i + 1)
theorem impl_trusted.ix_hit (id : Int) : ∀ (l : List S120) (i : Int) (m : Nat) (hm : m < l.length), (∀ j (hj : j < m), impl_trusted.q id (l[j]'(by omega)) = false) → impl_trusted.q id l[m] = true → impl_trusted.ix id l i = i + m
 | [], i, m, hm, _, _ => absurd hm (by simp)
 | p :: l, i, 0, hm, _, h => by
  unfold impl_trusted.ix
  rw [if_pos (show impl_trusted.q id p = true from h)]
  simp
 | p :: l, i, m + 1, hm, hne, h => by
  unfold impl_trusted.ix
  have h2 : impl_trusted.q id p = false := hne 0 (by omega)
  rw [if_neg (by rw [h2]; decide), impl_trusted.ix_hit id l (i + 1) m (by simpa using hm) (fun j hj => hne (j + 1) (by omega)) h]
  omega
theorem impl_trusted.ix_miss (id : Int) : ∀ (l : List S120) (i : Int), (∀ j (hj : j < l.length), impl_trusted.q id l[j] = false) → impl_trusted.ix id l i = -1
 | [], i, _ => rfl
 | p :: l, i, h => by
  unfold impl_trusted.ix
  have h2 : impl_trusted.q id p = false := h 0 (by simp)
  rw [if_neg (by rw [h2]; decide), impl_trusted.ix_miss id l (i + 1) (fun j hj => h (j + 1) (by simpa using hj))]
theorem impl_trusted.rd_ (l : List S120) (j : Nat) (hj : j < l.length) : rd_T120 l (j : Int) = l[j] := by
 unfold rd_T120; simp [List.getD_eq_getElem?_getD, List.getElem?_eq_getElem hj]
set_option maxHeartbeats 4000000 in
set_option maxRecDepth 100000 in
theorem impl_trusted.idx (id : Int) (g : Nat) (A0 : Option Addr) (c0 : Nat) (l0 : List S120) (w : World) (hr0 : Kd.C k120 w A0 l0.length l0) (hc0 : l0.length ≤ c0) (hc : w.cell? ⟨g, 0, none⟩ = some (.int .i64 id)) :
  Calls Try.prog 130 #[.slice A0 l0.length c0, .func (.func 131) #[] #[.pointer (some ⟨g, 0, none⟩)]] w fun e w' => e = .returned (.int .i64 (impl_trusted.ix id l0 0)) ∧ Below w.heap.size w w' := by
 have hu := Try.underlying120
 have HC := Aside0.mk hc
 clear hc
 have HR0 := Aside0.mk hr0
 have HC0 := Aside0.mk hc0
 have hlen : l0.length ≤ 9223372036854775807 := hr0.2.1
 clear hr0 hc0
 have HB := Aside0.mk (Below.refl w.heap.size w)
 go_enter Try.func130, Try.ntmps130
 go_wp2
 go_loopg [5, 8] l0.length (fun gg v5 v8 w' => ∃ kk : Nat, v8 = .int .i64 kk ∧ Aside0 (kk ≤ l0.length) ∧ Aside0 (l0.length - kk ≤ gg) ∧ Aside0 (Below w.heap.size w w') ∧ Aside0 (∀ j (hj : j < kk) (hl : j < l0.length), impl_trusted.q id l0[j] = false))
 case atStart => exact ⟨0, rfl, ⟨Nat.zero_le _⟩, ⟨by omega⟩, HB, ⟨fun j hj => absurd hj (Nat.not_lt_zero _)⟩⟩
 case round =>
  clear HB
  obtain ⟨kk, rfl, hk, hg, HB, HA⟩ := hrel
  by_cases hlt : kk < l0.length
  ·
   have hltz : decide ((kk : Int) < (l0.length : Int)) = true := decide_eq_true (by omega)
   have hltn : decide (kk < l0.length) = true := decide_eq_true hlt
   have p0 : (0 : Int) ≤ (kk : Int) := by omega
   have q0 : (kk : Int) < (l0.length : Int) := by omega
   have HE := Aside0.mk (impl_trusted.rd_ l0 kk hlt)
   obtain ⟨ad, e1, hx0, hx1, hx2, hx3⟩ := at_T120 HR0.out (kk : Int) p0 q0
   cases e1
   rw [Int.toNat_natCast] at hx0 hx1 hx2 hx3
   replace hx0 := hC HB hx0
   replace hx1 := hC HB hx1
   replace hx2 := hC HB hx2
   replace hx3 := hC HB hx3
   replace p0 := eq_true p0
   replace q0 := eq_true q0
   have hcl := fun (w' : World) (hb : Below w.heap.size w w') => impl_trusted.clo id g (rd_T120 l0 (kk : Int)) w' ((hb.cell (World.block_lt_of_cell? w _ HC.out)).trans HC.out)
   cases hq : impl_trusted.q id (rd_T120 l0 (kk : Int)) with
   | true =>
    rw [hq] at hcl
    have HCL := Aside0.mk hcl
    have HQ := Aside0.mk hq
    clear hcl hq
    go_wp2_with (go_at_call 131; refine (HCL.out _ HB.out).mono ?_; rintro e w1 ⟨rfl, hb1⟩)
    go_ret
    refine ⟨?_, below_step HB.out hb1⟩
    have hq := HQ.out
    rw [HE.out] at hq
    rw [impl_trusted.ix_hit id l0 0 kk hlt (fun j hj => HA.out j hj (by omega)) hq, Int.zero_add]
    rfl
   | false =>
    rw [hq] at hcl
    have HCL := Aside0.mk hcl
    have HQ := Aside0.mk hq
    clear hcl hq
    go_wp2_with (go_at_call 131; refine (HCL.out _ HB.out).mono ?_; rintro e w1 ⟨rfl, hb1⟩)
    go_roundg (l0.length - (kk + 1))
    case measure => have := hg.out; omega
    case rel =>
     refine ⟨kk + 1, by go_num, ⟨by omega⟩, ⟨by omega⟩, ⟨below_step HB.out hb1⟩, ⟨fun j hj hl => ?_⟩⟩
     rcases Nat.lt_or_ge j kk with h3 | h3
     ·
      exact HA.out j h3 hl
     ·
      have h4 : j = kk := by omega
      subst h4
      rw [← HE.out]
      exact HQ.out
  ·
   have hge : decide ((kk : Int) < (l0.length : Int)) = false := decide_eq_false (by omega)
   have hgen : decide (kk < l0.length) = false := decide_eq_false hlt
   go_wp2
   go_ret
   refine ⟨?_, HB.out⟩
   rw [impl_trusted.ix_miss id l0 0 (fun j hj => HA.out j (by omega) hj)]
   rfl

def impl_trusted.f (l0 : List S120) (a1 : Int) : Option Int := some (impl_trusted.ix a1 l0 0)
set_option maxHeartbeats 400000 in
set_option maxRecDepth 100000 in
theorem impl_trusted.calls (A0 : Option Addr) (c0 : Nat) (l0 : List S120) (a1 : Int) (r : Int) (w : World) (hr0 : Kd.C k120 w A0 l0.length l0) (hc0 : l0.length ≤ c0) (h : impl_trusted.f l0 a1 = some r) :
  Calls Try.prog 88 #[.slice A0 l0.length c0, .int .i64 a1] w fun e w' => e = .returned (.int .i64 r) ∧ Below w.heap.size w w' := by
 obtain rfl := Option.some.inj h
 have HR0 := Aside0.mk hr0
 have HC0 := Aside0.mk hc0
 clear hr0 hc0 h
 go_enter Try.func88, Try.ntmps88
 go_wp2_with (go_at_call 130; refine (impl_trusted.idx a1 w.heap.size A0 c0 l0 _ ?s1 HC0.out ?s2).mono ?_; (case s1 => exact Kd.C_alloc HR0.out _); (case s2 => simp); rintro e w1 ⟨rfl, hb1⟩)
 go_ret
 exact ⟨rfl, below_step (below_alloc (Below.refl _ _) _) hb1⟩

/-! ### impl_BlindPaths: function 25 -/
def impl_BlindPaths.l0 : Nat → List (S120) → List Int → List (S50) → Int → Int → Option (List Int)
 | 0, _, _, _, _, _ => none
 | k + 1, x1, x5, x9, x10, x11 => if x11 < x10 then (if 0 ≤ x11 then (if x11 < (x9.length : Int) then ((impl_trusted.f x1 ((rd_T50 x9 x11).f0)).bind fun t278 => (if t278 < 0 then (if x5.length < 17592186044416 then (impl_BlindPaths.l0 k x1 (x5 ++ [(rd_T50 x9 x11).f0]) x9 x10 (wrap64 (x11 + 1))) else (none)) else (impl_BlindPaths.l0 k x1 x5 x9 x10 (wrap64 (x11 + 1))))) else (none)) else (none)) else (some x5)
def impl_BlindPaths.f (k : Nat) (l0 : List (S50)) (l1 : List (S120)) : Option (List Int) := impl_BlindPaths.l0 k l1 (([] : List Int)) l0 (l0.length : Int) 0
theorem impl_BlindPaths.mono_l : ∀ k, (∀ y0 y1 y2 y3 y4, LeO (impl_BlindPaths.l0 k y0 y1 y2 y3 y4) (impl_BlindPaths.l0 (k + 1) y0 y1 y2 y3 y4))
 | 0 => fun _ _ _ _ _ r h => by simp [impl_BlindPaths.l0] at h
 | k + 1 => by
  have ih0 := impl_BlindPaths.mono_l k
  ·
   intro y0 y1 y2 y3 y4
   unfold impl_BlindPaths.l0
   repeat' first | (with_reducible first | exact LeO.refl _ | exact LeO.none _ | refine LeO.ite ?_ ?_ | refine LeO.bind ?_ (fun _ => ?_) | exact ih0 _ _ _ _ _)
theorem impl_BlindPaths.mono : ∀ a0 a1 k, LeO (impl_BlindPaths.f k a0 a1) (impl_BlindPaths.f (k + 1) a0 a1) := by
 intro a0 a1 k
 have ih0 := impl_BlindPaths.mono_l k
 unfold impl_BlindPaths.f
 repeat' first | (with_reducible first | exact LeO.refl _ | exact LeO.none _ | refine LeO.ite ?_ ?_ | refine LeO.bind ?_ (fun _ => ?_) | exact ih0 _ _ _ _ _)
set_option maxHeartbeats 8000000 in
set_option maxRecDepth 100000 in
theorem impl_BlindPaths.calls (k : Nat) (A0 : Option Addr) (c0 : Nat) (l0 : List (S50)) (A1 : Option Addr) (c1 : Nat) (l1 : List (S120)) (r : List Int) (w : World) (hr0 : Kd.C k50 w A0 l0.length l0) (hc0 : l0.length ≤ c0) (hr1 : Kd.C k120 w A1 l1.length l1) (hc1 : l1.length ≤ c1) (h : impl_BlindPaths.f k l0 l1 = some r) :
  Calls Try.prog 25 #[.slice A0 l0.length c0, .slice A1 l1.length c1] w fun e w' => ∃ v0_ : Value, e = .returned (v0_) ∧ Kd.R (Kd.int .i64) 3 w' w.heap.size (fun _ => True) v0_ r ∧ Below w.heap.size w w' := by
 have hu50 := Try.underlying50
 have HR0 := Aside0.mk hr0
 have HC0 := Aside0.mk hc0
 clear hr0 hc0
 have HR1 := Aside0.mk hr1
 have HC1 := Aside0.mk hc1
 clear hr1 hc1
 have HB := Aside0.mk (Below.refl w.heap.size w)
 have H : (impl_BlindPaths.l0 k l1 (([] : List Int)) l0 (l0.length : Int) 0) = some r := h
 clear h
 obtain ⟨y273, hy273⟩ : ∃ y_ : List Int, y_ = (([] : List Int)) := ⟨_, rfl⟩
 replace H : (impl_BlindPaths.l0 k l1 y273 l0 (l0.length : Int) 0) = some r := by first | (rw [hy273]; with_reducible exact H) | (have H2_ := (Option.bind_some _ _).symm.trans H; rw [hy273]; with_reducible exact H2_) | (have H2_ := (Option.bind_some _ _).symm.trans H; with_reducible exact H2_) | with_reducible exact H | (rw [hy273]; exact H) | exact H
 have Ny273 := Aside0.mk hy273
 clear hy273
 have H' := Aside0.mk H
 clear H
 go_enter Try.func25, Try.ntmps25
 go_wp2_with (first | ((with_reducible refine gate_dst (N := 8) rfl ?_); refine Kd.R_lit (Kd.int .i64) _ 3 ?hg (N := 8) ?hd (xs := ([] : List Int)) (inner := []) (ok := fun _ => True) (okp := fun _ => True) ?hr ?hp (fun _ hk => hk) trivial (Below.refl _ _) (Nat.le_refl _) (by simp) ?_; (case hd => rfl); (case hg => rfl); (case hr => first | (go_simp; done) | (go_simp; rfl)); (case hp => exact (Reps.none _ _)); intro v274 w3 ho4 hb hg_ hnew_; clear hg_ hnew_; (first | rw [← Ny273.out] at ho4 | (simp only [Int.reduceToNat] at ho4; rw [← Ny273.out] at ho4)); have HO275 := Aside0.mk (Kd.R_lower ho4 (below_size bA)); replace HB := Aside0.mk (below_step bA hb); clear hb ho4))
 go_loopg [5, 11] k (fun kq v5 v11 w' => ∃ (x5_1 : List Int) (x11_1 : Int), v11 = .int .i64 x11_1 ∧ Aside0 (impl_BlindPaths.l0 kq l1 x5_1 l0 (l0.length : Int) x11_1 = some r) ∧ Aside0 (kq ≤ k) ∧ Aside0 (Kd.R (Kd.int .i64) 3 w' w.heap.size (fun _ => True) v5 x5_1) ∧ Aside0 (Below w.heap.size w w'))
 case atStart => exact ⟨(y273), (0), rS, H', ⟨Nat.le_refl _⟩, ⟨rK HO275⟩, ⟨bA⟩⟩
 case round =>
  clear H'
  try clear c1
  try clear c2
  try clear p2
  obtain ⟨x5_1, x11_1, rfl, HA, HK1, HO_5, HB⟩ := hrel
  cases gk with
  | zero => exact absurd HA.out (by simp [impl_BlindPaths.l0])
  | succ k1 =>
   have H := HA.out
   clear HA
   simp only [impl_BlindPaths.l0] at H
   by_cases c5 : x11_1 < (l0.length : Int)
   ·
    rw [if_pos c5] at H
    have c5b0 := decide_eq_true c5
    clear c5
    have c6 : 0 ≤ x11_1 := ifN H
    replace H := ifT H
    have c6b0 := decide_eq_true c6
    clear c6
    have c7 : x11_1 < (l0.length : Int) := ifN H
    replace H := ifT H
    have c7b0 := decide_eq_true c7
    clear c7
    obtain ⟨t278, A8, H⟩ := bindE H
    try dsimp only at H
    by_cases c9 : t278 < 0
    ·
     rw [if_pos c9] at H
     have c9b0 := decide_eq_true c9
     clear c9
     have c10 : x5_1.length < 17592186044416 := ifN H
     replace H := ifT H
     have LMc10 := Aside0.mk c10
     clear c10
     obtain ⟨y279, hy279⟩ : ∃ y_ : List Int, y_ = (x5_1 ++ [(rd_T50 l0 x11_1).f0]) := ⟨_, rfl⟩
     replace H : (impl_BlindPaths.l0 k1 l1 y279 l0 (l0.length : Int) (wrap64 (x11_1 + 1))) = some r := by first | (rw [hy279]; with_reducible exact H) | (have H2_ := (Option.bind_some _ _).symm.trans H; rw [hy279]; with_reducible exact H2_) | (have H2_ := (Option.bind_some _ _).symm.trans H; with_reducible exact H2_) | with_reducible exact H | (rw [hy279]; exact H) | exact H
     have Ny279 := Aside0.mk hy279
     clear hy279
     have H' := Aside0.mk H
     clear H
     have p276 : 0 ≤ (x11_1 : Int) := dA
     have q276 : x11_1 < (l0.length : Int) := dA
     obtain ⟨ad276, e276, hx276_0, hx276_1, hx276_2, hx276_3⟩ := at_T50 HR0.out x11_1 p276 q276
     cases e276
     replace hx276_0 := hC HB hx276_0
     replace hx276_1 := hC HB hx276_1
     replace hx276_2 := hC HB hx276_2
     replace hx276_3 := hC HB hx276_3
     replace p276 := eq_true p276
     replace q276 := eq_true q276
     go_wp2_with (first | ((with_reducible refine gate_dst (N := 7) rfl ?_); refine bE (N := 7) (cs := #[.int .i64 0, .int .i64 0, .int .i64 0, .int .i64 0]) (t := 50) ?_; intro gb277 hg w11 hbox hb; have n0_ := Aside0.mk (Kd.R_below (rK HO_5) hb); have n1_ := Aside0.mk (below_step bA hb); have n2_ := Aside0.mk (hbox); have n3_ := Aside0.mk ((by rw [hg]; exact (below_size bA) : w.heap.size ≤ gb277)); have n4_ := Aside0.mk ((by rw [hg]; exact (below_size bA) : w.heap.size ≤ gb277)); clear HO_5; clear HB; have HO_5 := n0_; have HB := n1_; have BK277 := n2_; have GW277 := n3_; have GE277 := n4_; clear n0_ n1_ n2_ n3_ n4_; clear hb hbox hg; have hcz12_0 : w11.cell? ⟨gb277, 0, none⟩ = some (.int .i64 0) := bC BK277 0; have hcz12_1 : w11.cell? ⟨gb277, 1, none⟩ = some (.int .i64 0) := bC BK277 1; have hcz12_2 : w11.cell? ⟨gb277, 2, none⟩ = some (.int .i64 0) := bC BK277 2; have hcz12_3 : w11.cell? ⟨gb277, 3, none⟩ = some (.int .i64 0) := bC BK277 3; have hfz12_0 := blk_frozen BK277.out 0; have hfz12_1 := blk_frozen BK277.out 1; have hfz12_2 := blk_frozen BK277.out 2; have hfz12_3 := blk_frozen BK277.out 3) | ((with_reducible refine gate_callee (f := 88) rfl ?_); refine gL (some 18) Try.func88 #[.slice A1 l1.length c1, .int .i64 ((rd_T50 l0 x11_1).f0)] ?_; (with_reducible refine (impl_trusted.calls _ _ l1 ((rd_T50 l0 x11_1).f0) t278 _ ?side1 ?side2 A8.out).mono ?_); (case side1 => exact Kd.C_below HR1.out bG); (case side2 => exact HC1.out); rintro e w13 ⟨rfl, hb⟩; refine ⟨_, rfl, ?_⟩; have n0_ := Aside0.mk (Kd.R_below (by (with_reducible repeat (first | apply Kd.R_alloc | apply Kd.R_drewN | apply Kd.R_drew)); exact (Kd.R_mono (Kd.R_far (p := ⟨gb277, 3, none⟩) (Kd.R_far (p := ⟨gb277, 2, none⟩) (Kd.R_far (p := ⟨gb277, 1, none⟩) (Kd.R_far (p := ⟨gb277, 0, none⟩) (Kd.R_types HO_5.out BK277.out (by decide)) (fun _ hk => hk.2) (.int .i64 ((rd_T50 l0 x11_1).f0))) (fun _ hk => hk.2) (.int .i64 ((rd_T50 l0 x11_1).f1))) (fun _ hk => hk.2) (.int .i64 ((rd_T50 l0 x11_1).f2))) (fun _ hk => hk.2) (.int .i64 ((rd_T50 l0 x11_1).f3))) (fun _ h_ => h_.1))) hb); have n1_ := Aside0.mk (blk_below (g := gb277) (o := .cells #[.int .i64 ((rd_T50 l0 x11_1).f0), .int .i64 ((rd_T50 l0 x11_1).f1), .int .i64 ((rd_T50 l0 x11_1).f2), .int .i64 ((rd_T50 l0 x11_1).f3)] 50 (0, 0)) (by (with_reducible repeat (first | refine blk_drewN ?_ _ | refine blk_drew ?_ | refine blk_alloc ?_ _)); refine blk_put (cs := #[.int .i64 ((rd_T50 l0 x11_1).f0), .int .i64 ((rd_T50 l0 x11_1).f1), .int .i64 ((rd_T50 l0 x11_1).f2), .int .i64 0]) ?_ 3 _ rfl; (with_reducible repeat (first | refine blk_drewN ?_ _ | refine blk_drew ?_ | refine blk_alloc ?_ _)); refine blk_put (cs := #[.int .i64 ((rd_T50 l0 x11_1).f0), .int .i64 ((rd_T50 l0 x11_1).f1), .int .i64 0, .int .i64 0]) ?_ 2 _ rfl; (with_reducible repeat (first | refine blk_drewN ?_ _ | refine blk_drew ?_ | refine blk_alloc ?_ _)); refine blk_put (cs := #[.int .i64 ((rd_T50 l0 x11_1).f0), .int .i64 0, .int .i64 0, .int .i64 0]) ?_ 1 _ rfl; (with_reducible repeat (first | refine blk_drewN ?_ _ | refine blk_drew ?_ | refine blk_alloc ?_ _)); refine blk_put (cs := #[.int .i64 0, .int .i64 0, .int .i64 0, .int .i64 0]) ?_ 0 _ rfl; (with_reducible repeat (first | refine blk_drewN ?_ _ | refine blk_drew ?_ | refine blk_alloc ?_ _)); exact BK277.out) hb); have n2_ := Aside0.mk (below_step bG hb); clear HO_5; clear BK277; clear HB; have HO_5 := n0_; have BK277 := n1_; have HB := n2_; clear n0_ n1_ n2_; (try clear hb); have hcz14_0 : w13.cell? ⟨gb277, 0, none⟩ = some (.int .i64 ((rd_T50 l0 x11_1).f0)) := bC BK277 0; have hcz14_1 : w13.cell? ⟨gb277, 1, none⟩ = some (.int .i64 ((rd_T50 l0 x11_1).f1)) := bC BK277 1; have hcz14_2 : w13.cell? ⟨gb277, 2, none⟩ = some (.int .i64 ((rd_T50 l0 x11_1).f2)) := bC BK277 2; have hcz14_3 : w13.cell? ⟨gb277, 3, none⟩ = some (.int .i64 ((rd_T50 l0 x11_1).f3)) := bC BK277 3; have hfz14_0 := blk_frozen BK277.out 0; have hfz14_1 := blk_frozen BK277.out 1; have hfz14_2 := blk_frozen BK277.out 2; have hfz14_3 := blk_frozen BK277.out 3) | ((with_reducible refine gate_builtin (b := .append) (xs := #[.tmp 20, .tmp 23]) rfl ?_); at_builtin; refine Kd.R_append (Kd.int .i64) (w0 := w) w.heap.size rfl (.tmp 20) (.tmp 23) 35 3 (.int .i64 0) 8 rfl Try.underlying35 info3 rfl (by decide) (by omega) u5 x5_1 ((rd_T50 l0 x11_1).f0) [.int .i64 ((rd_T50 l0 x11_1).f0)] (fun _ => True) (fun _ => False) rfl rfl ?aP (fun _ hk => hk.elim) ?aF ?aO ?aB ?aS ?aL ?_; (case aP => exact rfl); (case aB => exact bG); (case aF => exact (fun _ _ => trivial)); (case aO => exact (rK HO_5)); (case aS => exact (below_size bG)); (case aL => have := LMc10.out; omega); intro v280 w15 ho hb hg hat; rw [← Ny279.out] at ho; have n0_ := Aside0.mk (blk_grown (g := gb277) (o := .cells #[.int .i64 ((rd_T50 l0 x11_1).f0), .int .i64 ((rd_T50 l0 x11_1).f1), .int .i64 ((rd_T50 l0 x11_1).f2), .int .i64 ((rd_T50 l0 x11_1).f3)] 50 (0, 0)) (bK BK277) hg (Kd.R_ne HO_5.out BK277.out (by decide))); have n1_ := Aside0.mk (hb); have n2_ := Aside0.mk (ho); clear BK277; clear HB; clear HO_5; have BK277 := n0_; have HB := n1_; have HO281 := n2_; clear n0_ n1_ n2_; clear ho hb hg hat))
     go_roundg k1
     case measure => have := HK1.out; omega
     case rel => exact ⟨(y279), (wrap64 (x11_1 + 1)), rS, H', ⟨by have := HK1.out; omega⟩, ⟨rK HO281⟩, ⟨bG⟩⟩
    ·
     rw [if_neg c9] at H
     have c9b0 := decide_eq_false c9
     clear c9
     have H' := Aside0.mk H
     clear H
     have p276 : 0 ≤ (x11_1 : Int) := dA
     have q276 : x11_1 < (l0.length : Int) := dA
     obtain ⟨ad276, e276, hx276_0, hx276_1, hx276_2, hx276_3⟩ := at_T50 HR0.out x11_1 p276 q276
     cases e276
     replace hx276_0 := hC HB hx276_0
     replace hx276_1 := hC HB hx276_1
     replace hx276_2 := hC HB hx276_2
     replace hx276_3 := hC HB hx276_3
     replace p276 := eq_true p276
     replace q276 := eq_true q276
     go_wp2_with (first | ((with_reducible refine gate_dst (N := 7) rfl ?_); refine bE (N := 7) (cs := #[.int .i64 0, .int .i64 0, .int .i64 0, .int .i64 0]) (t := 50) ?_; intro gb277 hg w16 hbox hb; have n0_ := Aside0.mk (Kd.R_below (rK HO_5) hb); have n1_ := Aside0.mk (below_step bA hb); have n2_ := Aside0.mk (hbox); have n3_ := Aside0.mk ((by rw [hg]; exact (below_size bA) : w.heap.size ≤ gb277)); have n4_ := Aside0.mk ((by rw [hg]; exact (below_size bA) : w.heap.size ≤ gb277)); clear HO_5; clear HB; have HO_5 := n0_; have HB := n1_; have BK277 := n2_; have GW277 := n3_; have GE277 := n4_; clear n0_ n1_ n2_ n3_ n4_; clear hb hbox hg; have hcz17_0 : w16.cell? ⟨gb277, 0, none⟩ = some (.int .i64 0) := bC BK277 0; have hcz17_1 : w16.cell? ⟨gb277, 1, none⟩ = some (.int .i64 0) := bC BK277 1; have hcz17_2 : w16.cell? ⟨gb277, 2, none⟩ = some (.int .i64 0) := bC BK277 2; have hcz17_3 : w16.cell? ⟨gb277, 3, none⟩ = some (.int .i64 0) := bC BK277 3; have hfz17_0 := blk_frozen BK277.out 0; have hfz17_1 := blk_frozen BK277.out 1; have hfz17_2 := blk_frozen BK277.out 2; have hfz17_3 := blk_frozen BK277.out 3) | ((with_reducible refine gate_callee (f := 88) rfl ?_); refine gL (some 18) Try.func88 #[.slice A1 l1.length c1, .int .i64 ((rd_T50 l0 x11_1).f0)] ?_; (with_reducible refine (impl_trusted.calls _ _ l1 ((rd_T50 l0 x11_1).f0) t278 _ ?side1 ?side2 A8.out).mono ?_); (case side1 => exact Kd.C_below HR1.out bG); (case side2 => exact HC1.out); rintro e w18 ⟨rfl, hb⟩; refine ⟨_, rfl, ?_⟩; have n0_ := Aside0.mk (Kd.R_below (by (with_reducible repeat (first | apply Kd.R_alloc | apply Kd.R_drewN | apply Kd.R_drew)); exact (Kd.R_mono (Kd.R_far (p := ⟨gb277, 3, none⟩) (Kd.R_far (p := ⟨gb277, 2, none⟩) (Kd.R_far (p := ⟨gb277, 1, none⟩) (Kd.R_far (p := ⟨gb277, 0, none⟩) (Kd.R_types HO_5.out BK277.out (by decide)) (fun _ hk => hk.2) (.int .i64 ((rd_T50 l0 x11_1).f0))) (fun _ hk => hk.2) (.int .i64 ((rd_T50 l0 x11_1).f1))) (fun _ hk => hk.2) (.int .i64 ((rd_T50 l0 x11_1).f2))) (fun _ hk => hk.2) (.int .i64 ((rd_T50 l0 x11_1).f3))) (fun _ h_ => h_.1))) hb); have n1_ := Aside0.mk (blk_below (g := gb277) (o := .cells #[.int .i64 ((rd_T50 l0 x11_1).f0), .int .i64 ((rd_T50 l0 x11_1).f1), .int .i64 ((rd_T50 l0 x11_1).f2), .int .i64 ((rd_T50 l0 x11_1).f3)] 50 (0, 0)) (by (with_reducible repeat (first | refine blk_drewN ?_ _ | refine blk_drew ?_ | refine blk_alloc ?_ _)); refine blk_put (cs := #[.int .i64 ((rd_T50 l0 x11_1).f0), .int .i64 ((rd_T50 l0 x11_1).f1), .int .i64 ((rd_T50 l0 x11_1).f2), .int .i64 0]) ?_ 3 _ rfl; (with_reducible repeat (first | refine blk_drewN ?_ _ | refine blk_drew ?_ | refine blk_alloc ?_ _)); refine blk_put (cs := #[.int .i64 ((rd_T50 l0 x11_1).f0), .int .i64 ((rd_T50 l0 x11_1).f1), .int .i64 0, .int .i64 0]) ?_ 2 _ rfl; (with_reducible repeat (first | refine blk_drewN ?_ _ | refine blk_drew ?_ | refine blk_alloc ?_ _)); refine blk_put (cs := #[.int .i64 ((rd_T50 l0 x11_1).f0), .int .i64 0, .int .i64 0, .int .i64 0]) ?_ 1 _ rfl; (with_reducible repeat (first | refine blk_drewN ?_ _ | refine blk_drew ?_ | refine blk_alloc ?_ _)); refine blk_put (cs := #[.int .i64 0, .int .i64 0, .int .i64 0, .int .i64 0]) ?_ 0 _ rfl; (with_reducible repeat (first | refine blk_drewN ?_ _ | refine blk_drew ?_ | refine blk_alloc ?_ _)); exact BK277.out) hb); have n2_ := Aside0.mk (below_step bG hb); clear HO_5; clear BK277; clear HB; have HO_5 := n0_; have BK277 := n1_; have HB := n2_; clear n0_ n1_ n2_; (try clear hb)))
     go_roundg k1
     case measure => have := HK1.out; omega
     case rel => exact ⟨(x5_1), (wrap64 (x11_1 + 1)), rS, H', ⟨by have := HK1.out; omega⟩, ⟨rK HO_5⟩, ⟨bG⟩⟩
   ·
    rw [if_neg c5] at H
    have c5b0 := decide_eq_false c5
    clear c5
    obtain rfl := Option.some.inj H
    go_wp2
    go_ret
    exact ⟨_, by first | rfl | (simp [errW_none, errW_some] <;> rfl) | (simp [*, errW_none, errW_some] <;> rfl), by (with_reducible repeat (first | apply Kd.R_alloc | apply Kd.R_drewN | apply Kd.R_drew)); exact HO_5.out, bA⟩

/-! ### impl_FindPath: function 16 -/
def impl_FindPath.q (id : Int) (x : S50) : Bool := decide (x.f0 = id)
set_option maxHeartbeats 400000 in
set_option maxRecDepth 100000 in
theorem impl_FindPath.clo (id : Int) (g : Nat) (x : S50) (w : World) (hc : w.cell? ⟨g, 0, none⟩ = some (.int .i64 id)) :
  Calls Try.prog 80 #[.agg #[.int .i64 x.f0, .int .i64 x.f1, .int .i64 x.f2, .int .i64 x.f3], .pointer (some ⟨g, 0, none⟩)] w fun e w' => e = .returned (.bool (impl_FindPath.q id x)) ∧ Below w.heap.size w w' := by
 have hu := Try.underlying50
 have hg : g < w.heap.size := World.block_lt_of_cell? w _ hc
 go_enter Try.func80, Try.ntmps80
 go_wp2
 go_ret
 exact ⟨by unfold impl_FindPath.q; first | rfl | simp, (Below.refl _ _).alloc (Nat.le_refl _) _⟩
def impl_FindPath.ix (id : Int) : List S50 → Int → Int
 | [], _ => -1
 | x :: l, i => if impl_FindPath.q id x = true then i else impl_FindPath.ix id l (i + 1)
theorem impl_FindPath.ix_hit (id : Int) : ∀ (l : List S50) (i : Int) (m : Nat) (hm : m < l.length), (∀ j (hj : j < m), impl_FindPath.q id (l[j]'(by omega)) = false) → impl_FindPath.q id l[m] = true → impl_FindPath.ix id l i = i + m
 | [], i, m, hm, _, _ => absurd hm (by simp)
 | p :: l, i, 0, hm, _, h => by
  unfold impl_FindPath.ix
  rw [if_pos (show impl_FindPath.q id p = true from h)]
  simp
 | p :: l, i, m + 1, hm, hne, h => by
  unfold impl_FindPath.ix
  have h2 : impl_FindPath.q id p = false := hne 0 (by omega)
  rw [if_neg (by rw [h2]; decide), impl_FindPath.ix_hit id l (i + 1) m (by simpa using hm) (fun j hj => hne (j + 1) (by omega)) h]
  omega
theorem impl_FindPath.ix_miss (id : Int) : ∀ (l : List S50) (i : Int), (∀ j (hj : j < l.length), impl_FindPath.q id l[j] = false) → impl_FindPath.ix id l i = -1
 | [], i, _ => rfl
 | p :: l, i, h => by
  unfold impl_FindPath.ix
  have h2 : impl_FindPath.q id p = false := h 0 (by simp)
  rw [if_neg (by rw [h2]; decide), impl_FindPath.ix_miss id l (i + 1) (fun j hj => h (j + 1) (by simpa using hj))]
theorem impl_FindPath.rd_ (l : List S50) (j : Nat) (hj : j < l.length) : rd_T50 l (j : Int) = l[j] := by
 unfold rd_T50; simp [List.getD_eq_getElem?_getD, List.getElem?_eq_getElem hj]
set_option maxHeartbeats 4000000 in
set_option maxRecDepth 100000 in
theorem impl_FindPath.idx (id : Int) (g : Nat) (A0 : Option Addr) (c0 : Nat) (l0 : List S50) (w : World) (hr0 : Kd.C k50 w A0 l0.length l0) (hc0 : l0.length ≤ c0) (hc : w.cell? ⟨g, 0, none⟩ = some (.int .i64 id)) :
  Calls Try.prog 79 #[.slice A0 l0.length c0, .func (.func 80) #[] #[.pointer (some ⟨g, 0, none⟩)]] w fun e w' => e = .returned (.int .i64 (impl_FindPath.ix id l0 0)) ∧ Below w.heap.size w w' := by
 have hu := Try.underlying50
 have HC := Aside0.mk hc
 clear hc
 have HR0 := Aside0.mk hr0
 have HC0 := Aside0.mk hc0
 have hlen : l0.length ≤ 9223372036854775807 := hr0.2.1
 clear hr0 hc0
 have HB := Aside0.mk (Below.refl w.heap.size w)
 go_enter Try.func79, Try.ntmps79
 go_wp2
 go_loopg [5, 8] l0.length (fun gg v5 v8 w' => ∃ kk : Nat, v8 = .int .i64 kk ∧ Aside0 (kk ≤ l0.length) ∧ Aside0 (l0.length - kk ≤ gg) ∧ Aside0 (Below w.heap.size w w') ∧ Aside0 (∀ j (hj : j < kk) (hl : j < l0.length), impl_FindPath.q id l0[j] = false))
 case atStart => exact ⟨0, rfl, ⟨Nat.zero_le _⟩, ⟨by omega⟩, HB, ⟨fun j hj => absurd hj (Nat.not_lt_zero _)⟩⟩
 case round =>
  clear HB
  obtain ⟨kk, rfl, hk, hg, HB, HA⟩ := hrel
  by_cases hlt : kk < l0.length
  ·
   have hltz : decide ((kk : Int) < (l0.length : Int)) = true := decide_eq_true (by omega)
   have hltn : decide (kk < l0.length) = true := decide_eq_true hlt
   have p0 : (0 : Int) ≤ (kk : Int) := by omega
   have q0 : (kk : Int) < (l0.length : Int) := by omega
   have HE := Aside0.mk (impl_FindPath.rd_ l0 kk hlt)
   obtain ⟨ad, e1, hx0, hx1, hx2, hx3⟩ := at_T50 HR0.out (kk : Int) p0 q0
   cases e1
   rw [Int.toNat_natCast] at hx0 hx1 hx2 hx3
   replace hx0 := hC HB hx0
   replace hx1 := hC HB hx1
   replace hx2 := hC HB hx2
   replace hx3 := hC HB hx3
   replace p0 := eq_true p0
   replace q0 := eq_true q0
   have hcl := fun (w' : World) (hb : Below w.heap.size w w') => impl_FindPath.clo id g (rd_T50 l0 (kk : Int)) w' ((hb.cell (World.block_lt_of_cell? w _ HC.out)).trans HC.out)
   cases hq : impl_FindPath.q id (rd_T50 l0 (kk : Int)) with
   | true =>
    rw [hq] at hcl
    have HCL := Aside0.mk hcl
    have HQ := Aside0.mk hq
    clear hcl hq
    go_wp2_with (go_at_call 80; refine (HCL.out _ HB.out).mono ?_; rintro e w1 ⟨rfl, hb1⟩)
    go_ret
    refine ⟨?_, below_step HB.out hb1⟩
    have hq := HQ.out
    rw [HE.out] at hq
    rw [impl_FindPath.ix_hit id l0 0 kk hlt (fun j hj => HA.out j hj (by omega)) hq, Int.zero_add]
    rfl
   | false =>
    rw [hq] at hcl
    have HCL := Aside0.mk hcl
    have HQ := Aside0.mk hq
    clear hcl hq
    go_wp2_with (go_at_call 80; refine (HCL.out _ HB.out).mono ?_; rintro e w1 ⟨rfl, hb1⟩)
    go_roundg (l0.length - (kk + 1))
    case measure => have := hg.out; omega
    case rel =>
     refine ⟨kk + 1, by go_num, ⟨by omega⟩, ⟨by omega⟩, ⟨below_step HB.out hb1⟩, ⟨fun j hj hl => ?_⟩⟩
     rcases Nat.lt_or_ge j kk with h3 | h3
     ·
      exact HA.out j h3 hl
     ·
      have h4 : j = kk := by omega
      subst h4
      rw [← HE.out]
      exact HQ.out
  ·
   have hge : decide ((kk : Int) < (l0.length : Int)) = false := decide_eq_false (by omega)
   have hgen : decide (kk < l0.length) = false := decide_eq_false hlt
   go_wp2
   go_ret
   refine ⟨?_, HB.out⟩
   rw [impl_FindPath.ix_miss id l0 0 (fun j hj => HA.out j (by omega) hj)]
   rfl

def impl_FindPath.f (l0 : List S50) (a1 : Int) : Option Int := some (impl_FindPath.ix a1 l0 0)
set_option maxHeartbeats 400000 in
set_option maxRecDepth 100000 in
theorem impl_FindPath.calls (A0 : Option Addr) (c0 : Nat) (l0 : List S50) (a1 : Int) (r : Int) (w : World) (hr0 : Kd.C k50 w A0 l0.length l0) (hc0 : l0.length ≤ c0) (h : impl_FindPath.f l0 a1 = some r) :
  Calls Try.prog 16 #[.slice A0 l0.length c0, .int .i64 a1] w fun e w' => e = .returned (.int .i64 r) ∧ Below w.heap.size w w' := by
 obtain rfl := Option.some.inj h
 have HR0 := Aside0.mk hr0
 have HC0 := Aside0.mk hc0
 clear hr0 hc0 h
 go_enter Try.func16, Try.ntmps16
 go_wp2_with (go_at_call 79; refine (impl_FindPath.idx a1 w.heap.size A0 c0 l0 _ ?s1 HC0.out ?s2).mono ?_; (case s1 => exact Kd.C_alloc HR0.out _); (case s2 => simp); rintro e w1 ⟨rfl, hb1⟩)
 go_ret
 exact ⟨rfl, below_step (below_alloc (Below.refl _ _) _) hb1⟩

/-! ### impl_InRange: function 75 -/
def impl_InRange.f (a0 : Int) (a1 : Int) (a2 : Int) : Option (Bool) := if a1 ≤ a0 then (some (decide (a0 ≤ a2))) else (some false)
set_option maxHeartbeats 8000000 in
set_option maxRecDepth 100000 in
theorem impl_InRange.calls (a0 : Int) (a1 : Int) (a2 : Int) (r : Bool) (w : World) (h : impl_InRange.f a0 a1 a2 = some r) :
  Calls Try.prog 75 #[.int .i64 a0, .int .i64 a1, .int .i64 a2] w fun e w' => e = .returned (.bool r) ∧ Drawn0 w w' := by
 have H : (if a1 ≤ a0 then (some (decide (a0 ≤ a2))) else (some false)) = some r := h
 clear h
 by_cases c4 : a1 ≤ a0
 ·
  rw [if_pos c4] at H
  have c4b0 := decide_eq_true c4
  clear c4
  obtain rfl := Option.some.inj H
  go_enter Try.func75, Try.ntmps75
  go_wp2
  go_ret
  exact ⟨by first | rfl | (simp; done) | (simp [*]; done), by repeat (first | exact Drawn0.refl _ | apply Drawn0.step)⟩
 ·
  rw [if_neg c4] at H
  have c4b0 := decide_eq_false c4
  clear c4
  obtain rfl := Option.some.inj H
  go_enter Try.func75, Try.ntmps75
  go_wp2
  go_ret
  exact ⟨by first | rfl | (simp; done) | (simp [*]; done), by repeat (first | exact Drawn0.refl _ | apply Drawn0.step)⟩

/-! ### impl_IsPath: function 90 -/
def impl_IsPath.f (a0_0 : Int) (a0_1 : Int) (a0_2 : Int) (a0_3 : Int) : Option (Bool) := (impl_InRange.f a0_0 1 20).bind fun t283 => (if t283 = true then ((impl_InRange.f a0_1 1 3).bind fun t284 => (if t284 = true then ((impl_InRange.f a0_2 0 3).bind fun t285 => (if t285 = true then ((impl_InRange.f a0_3 0 3).bind fun t286 => (if t286 = true then (some ((a0_2 == a0_3) == (a0_1 == 2))) else (some false))) else (some false))) else (some false))) else (some false))
set_option maxHeartbeats 8000000 in
set_option maxRecDepth 100000 in
theorem impl_IsPath.calls (a0_0 : Int) (a0_1 : Int) (a0_2 : Int) (a0_3 : Int) (r : Bool) (w : World) (h : impl_IsPath.f a0_0 a0_1 a0_2 a0_3 = some r) :
  Calls Try.prog 90 #[.agg #[.int .i64 a0_0, .int .i64 a0_1, .int .i64 a0_2, .int .i64 a0_3]] w fun e w' => e = .returned (.bool r) ∧ Below w.heap.size w w' := by
 have hu50 := Try.underlying50
 have HB := Aside0.mk (Below.refl w.heap.size w)
 have H : ((impl_InRange.f a0_0 1 20).bind fun t283 => (if t283 = true then ((impl_InRange.f a0_1 1 3).bind fun t284 => (if t284 = true then ((impl_InRange.f a0_2 0 3).bind fun t285 => (if t285 = true then ((impl_InRange.f a0_3 0 3).bind fun t286 => (if t286 = true then (some ((a0_2 == a0_3) == (a0_1 == 2))) else (some false))) else (some false))) else (some false))) else (some false))) = some r := h
 clear h
 obtain ⟨t283, A2, H⟩ := bindE H
 try dsimp only at H
 by_cases c3 : t283 = true
 ·
  subst c3
  have H1 : ((impl_InRange.f a0_1 1 3).bind fun t284 => (if t284 = true then ((impl_InRange.f a0_2 0 3).bind fun t285 => (if t285 = true then ((impl_InRange.f a0_3 0 3).bind fun t286 => (if t286 = true then (some ((a0_2 == a0_3) == (a0_1 == 2))) else (some false))) else (some false))) else (some false))) = some r := by rw [if_pos rfl] at H; exact H
  clear H
  have H := H1
  clear H1
  obtain ⟨t284, A4, H⟩ := bindE H
  try dsimp only at H
  by_cases c5 : t284 = true
  ·
   subst c5
   have H1 : ((impl_InRange.f a0_2 0 3).bind fun t285 => (if t285 = true then ((impl_InRange.f a0_3 0 3).bind fun t286 => (if t286 = true then (some ((a0_2 == a0_3) == (a0_1 == 2))) else (some false))) else (some false))) = some r := by rw [if_pos rfl] at H; exact H
   clear H
   have H := H1
   clear H1
   obtain ⟨t285, A6, H⟩ := bindE H
   try dsimp only at H
   by_cases c7 : t285 = true
   ·
    subst c7
    have H1 : ((impl_InRange.f a0_3 0 3).bind fun t286 => (if t286 = true then (some ((a0_2 == a0_3) == (a0_1 == 2))) else (some false))) = some r := by rw [if_pos rfl] at H; exact H
    clear H
    have H := H1
    clear H1
    obtain ⟨t286, A8, H⟩ := bindE H
    try dsimp only at H
    by_cases c9 : t286 = true
    ·
     subst c9
     have H1 : (some ((a0_2 == a0_3) == (a0_1 == 2))) = some r := by rw [if_pos rfl] at H; exact H
     clear H
     have H := H1
     clear H1
     obtain rfl := Option.some.inj H
     go_enter Try.func90, Try.ntmps90
     go_wp2_with (first | ((with_reducible refine gate_dst (N := 1) rfl ?_); refine bE (N := 1) (cs := #[.int .i64 a0_0, .int .i64 a0_1, .int .i64 a0_2, .int .i64 a0_3]) (t := 50) ?_; intro gb282 hg w10 hbox hb; have n0_ := Aside0.mk (below_step bA hb); have n1_ := Aside0.mk (hbox); have n2_ := Aside0.mk ((by rw [hg]; exact (below_size bA) : w.heap.size ≤ gb282)); have n3_ := Aside0.mk ((by rw [hg]; exact (below_size bA) : w.heap.size ≤ gb282)); clear HB; have HB := n0_; have BK282 := n1_; have GW282 := n2_; have GE282 := n3_; clear n0_ n1_ n2_ n3_; clear hb hbox hg; have hcz11_0 : w10.cell? ⟨gb282, 0, none⟩ = some (.int .i64 a0_0) := bC BK282 0; have hcz11_1 : w10.cell? ⟨gb282, 1, none⟩ = some (.int .i64 a0_1) := bC BK282 1; have hcz11_2 : w10.cell? ⟨gb282, 2, none⟩ = some (.int .i64 a0_2) := bC BK282 2; have hcz11_3 : w10.cell? ⟨gb282, 3, none⟩ = some (.int .i64 a0_3) := bC BK282 3; have hfz11_0 := blk_frozen BK282.out 0; have hfz11_1 := blk_frozen BK282.out 1; have hfz11_2 := blk_frozen BK282.out 2; have hfz11_3 := blk_frozen BK282.out 3) | ((with_reducible refine gate_callee (f := 75) rfl ?_); refine gL (some 5) Try.func75 #[.int .i64 a0_0, .int .i64 1, .int .i64 20] ?_; (with_reducible refine (impl_InRange.calls a0_0 1 20 true _ A2.out).mono ?_); rintro e w' ⟨rfl, ⟨nd, rfl⟩⟩; refine ⟨_, rfl, ?_⟩) | (go_at_call 75; (with_reducible refine (impl_InRange.calls a0_1 1 3 true _ A4.out).mono ?_); rintro e w' ⟨rfl, ⟨nd, rfl⟩⟩) | (go_at_call 75; (with_reducible refine (impl_InRange.calls a0_2 0 3 true _ A6.out).mono ?_); rintro e w' ⟨rfl, ⟨nd, rfl⟩⟩) | (go_at_call 75; (with_reducible refine (impl_InRange.calls a0_3 0 3 true _ A8.out).mono ?_); rintro e w' ⟨rfl, ⟨nd, rfl⟩⟩))
     go_ret
     exact ⟨rA, bG⟩
    ·
     replace c9 := Bool.eq_false_iff.mpr c9
     subst c9
     have H1 : (some false) = some r := by rw [if_neg (show ¬ (false = true) by decide)] at H; exact H
     clear H
     have H := H1
     clear H1
     obtain rfl := Option.some.inj H
     go_enter Try.func90, Try.ntmps90
     go_wp2_with (first | ((with_reducible refine gate_dst (N := 1) rfl ?_); refine bE (N := 1) (cs := #[.int .i64 a0_0, .int .i64 a0_1, .int .i64 a0_2, .int .i64 a0_3]) (t := 50) ?_; intro gb282 hg w12 hbox hb; have n0_ := Aside0.mk (below_step bA hb); have n1_ := Aside0.mk (hbox); have n2_ := Aside0.mk ((by rw [hg]; exact (below_size bA) : w.heap.size ≤ gb282)); have n3_ := Aside0.mk ((by rw [hg]; exact (below_size bA) : w.heap.size ≤ gb282)); clear HB; have HB := n0_; have BK282 := n1_; have GW282 := n2_; have GE282 := n3_; clear n0_ n1_ n2_ n3_; clear hb hbox hg; have hcz13_0 : w12.cell? ⟨gb282, 0, none⟩ = some (.int .i64 a0_0) := bC BK282 0; have hcz13_1 : w12.cell? ⟨gb282, 1, none⟩ = some (.int .i64 a0_1) := bC BK282 1; have hcz13_2 : w12.cell? ⟨gb282, 2, none⟩ = some (.int .i64 a0_2) := bC BK282 2; have hcz13_3 : w12.cell? ⟨gb282, 3, none⟩ = some (.int .i64 a0_3) := bC BK282 3; have hfz13_0 := blk_frozen BK282.out 0; have hfz13_1 := blk_frozen BK282.out 1; have hfz13_2 := blk_frozen BK282.out 2; have hfz13_3 := blk_frozen BK282.out 3) | ((with_reducible refine gate_callee (f := 75) rfl ?_); refine gL (some 5) Try.func75 #[.int .i64 a0_0, .int .i64 1, .int .i64 20] ?_; (with_reducible refine (impl_InRange.calls a0_0 1 20 true _ A2.out).mono ?_); rintro e w' ⟨rfl, ⟨nd, rfl⟩⟩; refine ⟨_, rfl, ?_⟩) | (go_at_call 75; (with_reducible refine (impl_InRange.calls a0_1 1 3 true _ A4.out).mono ?_); rintro e w' ⟨rfl, ⟨nd, rfl⟩⟩) | (go_at_call 75; (with_reducible refine (impl_InRange.calls a0_2 0 3 true _ A6.out).mono ?_); rintro e w' ⟨rfl, ⟨nd, rfl⟩⟩) | (go_at_call 75; (with_reducible refine (impl_InRange.calls a0_3 0 3 false _ A8.out).mono ?_); rintro e w' ⟨rfl, ⟨nd, rfl⟩⟩))
     go_ret
     exact ⟨rA, bG⟩
   ·
    replace c7 := Bool.eq_false_iff.mpr c7
    subst c7
    have H1 : (some false) = some r := by rw [if_neg (show ¬ (false = true) by decide)] at H; exact H
    clear H
    have H := H1
    clear H1
    obtain rfl := Option.some.inj H
    go_enter Try.func90, Try.ntmps90
    go_wp2_with (first | ((with_reducible refine gate_dst (N := 1) rfl ?_); refine bE (N := 1) (cs := #[.int .i64 a0_0, .int .i64 a0_1, .int .i64 a0_2, .int .i64 a0_3]) (t := 50) ?_; intro gb282 hg w14 hbox hb; have n0_ := Aside0.mk (below_step bA hb); have n1_ := Aside0.mk (hbox); have n2_ := Aside0.mk ((by rw [hg]; exact (below_size bA) : w.heap.size ≤ gb282)); have n3_ := Aside0.mk ((by rw [hg]; exact (below_size bA) : w.heap.size ≤ gb282)); clear HB; have HB := n0_; have BK282 := n1_; have GW282 := n2_; have GE282 := n3_; clear n0_ n1_ n2_ n3_; clear hb hbox hg; have hcz15_0 : w14.cell? ⟨gb282, 0, none⟩ = some (.int .i64 a0_0) := bC BK282 0; have hcz15_1 : w14.cell? ⟨gb282, 1, none⟩ = some (.int .i64 a0_1) := bC BK282 1; have hcz15_2 : w14.cell? ⟨gb282, 2, none⟩ = some (.int .i64 a0_2) := bC BK282 2; have hcz15_3 : w14.cell? ⟨gb282, 3, none⟩ = some (.int .i64 a0_3) := bC BK282 3; have hfz15_0 := blk_frozen BK282.out 0; have hfz15_1 := blk_frozen BK282.out 1; have hfz15_2 := blk_frozen BK282.out 2; have hfz15_3 := blk_frozen BK282.out 3) | ((with_reducible refine gate_callee (f := 75) rfl ?_); refine gL (some 5) Try.func75 #[.int .i64 a0_0, .int .i64 1, .int .i64 20] ?_; (with_reducible refine (impl_InRange.calls a0_0 1 20 true _ A2.out).mono ?_); rintro e w' ⟨rfl, ⟨nd, rfl⟩⟩; refine ⟨_, rfl, ?_⟩) | (go_at_call 75; (with_reducible refine (impl_InRange.calls a0_1 1 3 true _ A4.out).mono ?_); rintro e w' ⟨rfl, ⟨nd, rfl⟩⟩) | (go_at_call 75; (with_reducible refine (impl_InRange.calls a0_2 0 3 false _ A6.out).mono ?_); rintro e w' ⟨rfl, ⟨nd, rfl⟩⟩))
    go_ret
    exact ⟨rA, bG⟩
  ·
   replace c5 := Bool.eq_false_iff.mpr c5
   subst c5
   have H1 : (some false) = some r := by rw [if_neg (show ¬ (false = true) by decide)] at H; exact H
   clear H
   have H := H1
   clear H1
   obtain rfl := Option.some.inj H
   go_enter Try.func90, Try.ntmps90
   go_wp2_with (first | ((with_reducible refine gate_dst (N := 1) rfl ?_); refine bE (N := 1) (cs := #[.int .i64 a0_0, .int .i64 a0_1, .int .i64 a0_2, .int .i64 a0_3]) (t := 50) ?_; intro gb282 hg w16 hbox hb; have n0_ := Aside0.mk (below_step bA hb); have n1_ := Aside0.mk (hbox); have n2_ := Aside0.mk ((by rw [hg]; exact (below_size bA) : w.heap.size ≤ gb282)); have n3_ := Aside0.mk ((by rw [hg]; exact (below_size bA) : w.heap.size ≤ gb282)); clear HB; have HB := n0_; have BK282 := n1_; have GW282 := n2_; have GE282 := n3_; clear n0_ n1_ n2_ n3_; clear hb hbox hg; have hcz17_0 : w16.cell? ⟨gb282, 0, none⟩ = some (.int .i64 a0_0) := bC BK282 0; have hcz17_1 : w16.cell? ⟨gb282, 1, none⟩ = some (.int .i64 a0_1) := bC BK282 1; have hcz17_2 : w16.cell? ⟨gb282, 2, none⟩ = some (.int .i64 a0_2) := bC BK282 2; have hcz17_3 : w16.cell? ⟨gb282, 3, none⟩ = some (.int .i64 a0_3) := bC BK282 3; have hfz17_0 := blk_frozen BK282.out 0; have hfz17_1 := blk_frozen BK282.out 1; have hfz17_2 := blk_frozen BK282.out 2; have hfz17_3 := blk_frozen BK282.out 3) | ((with_reducible refine gate_callee (f := 75) rfl ?_); refine gL (some 5) Try.func75 #[.int .i64 a0_0, .int .i64 1, .int .i64 20] ?_; (with_reducible refine (impl_InRange.calls a0_0 1 20 true _ A2.out).mono ?_); rintro e w' ⟨rfl, ⟨nd, rfl⟩⟩; refine ⟨_, rfl, ?_⟩) | (go_at_call 75; (with_reducible refine (impl_InRange.calls a0_1 1 3 false _ A4.out).mono ?_); rintro e w' ⟨rfl, ⟨nd, rfl⟩⟩))
   go_ret
   exact ⟨rA, bG⟩
 ·
  replace c3 := Bool.eq_false_iff.mpr c3
  subst c3
  have H1 : (some false) = some r := by rw [if_neg (show ¬ (false = true) by decide)] at H; exact H
  clear H
  have H := H1
  clear H1
  obtain rfl := Option.some.inj H
  go_enter Try.func90, Try.ntmps90
  go_wp2_with (first | ((with_reducible refine gate_dst (N := 1) rfl ?_); refine bE (N := 1) (cs := #[.int .i64 a0_0, .int .i64 a0_1, .int .i64 a0_2, .int .i64 a0_3]) (t := 50) ?_; intro gb282 hg w18 hbox hb; have n0_ := Aside0.mk (below_step bA hb); have n1_ := Aside0.mk (hbox); have n2_ := Aside0.mk ((by rw [hg]; exact (below_size bA) : w.heap.size ≤ gb282)); have n3_ := Aside0.mk ((by rw [hg]; exact (below_size bA) : w.heap.size ≤ gb282)); clear HB; have HB := n0_; have BK282 := n1_; have GW282 := n2_; have GE282 := n3_; clear n0_ n1_ n2_ n3_; clear hb hbox hg; have hcz19_0 : w18.cell? ⟨gb282, 0, none⟩ = some (.int .i64 a0_0) := bC BK282 0; have hcz19_1 : w18.cell? ⟨gb282, 1, none⟩ = some (.int .i64 a0_1) := bC BK282 1; have hcz19_2 : w18.cell? ⟨gb282, 2, none⟩ = some (.int .i64 a0_2) := bC BK282 2; have hcz19_3 : w18.cell? ⟨gb282, 3, none⟩ = some (.int .i64 a0_3) := bC BK282 3; have hfz19_0 := blk_frozen BK282.out 0; have hfz19_1 := blk_frozen BK282.out 1; have hfz19_2 := blk_frozen BK282.out 2; have hfz19_3 := blk_frozen BK282.out 3) | ((with_reducible refine gate_callee (f := 75) rfl ?_); refine gL (some 5) Try.func75 #[.int .i64 a0_0, .int .i64 1, .int .i64 20] ?_; (with_reducible refine (impl_InRange.calls a0_0 1 20 false _ A2.out).mono ?_); rintro e w' ⟨rfl, ⟨nd, rfl⟩⟩; refine ⟨_, rfl, ?_⟩))
  go_ret
  exact ⟨rA, bG⟩

/-! ### impl_ArePaths: function 32 -/
def impl_ArePaths.l0 : Nat → List (S50) → List (S50) → Int → Int → Option (Bool)
 | 0, _, _, _, _ => none
 | k + 1, x0, x8, x9, x10 => if x10 < x9 then (if 0 ≤ x10 then (if x10 < (x8.length : Int) then ((impl_IsPath.f ((rd_T50 x8 x10).f0) ((rd_T50 x8 x10).f1) ((rd_T50 x8 x10).f2) ((rd_T50 x8 x10).f3)).bind fun t289 => (if t289 = true then (if x10 > 0 then (if 0 ≤ (wrap64 (x10 - 1)) then (if (wrap64 (x10 - 1)) < (x0.length : Int) then (if ((rd_T50 x8 x10).f0) ≤ ((rd_T50 x0 (wrap64 (x10 - 1))).f0) then (some false) else (impl_ArePaths.l0 k x0 x8 x9 (wrap64 (x10 + 1)))) else (none)) else (none)) else (impl_ArePaths.l0 k x0 x8 x9 (wrap64 (x10 + 1)))) else (some false))) else (none)) else (none)) else (some true)
def impl_ArePaths.f (k : Nat) (l0 : List (S50)) : Option (Bool) := if (l0.length : Int) > 12 then (some false) else (impl_ArePaths.l0 k l0 l0 (l0.length : Int) 0)
theorem impl_ArePaths.mono_l : ∀ k, (∀ y0 y1 y2 y3, LeO (impl_ArePaths.l0 k y0 y1 y2 y3) (impl_ArePaths.l0 (k + 1) y0 y1 y2 y3))
 | 0 => fun _ _ _ _ r h => by simp [impl_ArePaths.l0] at h
 | k + 1 => by
  have ih0 := impl_ArePaths.mono_l k
  ·
   intro y0 y1 y2 y3
   unfold impl_ArePaths.l0
   repeat' first | (with_reducible first | exact LeO.refl _ | exact LeO.none _ | refine LeO.ite ?_ ?_ | refine LeO.bind ?_ (fun _ => ?_) | exact ih0 _ _ _ _)
theorem impl_ArePaths.mono : ∀ a0 k, LeO (impl_ArePaths.f k a0) (impl_ArePaths.f (k + 1) a0) := by
 intro a0 k
 have ih0 := impl_ArePaths.mono_l k
 unfold impl_ArePaths.f
 repeat' first | (with_reducible first | exact LeO.refl _ | exact LeO.none _ | refine LeO.ite ?_ ?_ | refine LeO.bind ?_ (fun _ => ?_) | exact ih0 _ _ _ _)
def impl_ArePaths.T6 : Bool × List (List Nat × List Nat) := (true, [([], []), ([0], [0]), ([1], [1]), ([2, 1], [2]), ([3], [3]), ([4, 3], [3, 4]), ([5, 3, 3], [3, 5]), ([6], [6]), ([7, 6], [6, 7]), ([6], [6]), ([6], [6]), ([10, 6], [6, 10]), ([9, 11, 6], [6, 9, 11]), ([12, 6], [6, 12]), ([13, 6], [6, 13]), ([8, 14, 6], [6, 8, 14]), ([6, 15, 3], [3, 6, 15]), ([3, 16], [3, 16])])
def impl_ArePaths.B6 : List Nat := [0, 1, 3, 7, 15, 31, 63, 127, 255, 127, 127, 1151, 3711, 7807, 15999, 32767, 65535, 131071]
theorem impl_ArePaths.tab6 : rtab .any (opsOf Try.f32 6) = impl_ArePaths.T6 := by kernel_rfl
theorem impl_ArePaths.bits6 : waitsOk impl_ArePaths.T6.2 impl_ArePaths.B6 = true := by kernel_rfl
set_option maxHeartbeats 8000000 in
set_option maxRecDepth 100000 in
theorem impl_ArePaths.calls (k : Nat) (A0 : Option Addr) (c0 : Nat) (l0 : List (S50)) (r : Bool) (w : World) (hr0 : Kd.C k50 w A0 l0.length l0) (hc0 : l0.length ≤ c0) (h : impl_ArePaths.f k l0 = some r) :
  Calls Try.prog 32 #[.slice A0 l0.length c0] w fun e w' => e = .returned (.bool r) ∧ Below w.heap.size w w' := by
 have hu50 := Try.underlying50
 have HR0 := Aside0.mk hr0
 have HC0 := Aside0.mk hc0
 clear hr0 hc0
 have HB := Aside0.mk (Below.refl w.heap.size w)
 have H : (if (l0.length : Int) > 12 then (some false) else (impl_ArePaths.l0 k l0 l0 (l0.length : Int) 0)) = some r := h
 clear h
 by_cases c2 : (l0.length : Int) > 12
 ·
  rw [if_pos c2] at H
  have c2b0 := decide_eq_true c2
  have c2b1 : decide (12 < l0.length) = true := decide_eq_true (by omega)
  clear c2
  obtain rfl := Option.some.inj H
  go_enter Try.func32, Try.ntmps32
  go_wp2
  go_ret
  exact ⟨rA, bA⟩
 ·
  rw [if_neg c2] at H
  have c2b0 := decide_eq_false c2
  have c2b1 : decide (12 < l0.length) = false := decide_eq_false (by omega)
  clear c2
  have H' := Aside0.mk H
  clear H
  go_enter Try.func32, Try.ntmps32
  go_wp2
  go_loopg [10] k (fun kq v10 w' => ∃ (x10_1 : Int), v10 = .int .i64 x10_1 ∧ Aside0 (impl_ArePaths.l0 kq l0 l0 (l0.length : Int) x10_1 = some r) ∧ Aside0 (kq ≤ k) ∧ Aside0 (Below w.heap.size w w'))
  case atStart => exact ⟨(0), rS, H', ⟨Nat.le_refl _⟩, ⟨bA⟩⟩
  case round =>
   clear H'
   try clear c2
   try clear c2b0
   try clear c2b1
   try clear p2
   obtain ⟨x10_1, rfl, HA, HK1, HB⟩ := hrel
   cases gk with
   | zero => exact absurd HA.out (by simp [impl_ArePaths.l0])
   | succ k1 =>
    have H := HA.out
    clear HA
    simp only [impl_ArePaths.l0] at H
    by_cases c3 : x10_1 < (l0.length : Int)
    ·
     rw [if_pos c3] at H
     have c3b0 := decide_eq_true c3
     clear c3
     have c4 : 0 ≤ x10_1 := ifN H
     replace H := ifT H
     have c4b0 := decide_eq_true c4
     clear c4
     have c5 : x10_1 < (l0.length : Int) := ifN H
     replace H := ifT H
     have c5b0 := decide_eq_true c5
     clear c5
     obtain ⟨t289, A6, H⟩ := bindE H
     try dsimp only at H
     by_cases c7 : t289 = true
     ·
      subst c7
      have H1 : (if x10_1 > 0 then (if 0 ≤ (wrap64 (x10_1 - 1)) then (if (wrap64 (x10_1 - 1)) < (l0.length : Int) then (if ((rd_T50 l0 x10_1).f0) ≤ ((rd_T50 l0 (wrap64 (x10_1 - 1))).f0) then (some false) else (impl_ArePaths.l0 k1 l0 l0 (l0.length : Int) (wrap64 (x10_1 + 1)))) else (none)) else (none)) else (impl_ArePaths.l0 k1 l0 l0 (l0.length : Int) (wrap64 (x10_1 + 1)))) = some r := by rw [if_pos rfl] at H; exact H
      clear H
      have H := H1
      clear H1
      by_cases c8 : x10_1 > 0
      ·
       rw [if_pos c8] at H
       have c8b0 := decide_eq_true c8
       clear c8
       obtain ⟨ji9, hji9⟩ : ∃ j_ : Int, (wrap64 (x10_1 - 1)) = j_ := ⟨_, rfl⟩
       replace H : (if 0 ≤ (ji9) then (if (ji9) < (l0.length : Int) then (if ((rd_T50 l0 x10_1).f0) ≤ ((rd_T50 l0 (ji9)).f0) then (some false) else (impl_ArePaths.l0 k1 l0 l0 (l0.length : Int) (wrap64 (x10_1 + 1)))) else (none)) else (none)) = some r := by first | (rw [hji9] at H; exact H) | (simp only [hji9] at H ⊢; exact H)
       (try rw [hji9] at A6)
       have hji9w : (IntKind.i64.wrap (x10_1 - 1)) = ji9 := (i64_w _).trans hji9
       have c10 : 0 ≤ (ji9) := ifN H
       replace H := ifT H
       have c10b0 := decide_eq_true c10
       clear c10
       have c11 : (ji9) < (l0.length : Int) := ifN H
       replace H := ifT H
       have c11b0 := decide_eq_true c11
       clear c11
       by_cases c12 : ((rd_T50 l0 x10_1).f0) ≤ ((rd_T50 l0 (ji9)).f0)
       ·
        rw [if_pos c12] at H
        have c12b0 := decide_eq_true c12
        clear c12
        obtain rfl := Option.some.inj H
        have p287 : 0 ≤ (x10_1 : Int) := dA
        have q287 : x10_1 < (l0.length : Int) := dA
        obtain ⟨ad287, e287, hx287_0, hx287_1, hx287_2, hx287_3⟩ := at_T50 HR0.out x10_1 p287 q287
        cases e287
        replace hx287_0 := hC HB hx287_0
        replace hx287_1 := hC HB hx287_1
        replace hx287_2 := hC HB hx287_2
        replace hx287_3 := hC HB hx287_3
        replace p287 := eq_true p287
        replace q287 := eq_true q287
        try go_wp2_with (first | ((with_reducible refine gate_dst (N := 4) rfl ?_); refine bE (N := 4) (cs := #[.int .i64 0, .int .i64 0, .int .i64 0, .int .i64 0]) (t := 50) ?_; intro gb288 hg w13 hbox hb; have n0_ := Aside0.mk (below_step bA hb); have n1_ := Aside0.mk (hbox); have n2_ := Aside0.mk ((by rw [hg]; exact (below_size bA) : w.heap.size ≤ gb288)); have n3_ := Aside0.mk ((by rw [hg]; exact (below_size bA) : w.heap.size ≤ gb288)); clear HB; have HB := n0_; have BK288 := n1_; have GW288 := n2_; have GE288 := n3_; clear n0_ n1_ n2_ n3_; clear hb hbox hg; obtain ⟨hcz14_0, hcz14_1, hcz14_2, hcz14_3, hfz14_0, hfz14_1, hfz14_2, hfz14_3⟩ := blkc4 BK288))
        have n0_ : Aside0 (((((w13.setCell ⟨gb288, 0, none⟩ (.int .i64 ((rd_T50 l0 x10_1).f0))).setCell ⟨gb288, 1, none⟩ (.int .i64 ((rd_T50 l0 x10_1).f1))).setCell ⟨gb288, 2, none⟩ (.int .i64 ((rd_T50 l0 x10_1).f2))).setCell ⟨gb288, 3, none⟩ (.int .i64 ((rd_T50 l0 x10_1).f3))).heap[gb288]? = some (.cells #[.int .i64 ((rd_T50 l0 x10_1).f0), .int .i64 ((rd_T50 l0 x10_1).f1), .int .i64 ((rd_T50 l0 x10_1).f2), .int .i64 ((rd_T50 l0 x10_1).f3)] 50 (0, 0))) := ⟨by (with_reducible repeat (first | refine blk_drewN ?_ _ | refine blk_drew ?_ | refine blk_alloc ?_ _)); refine blk_put (cs := #[.int .i64 ((rd_T50 l0 x10_1).f0), .int .i64 ((rd_T50 l0 x10_1).f1), .int .i64 ((rd_T50 l0 x10_1).f2), .int .i64 0]) ?_ 3 _ rfl; (with_reducible repeat (first | refine blk_drewN ?_ _ | refine blk_drew ?_ | refine blk_alloc ?_ _)); refine blk_put (cs := #[.int .i64 ((rd_T50 l0 x10_1).f0), .int .i64 ((rd_T50 l0 x10_1).f1), .int .i64 0, .int .i64 0]) ?_ 2 _ rfl; (with_reducible repeat (first | refine blk_drewN ?_ _ | refine blk_drew ?_ | refine blk_alloc ?_ _)); refine blk_put (cs := #[.int .i64 ((rd_T50 l0 x10_1).f0), .int .i64 0, .int .i64 0, .int .i64 0]) ?_ 1 _ rfl; (with_reducible repeat (first | refine blk_drewN ?_ _ | refine blk_drew ?_ | refine blk_alloc ?_ _)); refine blk_put (cs := #[.int .i64 0, .int .i64 0, .int .i64 0, .int .i64 0]) ?_ 0 _ rfl; (with_reducible repeat (first | refine blk_drewN ?_ _ | refine blk_drew ?_ | refine blk_alloc ?_ _)); exact BK288.out⟩
        have n1_ : Aside0 (Below w.heap.size w ((((w13.setCell ⟨gb288, 0, none⟩ (.int .i64 ((rd_T50 l0 x10_1).f0))).setCell ⟨gb288, 1, none⟩ (.int .i64 ((rd_T50 l0 x10_1).f1))).setCell ⟨gb288, 2, none⟩ (.int .i64 ((rd_T50 l0 x10_1).f2))).setCell ⟨gb288, 3, none⟩ (.int .i64 ((rd_T50 l0 x10_1).f3)))) := ⟨bG⟩
        (try clear BK288)
        (try clear HB)
        generalize ((((w13.setCell ⟨gb288, 0, none⟩ (.int .i64 ((rd_T50 l0 x10_1).f0))).setCell ⟨gb288, 1, none⟩ (.int .i64 ((rd_T50 l0 x10_1).f1))).setCell ⟨gb288, 2, none⟩ (.int .i64 ((rd_T50 l0 x10_1).f2))).setCell ⟨gb288, 3, none⟩ (.int .i64 ((rd_T50 l0 x10_1).f3))) = w15 at n0_ n1_ ⊢
        have BK288 := n0_
        have HB := n1_
        clear n0_ n1_
        replace BK288 := Aside0.mk (blk_drew BK288.out)
        have HBo := HB
        replace HB := Aside0.mk (below_drew1 HB.out)
        have p290 : 0 ≤ ((ji9) : Int) := dA
        have q290 : (ji9) < (l0.length : Int) := dA
        obtain ⟨ad290, e290, hx290_0, hx290_1, hx290_2, hx290_3⟩ := at_T50 HR0.out (ji9) p290 q290
        have hw290_3 := hx290_3
        have hw290_2 := hx290_2
        have hw290_1 := hx290_1
        have hw290_0 := hx290_0
        obtain rfl : ad287 = ad290 := (by injection e290)
        replace hx290_0 := hC HB hx290_0
        replace hx290_1 := hC HB hx290_1
        replace hx290_2 := hC HB hx290_2
        replace hx290_3 := hC HB hx290_3
        replace p290 := eq_true p290
        replace q290 := eq_true q290
        refine start_ (n := 18) (S := fun w' => w'.cell? ⟨gb288, 0, none⟩ = some (.int .i64 ((rd_T50 l0 x10_1).f0)) ∧ w'.cell? ⟨gb288, 1, none⟩ = some (.int .i64 ((rd_T50 l0 x10_1).f1)) ∧ w'.cell? ⟨gb288, 2, none⟩ = some (.int .i64 ((rd_T50 l0 x10_1).f2)) ∧ w'.cell? ⟨gb288, 3, none⟩ = some (.int .i64 ((rd_T50 l0 x10_1).f3)) ∧ w'.cell? (ad287.add (((ji9)).toNat * 4)) = some (.int .i64 ((rd_T50 l0 (ji9)).f0)) ∧ w'.cell? ⟨(ad287.add (((ji9)).toNat * 4)).block, (ad287.add (((ji9)).toNat * 4)).off + 1, none⟩ = some (.int .i64 ((rd_T50 l0 (ji9)).f1)) ∧ w'.cell? ⟨(ad287.add (((ji9)).toNat * 4)).block, (ad287.add (((ji9)).toNat * 4)).off + 2, none⟩ = some (.int .i64 ((rd_T50 l0 (ji9)).f2)) ∧ w'.cell? ⟨(ad287.add (((ji9)).toNat * 4)).block, (ad287.add (((ji9)).toNat * 4)).off + 3, none⟩ = some (.int .i64 ((rd_T50 l0 (ji9)).f3))) (ds := []) (mb 18 0) (by kernel_rfl) rfl rfl ⟨bC BK288 0, bC BK288 1, bC BK288 2, bC BK288 3, (hC HB hw290_0), (hC HB hw290_1), (hC HB hw290_2), (hC HB hw290_3)⟩ (fun hHeld => ?_); refine with_tabW impl_ArePaths.tab6 impl_ArePaths.bits6 (fun HT_ HW_ => ?_)
        generalize w15.drew = w16 at BK288 HB hx290_0 hx290_1 hx290_2 hx290_3 hHeld ⊢
        refine tA8 (i := 0) (N := some 15) (mb 18 1) HT_ HW_ hHeld ?_
        refine oA (i := 1) (N := some 16) (mb 18 3) HT_ (fun K hK => ?_)
        refine gA Try.func90 #[.agg #[.int .i64 ((rd_T50 l0 x10_1).f0), .int .i64 ((rd_T50 l0 x10_1).f1), .int .i64 ((rd_T50 l0 x10_1).f2), .int .i64 ((rd_T50 l0 x10_1).f3)]] ?_
        with_reducible refine (impl_IsPath.calls ((rd_T50 l0 x10_1).f0) ((rd_T50 l0 x10_1).f1) ((rd_T50 l0 x10_1).f2) ((rd_T50 l0 x10_1).f3) true _ A6.out).mono ?_
        rintro e w17 ⟨rfl, hb⟩
        refine ⟨_, rfl, ?_⟩
        replace BK288 := Aside0.mk (blk_below (g := gb288) (bK BK288) hb)
        replace HB := Aside0.mk (below_step bG hb)
        (try clear hb)
        (try clear hb2)
        (try clear hk)
        (try clear hi)
        refine hK.out _ _ ⟨bC BK288 0, bC BK288 1, bC BK288 2, bC BK288 3, (hC HB hw290_0), (hC HB hw290_1), (hC HB hw290_2), (hC HB hw290_3)⟩ (fun hHeld => ?_)
        clear hK K
        refine nB ?_
        refine pA (i := 2) (N := some 17) (mb 18 7) HT_ ?_
        refine pA (i := 3) (N := some 18) (mb 18 15) HT_ ?_
        refine pA (i := 4) (N := some 19) (mb 18 31) HT_ ?_
        refine pA (i := 5) (N := some 20) (mb 18 63) HT_ ?_
        refine pA (i := 6) (N := some 21) (mb 18 127) HT_ ?_
        refine pA (i := 7) (N := some 22) (mb 18 255) HT_ ?_
        refine pA (i := 9) (N := some 24) (mb 18 767) HT_ ?_
        refine pA (i := 10) (N := some 25) (mb 18 1791) HT_ ?_
        refine pA (i := 11) (N := some 26) (mb 18 3839) HT_ ?_
        refine pA (i := 12) (N := some 27) (mb 18 7935) HT_ ?_
        refine pA (i := 13) (N := some 28) (mb 18 16127) HT_ ?_
        refine tA8 (i := 8) (N := some 23) (mb 18 16383) HT_ HW_ hHeld ?_
        refine tA8 (i := 14) (N := some 29) (mb 18 32767) HT_ HW_ hHeld ?_
        refine pA (i := 15) (N := some 30) (mb 18 65535) HT_ ?_
        refine pA (i := 16) (N := some 31) (mb 18 131071) HT_ ?_
        refine pA (i := 17) (N := some 32) (mb 18 262143) HT_ ?_
        refine eA HT_ ?_
        try go_wp2
        go_ret
        exact ⟨by first | rfl | (simp [errW_none, errW_some] <;> rfl) | (simp only [← hji9]; first | rfl | (simp [errW_none, errW_some] <;> rfl)) | (simp [*, errW_none, errW_some] <;> rfl), bG⟩
       ·
        rw [if_neg c12] at H
        have c12b0 := decide_eq_false c12
        clear c12
        have H' := Aside0.mk H
        clear H
        have p287 : 0 ≤ (x10_1 : Int) := dA
        have q287 : x10_1 < (l0.length : Int) := dA
        obtain ⟨ad287, e287, hx287_0, hx287_1, hx287_2, hx287_3⟩ := at_T50 HR0.out x10_1 p287 q287
        cases e287
        replace hx287_0 := hC HB hx287_0
        replace hx287_1 := hC HB hx287_1
        replace hx287_2 := hC HB hx287_2
        replace hx287_3 := hC HB hx287_3
        replace p287 := eq_true p287
        replace q287 := eq_true q287
        try go_wp2_with (first | ((with_reducible refine gate_dst (N := 4) rfl ?_); refine bE (N := 4) (cs := #[.int .i64 0, .int .i64 0, .int .i64 0, .int .i64 0]) (t := 50) ?_; intro gb288 hg w18 hbox hb; have n0_ := Aside0.mk (below_step bA hb); have n1_ := Aside0.mk (hbox); have n2_ := Aside0.mk ((by rw [hg]; exact (below_size bA) : w.heap.size ≤ gb288)); have n3_ := Aside0.mk ((by rw [hg]; exact (below_size bA) : w.heap.size ≤ gb288)); clear HB; have HB := n0_; have BK288 := n1_; have GW288 := n2_; have GE288 := n3_; clear n0_ n1_ n2_ n3_; clear hb hbox hg; obtain ⟨hcz19_0, hcz19_1, hcz19_2, hcz19_3, hfz19_0, hfz19_1, hfz19_2, hfz19_3⟩ := blkc4 BK288))
        have n0_ : Aside0 (((((w18.setCell ⟨gb288, 0, none⟩ (.int .i64 ((rd_T50 l0 x10_1).f0))).setCell ⟨gb288, 1, none⟩ (.int .i64 ((rd_T50 l0 x10_1).f1))).setCell ⟨gb288, 2, none⟩ (.int .i64 ((rd_T50 l0 x10_1).f2))).setCell ⟨gb288, 3, none⟩ (.int .i64 ((rd_T50 l0 x10_1).f3))).heap[gb288]? = some (.cells #[.int .i64 ((rd_T50 l0 x10_1).f0), .int .i64 ((rd_T50 l0 x10_1).f1), .int .i64 ((rd_T50 l0 x10_1).f2), .int .i64 ((rd_T50 l0 x10_1).f3)] 50 (0, 0))) := ⟨by (with_reducible repeat (first | refine blk_drewN ?_ _ | refine blk_drew ?_ | refine blk_alloc ?_ _)); refine blk_put (cs := #[.int .i64 ((rd_T50 l0 x10_1).f0), .int .i64 ((rd_T50 l0 x10_1).f1), .int .i64 ((rd_T50 l0 x10_1).f2), .int .i64 0]) ?_ 3 _ rfl; (with_reducible repeat (first | refine blk_drewN ?_ _ | refine blk_drew ?_ | refine blk_alloc ?_ _)); refine blk_put (cs := #[.int .i64 ((rd_T50 l0 x10_1).f0), .int .i64 ((rd_T50 l0 x10_1).f1), .int .i64 0, .int .i64 0]) ?_ 2 _ rfl; (with_reducible repeat (first | refine blk_drewN ?_ _ | refine blk_drew ?_ | refine blk_alloc ?_ _)); refine blk_put (cs := #[.int .i64 ((rd_T50 l0 x10_1).f0), .int .i64 0, .int .i64 0, .int .i64 0]) ?_ 1 _ rfl; (with_reducible repeat (first | refine blk_drewN ?_ _ | refine blk_drew ?_ | refine blk_alloc ?_ _)); refine blk_put (cs := #[.int .i64 0, .int .i64 0, .int .i64 0, .int .i64 0]) ?_ 0 _ rfl; (with_reducible repeat (first | refine blk_drewN ?_ _ | refine blk_drew ?_ | refine blk_alloc ?_ _)); exact BK288.out⟩
        have n1_ : Aside0 (Below w.heap.size w ((((w18.setCell ⟨gb288, 0, none⟩ (.int .i64 ((rd_T50 l0 x10_1).f0))).setCell ⟨gb288, 1, none⟩ (.int .i64 ((rd_T50 l0 x10_1).f1))).setCell ⟨gb288, 2, none⟩ (.int .i64 ((rd_T50 l0 x10_1).f2))).setCell ⟨gb288, 3, none⟩ (.int .i64 ((rd_T50 l0 x10_1).f3)))) := ⟨bG⟩
        (try clear BK288)
        (try clear HB)
        generalize ((((w18.setCell ⟨gb288, 0, none⟩ (.int .i64 ((rd_T50 l0 x10_1).f0))).setCell ⟨gb288, 1, none⟩ (.int .i64 ((rd_T50 l0 x10_1).f1))).setCell ⟨gb288, 2, none⟩ (.int .i64 ((rd_T50 l0 x10_1).f2))).setCell ⟨gb288, 3, none⟩ (.int .i64 ((rd_T50 l0 x10_1).f3))) = w20 at n0_ n1_ ⊢
        have BK288 := n0_
        have HB := n1_
        clear n0_ n1_
        replace BK288 := Aside0.mk (blk_drew BK288.out)
        have HBo := HB
        replace HB := Aside0.mk (below_drew1 HB.out)
        have p290 : 0 ≤ ((ji9) : Int) := dA
        have q290 : (ji9) < (l0.length : Int) := dA
        obtain ⟨ad290, e290, hx290_0, hx290_1, hx290_2, hx290_3⟩ := at_T50 HR0.out (ji9) p290 q290
        have hw290_3 := hx290_3
        have hw290_2 := hx290_2
        have hw290_1 := hx290_1
        have hw290_0 := hx290_0
        obtain rfl : ad287 = ad290 := (by injection e290)
        replace hx290_0 := hC HB hx290_0
        replace hx290_1 := hC HB hx290_1
        replace hx290_2 := hC HB hx290_2
        replace hx290_3 := hC HB hx290_3
        replace p290 := eq_true p290
        replace q290 := eq_true q290
        refine start_ (n := 18) (S := fun w' => w'.cell? ⟨gb288, 0, none⟩ = some (.int .i64 ((rd_T50 l0 x10_1).f0)) ∧ w'.cell? ⟨gb288, 1, none⟩ = some (.int .i64 ((rd_T50 l0 x10_1).f1)) ∧ w'.cell? ⟨gb288, 2, none⟩ = some (.int .i64 ((rd_T50 l0 x10_1).f2)) ∧ w'.cell? ⟨gb288, 3, none⟩ = some (.int .i64 ((rd_T50 l0 x10_1).f3)) ∧ w'.cell? (ad287.add (((ji9)).toNat * 4)) = some (.int .i64 ((rd_T50 l0 (ji9)).f0)) ∧ w'.cell? ⟨(ad287.add (((ji9)).toNat * 4)).block, (ad287.add (((ji9)).toNat * 4)).off + 1, none⟩ = some (.int .i64 ((rd_T50 l0 (ji9)).f1)) ∧ w'.cell? ⟨(ad287.add (((ji9)).toNat * 4)).block, (ad287.add (((ji9)).toNat * 4)).off + 2, none⟩ = some (.int .i64 ((rd_T50 l0 (ji9)).f2)) ∧ w'.cell? ⟨(ad287.add (((ji9)).toNat * 4)).block, (ad287.add (((ji9)).toNat * 4)).off + 3, none⟩ = some (.int .i64 ((rd_T50 l0 (ji9)).f3))) (ds := []) (mb 18 0) (by kernel_rfl) rfl rfl ⟨bC BK288 0, bC BK288 1, bC BK288 2, bC BK288 3, (hC HB hw290_0), (hC HB hw290_1), (hC HB hw290_2), (hC HB hw290_3)⟩ (fun hHeld => ?_); refine with_tabW impl_ArePaths.tab6 impl_ArePaths.bits6 (fun HT_ HW_ => ?_)
        generalize w20.drew = w21 at BK288 HB hx290_0 hx290_1 hx290_2 hx290_3 hHeld ⊢
        refine tA8 (i := 0) (N := some 15) (mb 18 1) HT_ HW_ hHeld ?_
        refine oA (i := 1) (N := some 16) (mb 18 3) HT_ (fun K hK => ?_)
        refine gA Try.func90 #[.agg #[.int .i64 ((rd_T50 l0 x10_1).f0), .int .i64 ((rd_T50 l0 x10_1).f1), .int .i64 ((rd_T50 l0 x10_1).f2), .int .i64 ((rd_T50 l0 x10_1).f3)]] ?_
        with_reducible refine (impl_IsPath.calls ((rd_T50 l0 x10_1).f0) ((rd_T50 l0 x10_1).f1) ((rd_T50 l0 x10_1).f2) ((rd_T50 l0 x10_1).f3) true _ A6.out).mono ?_
        rintro e w22 ⟨rfl, hb⟩
        refine ⟨_, rfl, ?_⟩
        replace BK288 := Aside0.mk (blk_below (g := gb288) (bK BK288) hb)
        replace HB := Aside0.mk (below_step bG hb)
        (try clear hb)
        (try clear hb2)
        (try clear hk)
        (try clear hi)
        refine hK.out _ _ ⟨bC BK288 0, bC BK288 1, bC BK288 2, bC BK288 3, (hC HB hw290_0), (hC HB hw290_1), (hC HB hw290_2), (hC HB hw290_3)⟩ (fun hHeld => ?_)
        clear hK K
        refine nB ?_
        refine pA (i := 2) (N := some 17) (mb 18 7) HT_ ?_
        refine pA (i := 3) (N := some 18) (mb 18 15) HT_ ?_
        refine pA (i := 4) (N := some 19) (mb 18 31) HT_ ?_
        refine pA (i := 5) (N := some 20) (mb 18 63) HT_ ?_
        refine pA (i := 6) (N := some 21) (mb 18 127) HT_ ?_
        refine pA (i := 7) (N := some 22) (mb 18 255) HT_ ?_
        refine pA (i := 9) (N := some 24) (mb 18 767) HT_ ?_
        refine pA (i := 10) (N := some 25) (mb 18 1791) HT_ ?_
        refine pA (i := 11) (N := some 26) (mb 18 3839) HT_ ?_
        refine pA (i := 12) (N := some 27) (mb 18 7935) HT_ ?_
        refine pA (i := 13) (N := some 28) (mb 18 16127) HT_ ?_
        refine tA8 (i := 8) (N := some 23) (mb 18 16383) HT_ HW_ hHeld ?_
        refine tA8 (i := 14) (N := some 29) (mb 18 32767) HT_ HW_ hHeld ?_
        refine pA (i := 15) (N := some 30) (mb 18 65535) HT_ ?_
        refine pA (i := 16) (N := some 31) (mb 18 131071) HT_ ?_
        refine pA (i := 17) (N := some 32) (mb 18 262143) HT_ ?_
        refine eA HT_ ?_
        try go_wp2
        go_roundg k1
        case measure => have := HK1.out; omega
        case rel => exact ⟨(wrap64 (x10_1 + 1)), rS, H', ⟨by have := HK1.out; omega⟩, ⟨bG⟩⟩
      ·
       rw [if_neg c8] at H
       have c8b0 := decide_eq_false c8
       clear c8
       have H' := Aside0.mk H
       clear H
       have p287 : 0 ≤ (x10_1 : Int) := dA
       have q287 : x10_1 < (l0.length : Int) := dA
       obtain ⟨ad287, e287, hx287_0, hx287_1, hx287_2, hx287_3⟩ := at_T50 HR0.out x10_1 p287 q287
       cases e287
       replace hx287_0 := hC HB hx287_0
       replace hx287_1 := hC HB hx287_1
       replace hx287_2 := hC HB hx287_2
       replace hx287_3 := hC HB hx287_3
       replace p287 := eq_true p287
       replace q287 := eq_true q287
       try go_wp2_with (first | ((with_reducible refine gate_dst (N := 4) rfl ?_); refine bE (N := 4) (cs := #[.int .i64 0, .int .i64 0, .int .i64 0, .int .i64 0]) (t := 50) ?_; intro gb288 hg w23 hbox hb; have n0_ := Aside0.mk (below_step bA hb); have n1_ := Aside0.mk (hbox); have n2_ := Aside0.mk ((by rw [hg]; exact (below_size bA) : w.heap.size ≤ gb288)); have n3_ := Aside0.mk ((by rw [hg]; exact (below_size bA) : w.heap.size ≤ gb288)); clear HB; have HB := n0_; have BK288 := n1_; have GW288 := n2_; have GE288 := n3_; clear n0_ n1_ n2_ n3_; clear hb hbox hg; obtain ⟨hcz24_0, hcz24_1, hcz24_2, hcz24_3, hfz24_0, hfz24_1, hfz24_2, hfz24_3⟩ := blkc4 BK288))
       have n0_ : Aside0 (((((w23.setCell ⟨gb288, 0, none⟩ (.int .i64 ((rd_T50 l0 x10_1).f0))).setCell ⟨gb288, 1, none⟩ (.int .i64 ((rd_T50 l0 x10_1).f1))).setCell ⟨gb288, 2, none⟩ (.int .i64 ((rd_T50 l0 x10_1).f2))).setCell ⟨gb288, 3, none⟩ (.int .i64 ((rd_T50 l0 x10_1).f3))).heap[gb288]? = some (.cells #[.int .i64 ((rd_T50 l0 x10_1).f0), .int .i64 ((rd_T50 l0 x10_1).f1), .int .i64 ((rd_T50 l0 x10_1).f2), .int .i64 ((rd_T50 l0 x10_1).f3)] 50 (0, 0))) := ⟨by (with_reducible repeat (first | refine blk_drewN ?_ _ | refine blk_drew ?_ | refine blk_alloc ?_ _)); refine blk_put (cs := #[.int .i64 ((rd_T50 l0 x10_1).f0), .int .i64 ((rd_T50 l0 x10_1).f1), .int .i64 ((rd_T50 l0 x10_1).f2), .int .i64 0]) ?_ 3 _ rfl; (with_reducible repeat (first | refine blk_drewN ?_ _ | refine blk_drew ?_ | refine blk_alloc ?_ _)); refine blk_put (cs := #[.int .i64 ((rd_T50 l0 x10_1).f0), .int .i64 ((rd_T50 l0 x10_1).f1), .int .i64 0, .int .i64 0]) ?_ 2 _ rfl; (with_reducible repeat (first | refine blk_drewN ?_ _ | refine blk_drew ?_ | refine blk_alloc ?_ _)); refine blk_put (cs := #[.int .i64 ((rd_T50 l0 x10_1).f0), .int .i64 0, .int .i64 0, .int .i64 0]) ?_ 1 _ rfl; (with_reducible repeat (first | refine blk_drewN ?_ _ | refine blk_drew ?_ | refine blk_alloc ?_ _)); refine blk_put (cs := #[.int .i64 0, .int .i64 0, .int .i64 0, .int .i64 0]) ?_ 0 _ rfl; (with_reducible repeat (first | refine blk_drewN ?_ _ | refine blk_drew ?_ | refine blk_alloc ?_ _)); exact BK288.out⟩
       have n1_ : Aside0 (Below w.heap.size w ((((w23.setCell ⟨gb288, 0, none⟩ (.int .i64 ((rd_T50 l0 x10_1).f0))).setCell ⟨gb288, 1, none⟩ (.int .i64 ((rd_T50 l0 x10_1).f1))).setCell ⟨gb288, 2, none⟩ (.int .i64 ((rd_T50 l0 x10_1).f2))).setCell ⟨gb288, 3, none⟩ (.int .i64 ((rd_T50 l0 x10_1).f3)))) := ⟨bG⟩
       (try clear BK288)
       (try clear HB)
       generalize ((((w23.setCell ⟨gb288, 0, none⟩ (.int .i64 ((rd_T50 l0 x10_1).f0))).setCell ⟨gb288, 1, none⟩ (.int .i64 ((rd_T50 l0 x10_1).f1))).setCell ⟨gb288, 2, none⟩ (.int .i64 ((rd_T50 l0 x10_1).f2))).setCell ⟨gb288, 3, none⟩ (.int .i64 ((rd_T50 l0 x10_1).f3))) = w25 at n0_ n1_ ⊢
       have BK288 := n0_
       have HB := n1_
       clear n0_ n1_
       replace BK288 := Aside0.mk (blk_drew BK288.out)
       have HBo := HB
       replace HB := Aside0.mk (below_drew1 HB.out)
       refine start_ (n := 18) (S := fun w' => w'.cell? ⟨gb288, 0, none⟩ = some (.int .i64 ((rd_T50 l0 x10_1).f0)) ∧ w'.cell? ⟨gb288, 1, none⟩ = some (.int .i64 ((rd_T50 l0 x10_1).f1)) ∧ w'.cell? ⟨gb288, 2, none⟩ = some (.int .i64 ((rd_T50 l0 x10_1).f2)) ∧ w'.cell? ⟨gb288, 3, none⟩ = some (.int .i64 ((rd_T50 l0 x10_1).f3))) (ds := []) (mb 18 0) (by kernel_rfl) rfl rfl ⟨bC BK288 0, bC BK288 1, bC BK288 2, bC BK288 3⟩ (fun hHeld => ?_); refine with_tabW impl_ArePaths.tab6 impl_ArePaths.bits6 (fun HT_ HW_ => ?_)
       generalize w25.drew = w26 at BK288 HB hHeld ⊢
       refine tA4 (i := 0) (N := some 15) (mb 18 1) HT_ HW_ hHeld ?_
       refine oA (i := 1) (N := some 16) (mb 18 3) HT_ (fun K hK => ?_)
       refine gA Try.func90 #[.agg #[.int .i64 ((rd_T50 l0 x10_1).f0), .int .i64 ((rd_T50 l0 x10_1).f1), .int .i64 ((rd_T50 l0 x10_1).f2), .int .i64 ((rd_T50 l0 x10_1).f3)]] ?_
       with_reducible refine (impl_IsPath.calls ((rd_T50 l0 x10_1).f0) ((rd_T50 l0 x10_1).f1) ((rd_T50 l0 x10_1).f2) ((rd_T50 l0 x10_1).f3) true _ A6.out).mono ?_
       rintro e w27 ⟨rfl, hb⟩
       refine ⟨_, rfl, ?_⟩
       replace BK288 := Aside0.mk (blk_below (g := gb288) (bK BK288) hb)
       replace HB := Aside0.mk (below_step bG hb)
       (try clear hb)
       (try clear hb2)
       (try clear hk)
       (try clear hi)
       refine hK.out _ _ ⟨bC BK288 0, bC BK288 1, bC BK288 2, bC BK288 3⟩ (fun hHeld => ?_)
       clear hK K
       refine nB ?_
       refine pA (i := 2) (N := some 17) (mb 18 7) HT_ ?_
       refine pA (i := 3) (N := some 18) (mb 18 15) HT_ ?_
       refine pA (i := 4) (N := some 19) (mb 18 31) HT_ ?_
       refine pA (i := 5) (N := some 20) (mb 18 63) HT_ ?_
       refine pA (i := 6) (N := some 21) (mb 18 127) HT_ ?_
       refine pU (i := 7) (N := some 22) (mb 18 255) HT_ ?_
       refine pU (i := 8) (N := some 23) (mb 18 511) HT_ ?_
       refine pU (i := 9) (N := some 24) (mb 18 1023) HT_ ?_
       refine pU (i := 10) (N := some 25) (mb 18 2047) HT_ ?_
       refine pU (i := 11) (N := some 26) (mb 18 4095) HT_ ?_
       refine pU (i := 12) (N := some 27) (mb 18 8191) HT_ ?_
       refine pU (i := 13) (N := some 28) (mb 18 16383) HT_ ?_
       refine pU (i := 14) (N := some 29) (mb 18 32767) HT_ ?_
       refine pU (i := 15) (N := some 30) (mb 18 65535) HT_ ?_
       refine pA (i := 16) (N := some 31) (mb 18 131071) HT_ ?_
       refine pA (i := 17) (N := some 32) (mb 18 262143) HT_ ?_
       refine eA HT_ ?_
       try go_wp2
       go_roundg k1
       case measure => have := HK1.out; omega
       case rel => exact ⟨(wrap64 (x10_1 + 1)), rS, H', ⟨by have := HK1.out; omega⟩, ⟨bG⟩⟩
     ·
      replace c7 := Bool.eq_false_iff.mpr c7
      subst c7
      have H1 : (some false) = some r := by rw [if_neg (show ¬ (false = true) by decide)] at H; exact H
      clear H
      have H := H1
      clear H1
      obtain rfl := Option.some.inj H
      have p287 : 0 ≤ (x10_1 : Int) := dA
      have q287 : x10_1 < (l0.length : Int) := dA
      obtain ⟨ad287, e287, hx287_0, hx287_1, hx287_2, hx287_3⟩ := at_T50 HR0.out x10_1 p287 q287
      cases e287
      replace hx287_0 := hC HB hx287_0
      replace hx287_1 := hC HB hx287_1
      replace hx287_2 := hC HB hx287_2
      replace hx287_3 := hC HB hx287_3
      replace p287 := eq_true p287
      replace q287 := eq_true q287
      try go_wp2_with (first | ((with_reducible refine gate_dst (N := 4) rfl ?_); refine bE (N := 4) (cs := #[.int .i64 0, .int .i64 0, .int .i64 0, .int .i64 0]) (t := 50) ?_; intro gb288 hg w28 hbox hb; have n0_ := Aside0.mk (below_step bA hb); have n1_ := Aside0.mk (hbox); have n2_ := Aside0.mk ((by rw [hg]; exact (below_size bA) : w.heap.size ≤ gb288)); have n3_ := Aside0.mk ((by rw [hg]; exact (below_size bA) : w.heap.size ≤ gb288)); clear HB; have HB := n0_; have BK288 := n1_; have GW288 := n2_; have GE288 := n3_; clear n0_ n1_ n2_ n3_; clear hb hbox hg; obtain ⟨hcz29_0, hcz29_1, hcz29_2, hcz29_3, hfz29_0, hfz29_1, hfz29_2, hfz29_3⟩ := blkc4 BK288))
      have n0_ : Aside0 (((((w28.setCell ⟨gb288, 0, none⟩ (.int .i64 ((rd_T50 l0 x10_1).f0))).setCell ⟨gb288, 1, none⟩ (.int .i64 ((rd_T50 l0 x10_1).f1))).setCell ⟨gb288, 2, none⟩ (.int .i64 ((rd_T50 l0 x10_1).f2))).setCell ⟨gb288, 3, none⟩ (.int .i64 ((rd_T50 l0 x10_1).f3))).heap[gb288]? = some (.cells #[.int .i64 ((rd_T50 l0 x10_1).f0), .int .i64 ((rd_T50 l0 x10_1).f1), .int .i64 ((rd_T50 l0 x10_1).f2), .int .i64 ((rd_T50 l0 x10_1).f3)] 50 (0, 0))) := ⟨by (with_reducible repeat (first | refine blk_drewN ?_ _ | refine blk_drew ?_ | refine blk_alloc ?_ _)); refine blk_put (cs := #[.int .i64 ((rd_T50 l0 x10_1).f0), .int .i64 ((rd_T50 l0 x10_1).f1), .int .i64 ((rd_T50 l0 x10_1).f2), .int .i64 0]) ?_ 3 _ rfl; (with_reducible repeat (first | refine blk_drewN ?_ _ | refine blk_drew ?_ | refine blk_alloc ?_ _)); refine blk_put (cs := #[.int .i64 ((rd_T50 l0 x10_1).f0), .int .i64 ((rd_T50 l0 x10_1).f1), .int .i64 0, .int .i64 0]) ?_ 2 _ rfl; (with_reducible repeat (first | refine blk_drewN ?_ _ | refine blk_drew ?_ | refine blk_alloc ?_ _)); refine blk_put (cs := #[.int .i64 ((rd_T50 l0 x10_1).f0), .int .i64 0, .int .i64 0, .int .i64 0]) ?_ 1 _ rfl; (with_reducible repeat (first | refine blk_drewN ?_ _ | refine blk_drew ?_ | refine blk_alloc ?_ _)); refine blk_put (cs := #[.int .i64 0, .int .i64 0, .int .i64 0, .int .i64 0]) ?_ 0 _ rfl; (with_reducible repeat (first | refine blk_drewN ?_ _ | refine blk_drew ?_ | refine blk_alloc ?_ _)); exact BK288.out⟩
      have n1_ : Aside0 (Below w.heap.size w ((((w28.setCell ⟨gb288, 0, none⟩ (.int .i64 ((rd_T50 l0 x10_1).f0))).setCell ⟨gb288, 1, none⟩ (.int .i64 ((rd_T50 l0 x10_1).f1))).setCell ⟨gb288, 2, none⟩ (.int .i64 ((rd_T50 l0 x10_1).f2))).setCell ⟨gb288, 3, none⟩ (.int .i64 ((rd_T50 l0 x10_1).f3)))) := ⟨bG⟩
      (try clear BK288)
      (try clear HB)
      generalize ((((w28.setCell ⟨gb288, 0, none⟩ (.int .i64 ((rd_T50 l0 x10_1).f0))).setCell ⟨gb288, 1, none⟩ (.int .i64 ((rd_T50 l0 x10_1).f1))).setCell ⟨gb288, 2, none⟩ (.int .i64 ((rd_T50 l0 x10_1).f2))).setCell ⟨gb288, 3, none⟩ (.int .i64 ((rd_T50 l0 x10_1).f3))) = w30 at n0_ n1_ ⊢
      have BK288 := n0_
      have HB := n1_
      clear n0_ n1_
      replace BK288 := Aside0.mk (blk_drew BK288.out)
      have HBo := HB
      replace HB := Aside0.mk (below_drew1 HB.out)
      refine start_ (n := 18) (S := fun w' => w'.cell? ⟨gb288, 0, none⟩ = some (.int .i64 ((rd_T50 l0 x10_1).f0)) ∧ w'.cell? ⟨gb288, 1, none⟩ = some (.int .i64 ((rd_T50 l0 x10_1).f1)) ∧ w'.cell? ⟨gb288, 2, none⟩ = some (.int .i64 ((rd_T50 l0 x10_1).f2)) ∧ w'.cell? ⟨gb288, 3, none⟩ = some (.int .i64 ((rd_T50 l0 x10_1).f3))) (ds := []) (mb 18 0) (by kernel_rfl) rfl rfl ⟨bC BK288 0, bC BK288 1, bC BK288 2, bC BK288 3⟩ (fun hHeld => ?_); refine with_tabW impl_ArePaths.tab6 impl_ArePaths.bits6 (fun HT_ HW_ => ?_)
      generalize w30.drew = w31 at BK288 HB hHeld ⊢
      refine tA4 (i := 0) (N := some 15) (mb 18 1) HT_ HW_ hHeld ?_
      refine oA (i := 1) (N := some 16) (mb 18 3) HT_ (fun K hK => ?_)
      refine gA Try.func90 #[.agg #[.int .i64 ((rd_T50 l0 x10_1).f0), .int .i64 ((rd_T50 l0 x10_1).f1), .int .i64 ((rd_T50 l0 x10_1).f2), .int .i64 ((rd_T50 l0 x10_1).f3)]] ?_
      with_reducible refine (impl_IsPath.calls ((rd_T50 l0 x10_1).f0) ((rd_T50 l0 x10_1).f1) ((rd_T50 l0 x10_1).f2) ((rd_T50 l0 x10_1).f3) false _ A6.out).mono ?_
      rintro e w32 ⟨rfl, hb⟩
      refine ⟨_, rfl, ?_⟩
      replace BK288 := Aside0.mk (blk_below (g := gb288) (bK BK288) hb)
      replace HB := Aside0.mk (below_step bG hb)
      (try clear hb)
      (try clear hb2)
      (try clear hk)
      (try clear hi)
      refine hK.out _ _ ⟨bC BK288 0, bC BK288 1, bC BK288 2, bC BK288 3⟩ (fun hHeld => ?_)
      clear hK K
      refine nB ?_
      refine pA (i := 2) (N := some 17) (mb 18 7) HT_ ?_
      refine pA (i := 3) (N := some 18) (mb 18 15) HT_ ?_
      refine pU (i := 4) (N := some 19) (mb 18 31) HT_ ?_
      refine pU (i := 5) (N := some 20) (mb 18 63) HT_ ?_
      refine pU (i := 6) (N := some 21) (mb 18 127) HT_ ?_
      refine pU (i := 7) (N := some 22) (mb 18 255) HT_ ?_
      refine pU (i := 8) (N := some 23) (mb 18 511) HT_ ?_
      refine pU (i := 9) (N := some 24) (mb 18 1023) HT_ ?_
      refine pU (i := 10) (N := some 25) (mb 18 2047) HT_ ?_
      refine pU (i := 11) (N := some 26) (mb 18 4095) HT_ ?_
      refine pU (i := 12) (N := some 27) (mb 18 8191) HT_ ?_
      refine pU (i := 13) (N := some 28) (mb 18 16383) HT_ ?_
      refine pU (i := 14) (N := some 29) (mb 18 32767) HT_ ?_
      refine pU (i := 15) (N := some 30) (mb 18 65535) HT_ ?_
      refine pU (i := 16) (N := some 31) (mb 18 131071) HT_ ?_
      refine pA (i := 17) (N := some 32) (mb 18 262143) HT_ ?_
      refine eA HT_ ?_
      try go_wp2
      go_ret
      exact ⟨rA, bG⟩
    ·
     rw [if_neg c3] at H
     have c3b0 := decide_eq_false c3
     clear c3
     obtain rfl := Option.some.inj H
     go_wp2
     go_ret
     exact ⟨rA, bA⟩

/-! ### impl_AreDetectors: function 26 -/
mutual
def impl_AreDetectors.j0 : Nat → List (S50) → List (S120) → Bool → Option (Bool)
 | 0, _, _, _ => none
 | k + 1, x0, x1, x16 => if x16 = true then (some false) else (impl_AreDetectors.l0 k x0 x1 x1 (x1.length : Int) 0)
def impl_AreDetectors.l0 : Nat → List (S50) → List (S120) → List (S120) → Int → Int → Option (Bool)
 | 0, _, _, _, _, _ => none
 | k + 1, x0, x1, x17, x18, x19 => if x19 < x18 then (if 0 ≤ x19 then (if x19 < (x17.length : Int) then ((impl_FindPath.f x0 ((rd_T120 x17 x19).f0)).bind fun t294 => (if t294 < 0 then (impl_AreDetectors.j2 k x0 x1 x19 x17 x18 x19 true ((rd_T120 x17 x19).f0) ((rd_T120 x17 x19).f1) ((rd_T120 x17 x19).f2) ((rd_T120 x17 x19).f3)) else ((impl_InRange.f ((rd_T120 x17 x19).f1) 0 1000).bind fun t295 => (if t295 = true then ((impl_InRange.f ((rd_T120 x17 x19).f2) 0 100000).bind fun t296 => (impl_AreDetectors.j2 k x0 x1 x19 x17 x18 x19 (!t296) ((rd_T120 x17 x19).f0) ((rd_T120 x17 x19).f1) ((rd_T120 x17 x19).f2) ((rd_T120 x17 x19).f3))) else (impl_AreDetectors.j2 k x0 x1 x19 x17 x18 x19 true ((rd_T120 x17 x19).f0) ((rd_T120 x17 x19).f1) ((rd_T120 x17 x19).f2) ((rd_T120 x17 x19).f3)))))) else (none)) else (none)) else (some true)
def impl_AreDetectors.j2 : Nat → List (S50) → List (S120) → Int → List (S120) → Int → Int → Bool → Int → Int → Int → Bool → Option (Bool)
 | 0, _, _, _, _, _, _, _, _, _, _, _ => none
 | k + 1, x0, x1, x5, x17, x18, x19, x40, x294000, x294001, x294002, x294003 => if x40 = true then (some false) else (if 0 ≤ x5 then (if x5 ≤ (x1.length : Int) then ((some (x1.take (x5 : Int).toNat : List (S120))).bind fun y297 => (impl_AreDetectors.l1 k x0 x1 x17 x18 x19 y297 (y297.length : Int) 0 x294000 x294001 x294002 x294003)) else (none)) else (none))
def impl_AreDetectors.l1 : Nat → List (S50) → List (S120) → List (S120) → Int → Int → List (S120) → Int → Int → Int → Int → Int → Bool → Option (Bool)
 | 0, _, _, _, _, _, _, _, _, _, _, _, _ => none
 | k + 1, x0, x1, x17, x18, x19, x43, x44, x45, x294000, x294001, x294002, x294003 => if x45 < x44 then (if 0 ≤ x45 then (if x45 < (x43.length : Int) then (if x294000 = ((rd_T120 x43 x45).f0) then (some false) else (impl_AreDetectors.l1 k x0 x1 x17 x18 x19 x43 x44 (wrap64 (x45 + 1)) x294000 x294001 x294002 x294003)) else (none)) else (none)) else (impl_AreDetectors.l0 k x0 x1 x17 x18 (wrap64 (x19 + 1)))
end
def impl_AreDetectors.f (k : Nat) (l0 : List (S50)) (l1 : List (S120)) : Option (Bool) := (impl_ArePaths.f k l0).bind fun t291 => (if t291 = true then (impl_AreDetectors.j0 k l0 l1 (decide ((l1.length : Int) > 12))) else (impl_AreDetectors.j0 k l0 l1 true))
theorem impl_AreDetectors.mono_l : ∀ k, (∀ y0 y1 y2, LeO (impl_AreDetectors.j0 k y0 y1 y2) (impl_AreDetectors.j0 (k + 1) y0 y1 y2)) ∧ (∀ y0 y1 y2 y3 y4, LeO (impl_AreDetectors.l0 k y0 y1 y2 y3 y4) (impl_AreDetectors.l0 (k + 1) y0 y1 y2 y3 y4)) ∧ (∀ y0 y1 y2 y3 y4 y5 y6 y7 y8 y9 y10, LeO (impl_AreDetectors.j2 k y0 y1 y2 y3 y4 y5 y6 y7 y8 y9 y10) (impl_AreDetectors.j2 (k + 1) y0 y1 y2 y3 y4 y5 y6 y7 y8 y9 y10)) ∧ (∀ y0 y1 y2 y3 y4 y5 y6 y7 y8 y9 y10 y11, LeO (impl_AreDetectors.l1 k y0 y1 y2 y3 y4 y5 y6 y7 y8 y9 y10 y11) (impl_AreDetectors.l1 (k + 1) y0 y1 y2 y3 y4 y5 y6 y7 y8 y9 y10 y11))
 | 0 => ⟨fun _ _ _ r h => by simp [impl_AreDetectors.j0] at h, fun _ _ _ _ _ r h => by simp [impl_AreDetectors.l0] at h, fun _ _ _ _ _ _ _ _ _ _ _ r h => by simp [impl_AreDetectors.j2] at h, fun _ _ _ _ _ _ _ _ _ _ _ _ r h => by simp [impl_AreDetectors.l1] at h⟩
 | k + 1 => by
  obtain ⟨ih0, ih1, ih2, ih3⟩ := impl_AreDetectors.mono_l k
  refine ⟨?_, ?_, ?_, ?_⟩
  ·
   intro y0 y1 y2
   unfold impl_AreDetectors.j0
   repeat' first | (with_reducible first | exact LeO.refl _ | exact LeO.none _ | refine LeO.ite ?_ ?_ | refine LeO.bind ?_ (fun _ => ?_) | exact ih0 _ _ _ | exact ih1 _ _ _ _ _ | exact ih2 _ _ _ _ _ _ _ _ _ _ _ | exact ih3 _ _ _ _ _ _ _ _ _ _ _ _ | exact impl_ArePaths.mono _ _)
  ·
   intro y0 y1 y2 y3 y4
   unfold impl_AreDetectors.l0
   repeat' first | (with_reducible first | exact LeO.refl _ | exact LeO.none _ | refine LeO.ite ?_ ?_ | refine LeO.bind ?_ (fun _ => ?_) | exact ih0 _ _ _ | exact ih1 _ _ _ _ _ | exact ih2 _ _ _ _ _ _ _ _ _ _ _ | exact ih3 _ _ _ _ _ _ _ _ _ _ _ _ | exact impl_ArePaths.mono _ _)
  ·
   intro y0 y1 y2 y3 y4 y5 y6 y7 y8 y9 y10
   unfold impl_AreDetectors.j2
   repeat' first | (with_reducible first | exact LeO.refl _ | exact LeO.none _ | refine LeO.ite ?_ ?_ | refine LeO.bind ?_ (fun _ => ?_) | exact ih0 _ _ _ | exact ih1 _ _ _ _ _ | exact ih2 _ _ _ _ _ _ _ _ _ _ _ | exact ih3 _ _ _ _ _ _ _ _ _ _ _ _ | exact impl_ArePaths.mono _ _)
  ·
   intro y0 y1 y2 y3 y4 y5 y6 y7 y8 y9 y10 y11
   unfold impl_AreDetectors.l1
   repeat' first | (with_reducible first | exact LeO.refl _ | exact LeO.none _ | refine LeO.ite ?_ ?_ | refine LeO.bind ?_ (fun _ => ?_) | exact ih0 _ _ _ | exact ih1 _ _ _ _ _ | exact ih2 _ _ _ _ _ _ _ _ _ _ _ | exact ih3 _ _ _ _ _ _ _ _ _ _ _ _ | exact impl_ArePaths.mono _ _)
theorem impl_AreDetectors.mono : ∀ a0 a1 k, LeO (impl_AreDetectors.f k a0 a1) (impl_AreDetectors.f (k + 1) a0 a1) := by
 intro a0 a1 k
 obtain ⟨ih0, ih1, ih2, ih3⟩ := impl_AreDetectors.mono_l k
 unfold impl_AreDetectors.f
 repeat' first | (with_reducible first | exact LeO.refl _ | exact LeO.none _ | refine LeO.ite ?_ ?_ | refine LeO.bind ?_ (fun _ => ?_) | exact ih0 _ _ _ | exact ih1 _ _ _ _ _ | exact ih2 _ _ _ _ _ _ _ _ _ _ _ | exact ih3 _ _ _ _ _ _ _ _ _ _ _ _ | exact impl_ArePaths.mono _ _)
set_option maxHeartbeats 8000000 in
set_option maxRecDepth 100000 in
theorem impl_AreDetectors.calls (k : Nat) (A0 : Option Addr) (c0 : Nat) (l0 : List (S50)) (A1 : Option Addr) (c1 : Nat) (l1 : List (S120)) (r : Bool) (w : World) (hr0 : Kd.C k50 w A0 l0.length l0) (hc0 : l0.length ≤ c0) (hr1 : Kd.C k120 w A1 l1.length l1) (hc1 : l1.length ≤ c1) (h : impl_AreDetectors.f k l0 l1 = some r) :
  Calls Try.prog 26 #[.slice A0 l0.length c0, .slice A1 l1.length c1] w fun e w' => e = .returned (.bool r) ∧ Below w.heap.size w w' := by
 have hu120 := Try.underlying120
 have HR0 := Aside0.mk hr0
 have HC0 := Aside0.mk hc0
 clear hr0 hc0
 have HR1 := Aside0.mk hr1
 have HC1 := Aside0.mk hc1
 clear hr1 hc1
 have HB := Aside0.mk (Below.refl w.heap.size w)
 have H : ((impl_ArePaths.f k l0).bind fun t291 => (if t291 = true then (impl_AreDetectors.j0 k l0 l1 (decide ((l1.length : Int) > 12))) else (impl_AreDetectors.j0 k l0 l1 true))) = some r := h
 clear h
 have HC3 := Aside0.mk H
 clear H
 go_enter Try.func26, Try.ntmps26
 go_upto_region 1 with (fail)
 go_cut [16] (fun v16 wc => ∃ (kq : Nat) (x16_2 : Bool), v16 = .bool x16_2 ∧ Aside0 (impl_AreDetectors.j0 kq l0 l1 x16_2 = some r) ∧ Aside0 (kq ≤ k) ∧ Aside0 (Below w.heap.size w wc))
 case first =>
  have H := HC3.out
  clear HC3
  obtain ⟨t291, A4, H⟩ := bindE H
  try dsimp only at H
  by_cases c5 : t291 = true
  ·
   subst c5
   have H1 : (impl_AreDetectors.j0 k l0 l1 (decide ((l1.length : Int) > 12))) = some r := by rw [if_pos rfl] at H; exact H
   clear H
   have H := H1
   clear H1
   have H' := Aside0.mk H
   clear H
   go_wp2_with (first | ((with_reducible refine gate_callee (f := 32) rfl ?_); refine gL (some 10) Try.func32 #[.slice A0 l0.length c0] ?_; (with_reducible refine (impl_ArePaths.calls k _ _ l0 true _ ?side1 ?side2 A4.out).mono ?_); (case side1 => exact cB HR0); (case side2 => exact HC0.out); rintro e w6 ⟨rfl, hb⟩; refine ⟨_, rfl, ?_⟩; replace HB := Aside0.mk (below_step bA hb); (try clear hb)))
   go_meet
   case rel => exact ⟨_, (decide ((l1.length : Int) > 12)), rS, H', ⟨by first | omega | exact Nat.le_refl _⟩, ⟨bA⟩⟩
  ·
   replace c5 := Bool.eq_false_iff.mpr c5
   subst c5
   have H1 : (impl_AreDetectors.j0 k l0 l1 true) = some r := by rw [if_neg (show ¬ (false = true) by decide)] at H; exact H
   clear H
   have H := H1
   clear H1
   have H' := Aside0.mk H
   clear H
   go_wp2_with (first | ((with_reducible refine gate_callee (f := 32) rfl ?_); refine gL (some 10) Try.func32 #[.slice A0 l0.length c0] ?_; (with_reducible refine (impl_ArePaths.calls k _ _ l0 false _ ?side1 ?side2 A4.out).mono ?_); (case side1 => exact cB HR0); (case side2 => exact HC0.out); rintro e w7 ⟨rfl, hb⟩; refine ⟨_, rfl, ?_⟩; replace HB := Aside0.mk (below_step bA hb); (try clear hb)))
   go_meet
   case rel => exact ⟨_, (true), rS, H', ⟨by first | omega | exact Nat.le_refl _⟩, ⟨bA⟩⟩
 case rest =>
  clear HC3
  try clear c1
  try clear c2
  try clear p2
  try clear c3
  try clear c5
  obtain ⟨kq, x16_2, rfl, HA, HJ2, HB⟩ := hcut
  cases kq with
  | zero => exact absurd HA.out (by simp [impl_AreDetectors.j0])
  | succ kj2 =>
   have H := HA.out
   clear HA
   simp only [impl_AreDetectors.j0] at H
   by_cases c8 : x16_2 = true
   ·
    subst c8
    have H1 : (some false) = some r := by rw [if_pos rfl] at H; exact H
    clear H
    have H := H1
    clear H1
    obtain rfl := Option.some.inj H
    go_wp2
    go_ret
    exact ⟨rA, bA⟩
   ·
    replace c8 := Bool.eq_false_iff.mpr c8
    subst c8
    have H1 : (impl_AreDetectors.l0 kj2 l0 l1 l1 (l1.length : Int) 0) = some r := by rw [if_neg (show ¬ (false = true) by decide)] at H; exact H
    clear H
    have H := H1
    clear H1
    have H' := Aside0.mk H
    clear H
    go_wp2
    go_loopg [19] kj2 (fun kq v19 w' => ∃ (x19_2 : Int), v19 = .int .i64 x19_2 ∧ Aside0 (impl_AreDetectors.l0 kq l0 l1 l1 (l1.length : Int) x19_2 = some r) ∧ Aside0 (kq ≤ kj2) ∧ Aside0 (Below w.heap.size w w'))
    case atStart => exact ⟨(0), rS, H', ⟨Nat.le_refl _⟩, ⟨bA⟩⟩
    case round =>
     clear H'
     try clear c1
     try clear c2
     try clear p2
     try clear c3
     try clear c5
     try clear c8
     try clear p2
     obtain ⟨x19_2, rfl, HA, HK2, HB⟩ := hrel
     cases gk with
     | zero => exact absurd HA.out (by simp [impl_AreDetectors.l0])
     | succ k2 =>
      have H := HA.out
      clear HA
      simp only [impl_AreDetectors.l0] at H
      by_cases c9 : x19_2 < (l1.length : Int)
      ·
       rw [if_pos c9] at H
       have c9b0 := decide_eq_true c9
       clear c9
       have c10 : 0 ≤ x19_2 := ifN H
       replace H := ifT H
       have c10b0 := decide_eq_true c10
       clear c10
       have c11 : x19_2 < (l1.length : Int) := ifN H
       replace H := ifT H
       have c11b0 := decide_eq_true c11
       clear c11
       have HC12 := Aside0.mk H
       clear H
       have p292 : 0 ≤ (x19_2 : Int) := dA
       have q292 : x19_2 < (l1.length : Int) := dA
       obtain ⟨ad292, e292, hx292_0, hx292_1, hx292_2, hx292_3⟩ := at_T120 HR1.out x19_2 p292 q292
       cases e292
       replace hx292_0 := hC HB hx292_0
       replace hx292_1 := hC HB hx292_1
       replace hx292_2 := hC HB hx292_2
       replace hx292_3 := hC HB hx292_3
       replace p292 := eq_true p292
       replace q292 := eq_true q292
       go_upto_region 6 with (first | ((with_reducible refine gate_dst (N := 6) rfl ?_); (try (refine gate_guard (by rfl) ?_; dsimp only)); refine bE (N := 6) (cs := #[.int .i64 0, .int .i64 0, .int .i64 0, .bool false]) (t := 120) ?_; intro gb293 hg w13 hbox hb; have n0_ := Aside0.mk (below_step bA hb); have n1_ := Aside0.mk (hbox); have n2_ := Aside0.mk ((by rw [hg]; exact (below_size bA) : w.heap.size ≤ gb293)); have n3_ := Aside0.mk ((by rw [hg]; exact (below_size bA) : w.heap.size ≤ gb293)); clear HB; have HB := n0_; have BK293 := n1_; have GW293 := n2_; have GE293 := n3_; clear n0_ n1_ n2_ n3_; clear hb hbox hg; obtain ⟨hcz14_0, hcz14_1, hcz14_2, hcz14_3, hfz14_0, hfz14_1, hfz14_2, hfz14_3⟩ := blkc4 BK293))
       (try simp only [Act.put, List.setIfInBounds_toArray, List.set_cons_zero, List.set_cons_succ])
       go_cut [40] (fun v40 wc => ∃ (kq : Nat) (x40_11 : Bool), v40 = .bool x40_11 ∧ Aside0 (impl_AreDetectors.j2 kq l0 l1 x19_2 l1 (l1.length : Int) x19_2 x40_11 ((rd_T120 l1 x19_2).f0) ((rd_T120 l1 x19_2).f1) ((rd_T120 l1 x19_2).f2) ((rd_T120 l1 x19_2).f3) = some r) ∧ Aside0 (kq ≤ k2) ∧ Aside0 (wc.heap[gb293]? = some (.cells #[.int .i64 ((rd_T120 l1 x19_2).f0), .int .i64 ((rd_T120 l1 x19_2).f1), .int .i64 ((rd_T120 l1 x19_2).f2), .bool ((rd_T120 l1 x19_2).f3)] 120 (0, 0))) ∧ Aside0 (Below w.heap.size w wc))
       case first =>
        have H := HC12.out
        clear HC12
        obtain ⟨t294, A15, H⟩ := bindE H
        try dsimp only at H
        by_cases c16 : t294 < 0
        ·
         rw [if_pos c16] at H
         have c16b0 := decide_eq_true c16
         clear c16
         (first | rw [c16b0] | (simp only [i64_w, i32_w]; rw [c16b0]) | skip)
         have H' := Aside0.mk H
         clear H
         obtain ⟨hcz17_0, hcz17_1, hcz17_2, hcz17_3, hfz17_0, hfz17_1, hfz17_2, hfz17_3⟩ := blkc4 BK293
         go_wp2_with (first | ((with_reducible refine gate_callee (f := 16) rfl ?_); refine gL (some 27) Try.func16 #[.slice A0 l0.length c0, .int .i64 ((rd_T120 l1 x19_2).f0)] ?_; (with_reducible refine (impl_FindPath.calls _ _ l0 ((rd_T120 l1 x19_2).f0) t294 _ ?side1 ?side2 A15.out).mono ?_); (case side1 => exact Kd.C_below HR0.out bG); (case side2 => exact HC0.out); rintro e w18 ⟨rfl, hb⟩; refine ⟨_, rfl, ?_⟩; have n0_ := Aside0.mk (blk_below (g := gb293) (o := .cells #[.int .i64 ((rd_T120 l1 x19_2).f0), .int .i64 ((rd_T120 l1 x19_2).f1), .int .i64 ((rd_T120 l1 x19_2).f2), .bool ((rd_T120 l1 x19_2).f3)] 120 (0, 0)) (by (with_reducible repeat (first | refine blk_drewN ?_ _ | refine blk_drew ?_ | refine blk_alloc ?_ _)); refine blk_put (cs := #[.int .i64 ((rd_T120 l1 x19_2).f0), .int .i64 ((rd_T120 l1 x19_2).f1), .int .i64 ((rd_T120 l1 x19_2).f2), .bool false]) ?_ 3 _ rfl; (with_reducible repeat (first | refine blk_drewN ?_ _ | refine blk_drew ?_ | refine blk_alloc ?_ _)); refine blk_put (cs := #[.int .i64 ((rd_T120 l1 x19_2).f0), .int .i64 ((rd_T120 l1 x19_2).f1), .int .i64 0, .bool false]) ?_ 2 _ rfl; (with_reducible repeat (first | refine blk_drewN ?_ _ | refine blk_drew ?_ | refine blk_alloc ?_ _)); refine blk_put (cs := #[.int .i64 ((rd_T120 l1 x19_2).f0), .int .i64 0, .int .i64 0, .bool false]) ?_ 1 _ rfl; (with_reducible repeat (first | refine blk_drewN ?_ _ | refine blk_drew ?_ | refine blk_alloc ?_ _)); refine blk_put (cs := #[.int .i64 0, .int .i64 0, .int .i64 0, .bool false]) ?_ 0 _ rfl; (with_reducible repeat (first | refine blk_drewN ?_ _ | refine blk_drew ?_ | refine blk_alloc ?_ _)); exact BK293.out) hb); have n1_ := Aside0.mk (below_step bG hb); clear BK293; clear HB; have BK293 := n0_; have HB := n1_; clear n0_ n1_; (try clear hb)))
         go_meet
         case rel => exact ⟨_, (true), rS, H', ⟨by have := HJ2.out; have := HK2.out; first | omega | exact Nat.le_refl _⟩, ⟨bK BK293⟩, ⟨bG⟩⟩
        ·
         rw [if_neg c16] at H
         have c16b0 := decide_eq_false c16
         clear c16
         (first | rw [c16b0] | (simp only [i64_w, i32_w]; rw [c16b0]) | skip)
         obtain ⟨t295, A19, H⟩ := bindE H
         try dsimp only at H
         by_cases c20 : t295 = true
         ·
          subst c20
          have H1 : ((impl_InRange.f ((rd_T120 l1 x19_2).f2) 0 100000).bind fun t296 => (impl_AreDetectors.j2 k2 l0 l1 x19_2 l1 (l1.length : Int) x19_2 (!t296) ((rd_T120 l1 x19_2).f0) ((rd_T120 l1 x19_2).f1) ((rd_T120 l1 x19_2).f2) ((rd_T120 l1 x19_2).f3))) = some r := by rw [if_pos rfl] at H; exact H
          clear H
          have H := H1
          clear H1
          obtain ⟨t296, A21, H⟩ := bindE H
          try dsimp only at H
          have H' := Aside0.mk H
          clear H
          obtain ⟨hcz22_0, hcz22_1, hcz22_2, hcz22_3, hfz22_0, hfz22_1, hfz22_2, hfz22_3⟩ := blkc4 BK293
          go_wp2_with (first | ((with_reducible refine gate_callee (f := 16) rfl ?_); refine gL (some 27) Try.func16 #[.slice A0 l0.length c0, .int .i64 ((rd_T120 l1 x19_2).f0)] ?_; (with_reducible refine (impl_FindPath.calls _ _ l0 ((rd_T120 l1 x19_2).f0) t294 _ ?side1 ?side2 A15.out).mono ?_); (case side1 => exact Kd.C_below HR0.out bG); (case side2 => exact HC0.out); rintro e w23 ⟨rfl, hb⟩; refine ⟨_, rfl, ?_⟩; have n0_ := Aside0.mk (blk_below (g := gb293) (o := .cells #[.int .i64 ((rd_T120 l1 x19_2).f0), .int .i64 ((rd_T120 l1 x19_2).f1), .int .i64 ((rd_T120 l1 x19_2).f2), .bool ((rd_T120 l1 x19_2).f3)] 120 (0, 0)) (by (with_reducible repeat (first | refine blk_drewN ?_ _ | refine blk_drew ?_ | refine blk_alloc ?_ _)); refine blk_put (cs := #[.int .i64 ((rd_T120 l1 x19_2).f0), .int .i64 ((rd_T120 l1 x19_2).f1), .int .i64 ((rd_T120 l1 x19_2).f2), .bool false]) ?_ 3 _ rfl; (with_reducible repeat (first | refine blk_drewN ?_ _ | refine blk_drew ?_ | refine blk_alloc ?_ _)); refine blk_put (cs := #[.int .i64 ((rd_T120 l1 x19_2).f0), .int .i64 ((rd_T120 l1 x19_2).f1), .int .i64 0, .bool false]) ?_ 2 _ rfl; (with_reducible repeat (first | refine blk_drewN ?_ _ | refine blk_drew ?_ | refine blk_alloc ?_ _)); refine blk_put (cs := #[.int .i64 ((rd_T120 l1 x19_2).f0), .int .i64 0, .int .i64 0, .bool false]) ?_ 1 _ rfl; (with_reducible repeat (first | refine blk_drewN ?_ _ | refine blk_drew ?_ | refine blk_alloc ?_ _)); refine blk_put (cs := #[.int .i64 0, .int .i64 0, .int .i64 0, .bool false]) ?_ 0 _ rfl; (with_reducible repeat (first | refine blk_drewN ?_ _ | refine blk_drew ?_ | refine blk_alloc ?_ _)); exact BK293.out) hb); have n1_ := Aside0.mk (below_step bG hb); clear BK293; clear HB; have BK293 := n0_; have HB := n1_; clear n0_ n1_; (try clear hb); have hcz24_0 : w23.cell? ⟨gb293, 0, none⟩ = some (.int .i64 ((rd_T120 l1 x19_2).f0)) := bC BK293 0; have hcz24_1 : w23.cell? ⟨gb293, 1, none⟩ = some (.int .i64 ((rd_T120 l1 x19_2).f1)) := bC BK293 1; have hcz24_2 : w23.cell? ⟨gb293, 2, none⟩ = some (.int .i64 ((rd_T120 l1 x19_2).f2)) := bC BK293 2; have hcz24_3 : w23.cell? ⟨gb293, 3, none⟩ = some (.bool ((rd_T120 l1 x19_2).f3)) := bC BK293 3; have hfz24_0 := blk_frozen BK293.out 0; have hfz24_1 := blk_frozen BK293.out 1; have hfz24_2 := blk_frozen BK293.out 2; have hfz24_3 := blk_frozen BK293.out 3) | (go_at_call 75; (with_reducible refine (impl_InRange.calls ((rd_T120 l1 x19_2).f1) 0 1000 true _ A19.out).mono ?_); rintro e w' ⟨rfl, ⟨nd, rfl⟩⟩) | (go_at_call 75; (with_reducible refine (impl_InRange.calls ((rd_T120 l1 x19_2).f2) 0 100000 t296 _ A21.out).mono ?_); rintro e w' ⟨rfl, ⟨nd, rfl⟩⟩))
          go_meet
          case rel => exact ⟨_, (!t296), rS, H', ⟨by have := HJ2.out; have := HK2.out; first | omega | exact Nat.le_refl _⟩, ⟨bK BK293⟩, ⟨bG⟩⟩
         ·
          replace c20 := Bool.eq_false_iff.mpr c20
          subst c20
          have H1 : (impl_AreDetectors.j2 k2 l0 l1 x19_2 l1 (l1.length : Int) x19_2 true ((rd_T120 l1 x19_2).f0) ((rd_T120 l1 x19_2).f1) ((rd_T120 l1 x19_2).f2) ((rd_T120 l1 x19_2).f3)) = some r := by rw [if_neg (show ¬ (false = true) by decide)] at H; exact H
          clear H
          have H := H1
          clear H1
          have H' := Aside0.mk H
          clear H
          obtain ⟨hcz25_0, hcz25_1, hcz25_2, hcz25_3, hfz25_0, hfz25_1, hfz25_2, hfz25_3⟩ := blkc4 BK293
          go_wp2_with (first | ((with_reducible refine gate_callee (f := 16) rfl ?_); refine gL (some 27) Try.func16 #[.slice A0 l0.length c0, .int .i64 ((rd_T120 l1 x19_2).f0)] ?_; (with_reducible refine (impl_FindPath.calls _ _ l0 ((rd_T120 l1 x19_2).f0) t294 _ ?side1 ?side2 A15.out).mono ?_); (case side1 => exact Kd.C_below HR0.out bG); (case side2 => exact HC0.out); rintro e w26 ⟨rfl, hb⟩; refine ⟨_, rfl, ?_⟩; have n0_ := Aside0.mk (blk_below (g := gb293) (o := .cells #[.int .i64 ((rd_T120 l1 x19_2).f0), .int .i64 ((rd_T120 l1 x19_2).f1), .int .i64 ((rd_T120 l1 x19_2).f2), .bool ((rd_T120 l1 x19_2).f3)] 120 (0, 0)) (by (with_reducible repeat (first | refine blk_drewN ?_ _ | refine blk_drew ?_ | refine blk_alloc ?_ _)); refine blk_put (cs := #[.int .i64 ((rd_T120 l1 x19_2).f0), .int .i64 ((rd_T120 l1 x19_2).f1), .int .i64 ((rd_T120 l1 x19_2).f2), .bool false]) ?_ 3 _ rfl; (with_reducible repeat (first | refine blk_drewN ?_ _ | refine blk_drew ?_ | refine blk_alloc ?_ _)); refine blk_put (cs := #[.int .i64 ((rd_T120 l1 x19_2).f0), .int .i64 ((rd_T120 l1 x19_2).f1), .int .i64 0, .bool false]) ?_ 2 _ rfl; (with_reducible repeat (first | refine blk_drewN ?_ _ | refine blk_drew ?_ | refine blk_alloc ?_ _)); refine blk_put (cs := #[.int .i64 ((rd_T120 l1 x19_2).f0), .int .i64 0, .int .i64 0, .bool false]) ?_ 1 _ rfl; (with_reducible repeat (first | refine blk_drewN ?_ _ | refine blk_drew ?_ | refine blk_alloc ?_ _)); refine blk_put (cs := #[.int .i64 0, .int .i64 0, .int .i64 0, .bool false]) ?_ 0 _ rfl; (with_reducible repeat (first | refine blk_drewN ?_ _ | refine blk_drew ?_ | refine blk_alloc ?_ _)); exact BK293.out) hb); have n1_ := Aside0.mk (below_step bG hb); clear BK293; clear HB; have BK293 := n0_; have HB := n1_; clear n0_ n1_; (try clear hb); have hcz27_0 : w26.cell? ⟨gb293, 0, none⟩ = some (.int .i64 ((rd_T120 l1 x19_2).f0)) := bC BK293 0; have hcz27_1 : w26.cell? ⟨gb293, 1, none⟩ = some (.int .i64 ((rd_T120 l1 x19_2).f1)) := bC BK293 1; have hcz27_2 : w26.cell? ⟨gb293, 2, none⟩ = some (.int .i64 ((rd_T120 l1 x19_2).f2)) := bC BK293 2; have hcz27_3 : w26.cell? ⟨gb293, 3, none⟩ = some (.bool ((rd_T120 l1 x19_2).f3)) := bC BK293 3; have hfz27_0 := blk_frozen BK293.out 0; have hfz27_1 := blk_frozen BK293.out 1; have hfz27_2 := blk_frozen BK293.out 2; have hfz27_3 := blk_frozen BK293.out 3) | (go_at_call 75; (with_reducible refine (impl_InRange.calls ((rd_T120 l1 x19_2).f1) 0 1000 false _ A19.out).mono ?_); rintro e w' ⟨rfl, ⟨nd, rfl⟩⟩))
          go_meet
          case rel => exact ⟨_, (true), rS, H', ⟨by have := HJ2.out; have := HK2.out; first | omega | exact Nat.le_refl _⟩, ⟨bK BK293⟩, ⟨bG⟩⟩
       case rest =>
        clear HC12
        try clear c1
        try clear c2
        try clear p2
        try clear q2
        try clear hx2
        try clear c3
        try clear c5
        try clear c8
        try clear c9
        try clear c9b0
        try clear c10
        try clear c10b0
        try clear c11
        try clear c11b0
        try clear c16
        try clear c16b0
        try clear c20
        try clear c26
        try clear hcz14_0
        try clear hcz14_1
        try clear hcz14_2
        try clear hcz14_3
        try clear hcz17_0
        try clear hcz17_1
        try clear hcz17_2
        try clear hcz17_3
        try clear hcz22_0
        try clear hcz22_1
        try clear hcz22_2
        try clear hcz22_3
        try clear hcz24_0
        try clear hcz24_1
        try clear hcz24_2
        try clear hcz24_3
        try clear hcz25_0
        try clear hcz25_1
        try clear hcz25_2
        try clear hcz25_3
        try clear hcz27_0
        try clear hcz27_1
        try clear hcz27_2
        try clear hcz27_3
        try clear hfz14_0
        try clear hfz14_1
        try clear hfz14_2
        try clear hfz14_3
        try clear hfz17_0
        try clear hfz17_1
        try clear hfz17_2
        try clear hfz17_3
        try clear hfz22_0
        try clear hfz22_1
        try clear hfz22_2
        try clear hfz22_3
        try clear hfz24_0
        try clear hfz24_1
        try clear hfz24_2
        try clear hfz24_3
        try clear hfz25_0
        try clear hfz25_1
        try clear hfz25_2
        try clear hfz25_3
        try clear hfz27_0
        try clear hfz27_1
        try clear hfz27_2
        try clear hfz27_3
        try clear hx292_0
        try clear hx292_1
        try clear hx292_2
        try clear hx292_3
        try clear p2
        try clear p292
        try clear q292
        obtain ⟨kq, x40_11, rfl, HA, HJ11, BK293, HB⟩ := hcut
        cases kq with
        | zero => exact absurd HA.out (by simp [impl_AreDetectors.j2])
        | succ kj11 =>
         have H := HA.out
         clear HA
         simp only [impl_AreDetectors.j2] at H
         by_cases c28 : x40_11 = true
         ·
          subst c28
          have H1 : (some false) = some r := by rw [if_pos rfl] at H; exact H
          clear H
          have H := H1
          clear H1
          obtain rfl := Option.some.inj H
          go_wp2
          go_ret
          exact ⟨rA, bG⟩
         ·
          replace c28 := Bool.eq_false_iff.mpr c28
          subst c28
          have H1 : (if 0 ≤ x19_2 then (if x19_2 ≤ (l1.length : Int) then ((some (l1.take (x19_2 : Int).toNat : List (S120))).bind fun y297 => (impl_AreDetectors.l1 kj11 l0 l1 l1 (l1.length : Int) x19_2 y297 (y297.length : Int) 0 ((rd_T120 l1 x19_2).f0) ((rd_T120 l1 x19_2).f1) ((rd_T120 l1 x19_2).f2) ((rd_T120 l1 x19_2).f3))) else (none)) else (none)) = some r := by rw [if_neg (show ¬ (false = true) by decide)] at H; exact H
          clear H
          have H := H1
          clear H1
          have c29 : 0 ≤ x19_2 := ifN H
          replace H := ifT H
          have c29b0 := eq_true c29
          have c29b1 := decide_eq_true c29
          clear c29
          have c30 : x19_2 ≤ (l1.length : Int) := ifN H
          replace H := ifT H
          have c30b0 := eq_true c30
          have c30b1 := decide_eq_true c30
          clear c30
          obtain ⟨y297, hy297⟩ : ∃ y_ : List (S120), y_ = (l1.take (x19_2 : Int).toNat) := ⟨_, rfl⟩
          replace H : (impl_AreDetectors.l1 kj11 l0 l1 l1 (l1.length : Int) x19_2 y297 (y297.length : Int) 0 ((rd_T120 l1 x19_2).f0) ((rd_T120 l1 x19_2).f1) ((rd_T120 l1 x19_2).f2) ((rd_T120 l1 x19_2).f3)) = some r := by first | (rw [hy297]; with_reducible exact H) | (have H2_ := (Option.bind_some _ _).symm.trans H; rw [hy297]; with_reducible exact H2_) | (have H2_ := (Option.bind_some _ _).symm.trans H; with_reducible exact H2_) | with_reducible exact H | (rw [hy297]; exact H) | exact H
          have Ny297 := Aside0.mk hy297
          clear hy297
          have H' := Aside0.mk H
          clear H
          have q31 : (x19_2 : Int) ≤ ((l1.length : Int) : Int) := dA
          obtain ⟨i031, hi031, _, hsz31, _⟩ := info_parts info120
          have hroom31 : l1.length ≤ c1 := HC1.out
          have hC31 : Kd.C k120 _ (some ad292) l1.length l1 := HR1.out
          have hcut31 := cut_to (P := Try.prog) 43 120 .i64 Try.underlying43 hi031 (some ad292) l1.length c1 x19_2 (dA) q31 hroom31
          have hr31 := Kd.C_take (m := (x19_2 : Int).toNat) hC31 (by omega)
          have hy31 : y297.length = (x19_2 : Int).toNat := (by rw [Ny297.out, List.length_take]; omega)
          rw [← Ny297.out] at hr31
          rw [← hy31] at hcut31
          have HR300 := Aside0.mk hr31
          have HC300 := Aside0.mk (show y297.length ≤ c1 from by omega)
          clear hr31 hC31 hroom31 hi031 hsz31
          have KY31 := Aside0.mk hy31
          clear hy31
          replace q31 := eq_true q31
          go_wp2
          go_loopg [45] kj11 (fun kq v45 w' => ∃ (x45_4 : Int), v45 = .int .i64 x45_4 ∧ Aside0 (impl_AreDetectors.l1 kq l0 l1 l1 (l1.length : Int) x19_2 y297 (y297.length : Int) x45_4 ((rd_T120 l1 x19_2).f0) ((rd_T120 l1 x19_2).f1) ((rd_T120 l1 x19_2).f2) ((rd_T120 l1 x19_2).f3) = some r) ∧ Aside0 (kq ≤ kj11) ∧ Aside0 (w'.heap[gb293]? = some (.cells #[.int .i64 ((rd_T120 l1 x19_2).f0), .int .i64 ((rd_T120 l1 x19_2).f1), .int .i64 ((rd_T120 l1 x19_2).f2), .bool ((rd_T120 l1 x19_2).f3)] 120 (0, 0))) ∧ Aside0 (Below w.heap.size w w'))
          case atStart => exact ⟨(0), rS, H', ⟨Nat.le_refl _⟩, ⟨bK BK293⟩, ⟨bG⟩⟩
          case round =>
           clear H'
           try clear c1
           try clear c2
           try clear p2
           try clear q2
           try clear hx2
           try clear c3
           try clear q3
           try clear c5
           try clear c8
           try clear c9
           try clear c9b0
           try clear c10
           try clear c10b0
           try clear c11
           try clear c11b0
           try clear c16
           try clear c16b0
           try clear c20
           try clear c26
           try clear c28
           try clear c29
           try clear c29b0
           try clear c29b1
           try clear p29
           try clear q29
           try clear hx29
           try clear c30
           try clear c30b0
           try clear c30b1
           try clear q31
           try clear hcz14_0
           try clear hcz14_1
           try clear hcz14_2
           try clear hcz14_3
           try clear hcz17_0
           try clear hcz17_1
           try clear hcz17_2
           try clear hcz17_3
           try clear hcz22_0
           try clear hcz22_1
           try clear hcz22_2
           try clear hcz22_3
           try clear hcz24_0
           try clear hcz24_1
           try clear hcz24_2
           try clear hcz24_3
           try clear hcz25_0
           try clear hcz25_1
           try clear hcz25_2
           try clear hcz25_3
           try clear hcz27_0
           try clear hcz27_1
           try clear hcz27_2
           try clear hcz27_3
           try clear hfz14_0
           try clear hfz14_1
           try clear hfz14_2
           try clear hfz14_3
           try clear hfz17_0
           try clear hfz17_1
           try clear hfz17_2
           try clear hfz17_3
           try clear hfz22_0
           try clear hfz22_1
           try clear hfz22_2
           try clear hfz22_3
           try clear hfz24_0
           try clear hfz24_1
           try clear hfz24_2
           try clear hfz24_3
           try clear hfz25_0
           try clear hfz25_1
           try clear hfz25_2
           try clear hfz25_3
           try clear hfz27_0
           try clear hfz27_1
           try clear hfz27_2
           try clear hfz27_3
           try clear hx292_0
           try clear hx292_1
           try clear hx292_2
           try clear hx292_3
           try clear p2
           try clear p292
           try clear q2
           try clear q292
           try clear q31
           obtain ⟨x45_4, rfl, HA, HK4, BK293, HB⟩ := hrel
           cases gk with
           | zero => exact absurd HA.out (by simp [impl_AreDetectors.l1])
           | succ k4 =>
            have H := HA.out
            clear HA
            simp only [impl_AreDetectors.l1] at H
            by_cases c32 : x45_4 < (y297.length : Int)
            ·
             rw [if_pos c32] at H
             have c32b0 := decide_eq_true c32
             clear c32
             have c33 : 0 ≤ x45_4 := ifN H
             replace H := ifT H
             have c33b0 := decide_eq_true c33
             clear c33
             have c34 : x45_4 < (y297.length : Int) := ifN H
             replace H := ifT H
             have c34b0 := decide_eq_true c34
             clear c34
             by_cases c35 : ((rd_T120 l1 x19_2).f0) = ((rd_T120 y297 x45_4).f0)
             ·
              rw [if_pos c35] at H
              have c35b0 : (((rd_T120 l1 x19_2).f0) == ((rd_T120 y297 x45_4).f0)) = true := beq_iff_eq.mpr c35
              have c35b1 : (((rd_T120 l1 x19_2).f0) != ((rd_T120 y297 x45_4).f0)) = false := bne_eq_false_iff_eq.mpr c35
              clear c35
              obtain rfl := Option.some.inj H
              have p301 : 0 ≤ (x45_4 : Int) := dA
              have q301 : x45_4 < (y297.length : Int) := dA
              obtain ⟨ad301, e301, hx301_0, hx301_1, hx301_2, hx301_3⟩ := at_T120 HR300.out x45_4 p301 q301
              obtain rfl : ad292 = ad301 := (by injection e301)
              replace hx301_0 := hC HB hx301_0
              replace hx301_1 := hC HB hx301_1
              replace hx301_2 := hC HB hx301_2
              replace hx301_3 := hC HB hx301_3
              replace p301 := eq_true p301
              replace q301 := eq_true q301
              go_wp2_with (first | ((with_reducible refine gate_dst (N := 8) rfl ?_); (try (refine gate_guard (by rfl) ?_; dsimp only)); refine bE (N := 8) (cs := #[.int .i64 0, .int .i64 0, .int .i64 0, .bool false]) (t := 120) ?_; intro gb302 hg w36 hbox hb; have n0_ := Aside0.mk (blk_below (g := gb293) (bK BK293) hb); have n1_ := Aside0.mk (below_step bG hb); have n2_ := Aside0.mk (hbox); have n3_ := Aside0.mk ((by rw [hg]; exact (below_size bG) : w.heap.size ≤ gb302)); have n4_ := Aside0.mk ((by rw [hg]; exact (below_size bG) : w.heap.size ≤ gb302)); have n5_ := Aside0.mk ((by rw [hg]; exact Nat.ne_of_lt (blk_lt (g := gb293) (o := .cells #[.int .i64 ((rd_T120 l1 x19_2).f0), .int .i64 ((rd_T120 l1 x19_2).f1), .int .i64 ((rd_T120 l1 x19_2).f2), .bool ((rd_T120 l1 x19_2).f3)] 120 (0, 0)) (bK BK293)) : gb293 ≠ gb302)); have n6_ := Aside0.mk ((by rw [hg]; exact Nat.ne_of_gt (blk_lt (g := gb293) (o := .cells #[.int .i64 ((rd_T120 l1 x19_2).f0), .int .i64 ((rd_T120 l1 x19_2).f1), .int .i64 ((rd_T120 l1 x19_2).f2), .bool ((rd_T120 l1 x19_2).f3)] 120 (0, 0)) (bK BK293)) : gb302 ≠ gb293)); clear BK293; clear HB; have BK293 := n0_; have HB := n1_; have BK302 := n2_; have GW302 := n3_; have GE302 := n4_; have NB293_302 := n5_; have NB302_293 := n6_; clear n0_ n1_ n2_ n3_ n4_ n5_ n6_; clear hb hbox hg; have hnb37 := NB302_293.out; have hnc37 := NB293_302.out; obtain ⟨hcz38_0, hcz38_1, hcz38_2, hcz38_3, hfz38_0, hfz38_1, hfz38_2, hfz38_3⟩ := blkc4 BK302; obtain ⟨hcz39_0, hcz39_1, hcz39_2, hcz39_3, hfz39_0, hfz39_1, hfz39_2, hfz39_3⟩ := blkc4 BK293))
              go_ret
              exact ⟨rA, bG⟩
             ·
              rw [if_neg c35] at H
              have c35b0 : (((rd_T120 l1 x19_2).f0) == ((rd_T120 y297 x45_4).f0)) = false := beq_eq_false_iff_ne.mpr c35
              have c35b1 : (((rd_T120 l1 x19_2).f0) != ((rd_T120 y297 x45_4).f0)) = true := bne_iff_ne.mpr c35
              have H' := Aside0.mk H
              clear H
              have p301 : 0 ≤ (x45_4 : Int) := dA
              have q301 : x45_4 < (y297.length : Int) := dA
              obtain ⟨ad301, e301, hx301_0, hx301_1, hx301_2, hx301_3⟩ := at_T120 HR300.out x45_4 p301 q301
              obtain rfl : ad292 = ad301 := (by injection e301)
              replace hx301_0 := hC HB hx301_0
              replace hx301_1 := hC HB hx301_1
              replace hx301_2 := hC HB hx301_2
              replace hx301_3 := hC HB hx301_3
              replace p301 := eq_true p301
              replace q301 := eq_true q301
              go_wp2_with (first | ((with_reducible refine gate_dst (N := 8) rfl ?_); (try (refine gate_guard (by rfl) ?_; dsimp only)); refine bE (N := 8) (cs := #[.int .i64 0, .int .i64 0, .int .i64 0, .bool false]) (t := 120) ?_; intro gb302 hg w40 hbox hb; have n0_ := Aside0.mk (blk_below (g := gb293) (bK BK293) hb); have n1_ := Aside0.mk (below_step bG hb); have n2_ := Aside0.mk (hbox); have n3_ := Aside0.mk ((by rw [hg]; exact (below_size bG) : w.heap.size ≤ gb302)); have n4_ := Aside0.mk ((by rw [hg]; exact (below_size bG) : w.heap.size ≤ gb302)); have n5_ := Aside0.mk ((by rw [hg]; exact Nat.ne_of_lt (blk_lt (g := gb293) (o := .cells #[.int .i64 ((rd_T120 l1 x19_2).f0), .int .i64 ((rd_T120 l1 x19_2).f1), .int .i64 ((rd_T120 l1 x19_2).f2), .bool ((rd_T120 l1 x19_2).f3)] 120 (0, 0)) (bK BK293)) : gb293 ≠ gb302)); have n6_ := Aside0.mk ((by rw [hg]; exact Nat.ne_of_gt (blk_lt (g := gb293) (o := .cells #[.int .i64 ((rd_T120 l1 x19_2).f0), .int .i64 ((rd_T120 l1 x19_2).f1), .int .i64 ((rd_T120 l1 x19_2).f2), .bool ((rd_T120 l1 x19_2).f3)] 120 (0, 0)) (bK BK293)) : gb302 ≠ gb293)); clear BK293; clear HB; have BK293 := n0_; have HB := n1_; have BK302 := n2_; have GW302 := n3_; have GE302 := n4_; have NB293_302 := n5_; have NB302_293 := n6_; clear n0_ n1_ n2_ n3_ n4_ n5_ n6_; clear hb hbox hg; have hnb41 := NB302_293.out; have hnc41 := NB293_302.out; obtain ⟨hcz42_0, hcz42_1, hcz42_2, hcz42_3, hfz42_0, hfz42_1, hfz42_2, hfz42_3⟩ := blkc4 BK302; obtain ⟨hcz43_0, hcz43_1, hcz43_2, hcz43_3, hfz43_0, hfz43_1, hfz43_2, hfz43_3⟩ := blkc4 BK293))
              go_roundg k4
              case measure => have := HJ2.out; have := HK2.out; have := HJ11.out; have := HK4.out; omega
              case rel => exact ⟨(wrap64 (x45_4 + 1)), rS, H', ⟨by have := HJ2.out; have := HK2.out; have := HJ11.out; have := HK4.out; omega⟩, ⟨by (with_reducible repeat (first | refine blk_drewN ?_ _ | refine blk_drew ?_ | refine blk_alloc ?_ _)); refine blk_far ?_ NB293_302.out _; (with_reducible repeat (first | refine blk_drewN ?_ _ | refine blk_drew ?_ | refine blk_alloc ?_ _)); refine blk_far ?_ NB293_302.out _; (with_reducible repeat (first | refine blk_drewN ?_ _ | refine blk_drew ?_ | refine blk_alloc ?_ _)); refine blk_far ?_ NB293_302.out _; (with_reducible repeat (first | refine blk_drewN ?_ _ | refine blk_drew ?_ | refine blk_alloc ?_ _)); refine blk_far ?_ NB293_302.out _; (with_reducible repeat (first | refine blk_drewN ?_ _ | refine blk_drew ?_ | refine blk_alloc ?_ _)); exact BK293.out⟩, ⟨bG⟩⟩
            ·
             rw [if_neg c32] at H
             have c32b0 := decide_eq_false c32
             clear c32
             have H' := Aside0.mk H
             clear H
             go_wp2
             go_roundg k4
             case measure => have := HJ2.out; have := HK2.out; have := HJ11.out; have := HK4.out; omega
             case rel => exact ⟨(wrap64 (x19_2 + 1)), rS, H', ⟨by have := HJ2.out; have := HK2.out; have := HJ11.out; have := HK4.out; omega⟩, ⟨bG⟩⟩
      ·
       rw [if_neg c9] at H
       have c9b0 := decide_eq_false c9
       clear c9
       obtain rfl := Option.some.inj H
       go_wp2
       go_ret
       exact ⟨rA, bA⟩

/-! ### impl_LowDemand: function 27 -/
def impl_LowDemand.f (l0 : List (S120)) (a1 : Int) : Option (Int) := (impl_trusted.f l0 a1).bind fun t303 => (if t303 < 0 then (some 0) else (if 0 ≤ t303 then (if t303 < (l0.length : Int) then (some ((rd_T120 l0 t303).f1)) else (none)) else (none)))
set_option maxHeartbeats 8000000 in
set_option maxRecDepth 100000 in
theorem impl_LowDemand.calls (A0 : Option Addr) (c0 : Nat) (l0 : List (S120)) (a1 : Int) (r : Int) (w : World) (hr0 : Kd.C k120 w A0 l0.length l0) (hc0 : l0.length ≤ c0) (h : impl_LowDemand.f l0 a1 = some r) :
  Calls Try.prog 27 #[.slice A0 l0.length c0, .int .i64 a1] w fun e w' => e = .returned (.int .i64 r) ∧ Below w.heap.size w w' := by
 have HR0 := Aside0.mk hr0
 have HC0 := Aside0.mk hc0
 clear hr0 hc0
 have HB := Aside0.mk (Below.refl w.heap.size w)
 have H : ((impl_trusted.f l0 a1).bind fun t303 => (if t303 < 0 then (some 0) else (if 0 ≤ t303 then (if t303 < (l0.length : Int) then (some ((rd_T120 l0 t303).f1)) else (none)) else (none)))) = some r := h
 clear h
 obtain ⟨t303, A3, H⟩ := bindE H
 try dsimp only at H
 by_cases c4 : t303 < 0
 ·
  rw [if_pos c4] at H
  have c4b0 := decide_eq_true c4
  clear c4
  obtain rfl := Option.some.inj H
  go_enter Try.func27, Try.ntmps27
  go_wp2_with (first | ((with_reducible refine gate_callee (f := 88) rfl ?_); refine gL (some 8) Try.func88 #[.slice A0 l0.length c0, .int .i64 a1] ?_; (with_reducible refine (impl_trusted.calls _ _ l0 a1 t303 _ ?side1 ?side2 A3.out).mono ?_); (case side1 => exact cO HR0); (case side2 => exact HC0.out); rintro e w5 ⟨rfl, hb⟩; refine ⟨_, rfl, ?_⟩; replace HB := Aside0.mk (below_step bA hb); (try clear hb)))
  go_ret
  exact ⟨rA, bA⟩
 ·
  rw [if_neg c4] at H
  have c4b0 := decide_eq_false c4
  clear c4
  have c6 : 0 ≤ t303 := ifN H
  replace H := ifT H
  have c6b0 := decide_eq_true c6
  clear c6
  have c7 : t303 < (l0.length : Int) := ifN H
  replace H := ifT H
  have c7b0 := decide_eq_true c7
  clear c7
  obtain rfl := Option.some.inj H
  go_enter Try.func27, Try.ntmps27
  go_wp2_with (first | ((with_reducible refine gate_callee (f := 88) rfl ?_); refine gL (some 8) Try.func88 #[.slice A0 l0.length c0, .int .i64 a1] ?_; (with_reducible refine (impl_trusted.calls _ _ l0 a1 t303 _ ?side1 ?side2 A3.out).mono ?_); (case side1 => exact cO HR0); (case side2 => exact HC0.out); rintro e w8 ⟨rfl, hb⟩; refine ⟨_, rfl, ?_⟩; replace HB := Aside0.mk (below_step bA hb); (try clear hb); have p304 : 0 ≤ (t303 : Int) := dA; have q304 : t303 < (l0.length : Int) := dA; obtain ⟨ad304, e304, hx304_0, hx304_1, hx304_2, hx304_3⟩ := at_T120 HR0.out t303 p304 q304; cases e304; replace hx304_0 := hC HB hx304_0; replace hx304_1 := hC HB hx304_1; replace hx304_2 := hC HB hx304_2; replace hx304_3 := hC HB hx304_3; replace p304 := eq_true p304; replace q304 := eq_true q304))
  go_ret
  exact ⟨rA, bA⟩

/-! ### impl_HighDemand: function 28 -/
def impl_HighDemand.f (l0 : List (S120)) (a1 : Int) : Option (Int) := (impl_trusted.f l0 a1).bind fun t305 => (if t305 < 0 then (some 1000) else (if 0 ≤ t305 then (if t305 < (l0.length : Int) then (some ((rd_T120 l0 t305).f1)) else (none)) else (none)))
set_option maxHeartbeats 8000000 in
set_option maxRecDepth 100000 in
theorem impl_HighDemand.calls (A0 : Option Addr) (c0 : Nat) (l0 : List (S120)) (a1 : Int) (r : Int) (w : World) (hr0 : Kd.C k120 w A0 l0.length l0) (hc0 : l0.length ≤ c0) (h : impl_HighDemand.f l0 a1 = some r) :
  Calls Try.prog 28 #[.slice A0 l0.length c0, .int .i64 a1] w fun e w' => e = .returned (.int .i64 r) ∧ Below w.heap.size w w' := by
 have HR0 := Aside0.mk hr0
 have HC0 := Aside0.mk hc0
 clear hr0 hc0
 have HB := Aside0.mk (Below.refl w.heap.size w)
 have H : ((impl_trusted.f l0 a1).bind fun t305 => (if t305 < 0 then (some 1000) else (if 0 ≤ t305 then (if t305 < (l0.length : Int) then (some ((rd_T120 l0 t305).f1)) else (none)) else (none)))) = some r := h
 clear h
 obtain ⟨t305, A3, H⟩ := bindE H
 try dsimp only at H
 by_cases c4 : t305 < 0
 ·
  rw [if_pos c4] at H
  have c4b0 := decide_eq_true c4
  clear c4
  obtain rfl := Option.some.inj H
  go_enter Try.func28, Try.ntmps28
  go_wp2_with (first | ((with_reducible refine gate_callee (f := 88) rfl ?_); refine gL (some 8) Try.func88 #[.slice A0 l0.length c0, .int .i64 a1] ?_; (with_reducible refine (impl_trusted.calls _ _ l0 a1 t305 _ ?side1 ?side2 A3.out).mono ?_); (case side1 => exact cO HR0); (case side2 => exact HC0.out); rintro e w5 ⟨rfl, hb⟩; refine ⟨_, rfl, ?_⟩; replace HB := Aside0.mk (below_step bA hb); (try clear hb)))
  go_ret
  exact ⟨rA, bA⟩
 ·
  rw [if_neg c4] at H
  have c4b0 := decide_eq_false c4
  clear c4
  have c6 : 0 ≤ t305 := ifN H
  replace H := ifT H
  have c6b0 := decide_eq_true c6
  clear c6
  have c7 : t305 < (l0.length : Int) := ifN H
  replace H := ifT H
  have c7b0 := decide_eq_true c7
  clear c7
  obtain rfl := Option.some.inj H
  go_enter Try.func28, Try.ntmps28
  go_wp2_with (first | ((with_reducible refine gate_callee (f := 88) rfl ?_); refine gL (some 8) Try.func88 #[.slice A0 l0.length c0, .int .i64 a1] ?_; (with_reducible refine (impl_trusted.calls _ _ l0 a1 t305 _ ?side1 ?side2 A3.out).mono ?_); (case side1 => exact cO HR0); (case side2 => exact HC0.out); rintro e w8 ⟨rfl, hb⟩; refine ⟨_, rfl, ?_⟩; replace HB := Aside0.mk (below_step bA hb); (try clear hb); have p306 : 0 ≤ (t305 : Int) := dA; have q306 : t305 < (l0.length : Int) := dA; obtain ⟨ad306, e306, hx306_0, hx306_1, hx306_2, hx306_3⟩ := at_T120 HR0.out t305 p306 q306; cases e306; replace hx306_0 := hC HB hx306_0; replace hx306_1 := hC HB hx306_1; replace hx306_2 := hC HB hx306_2; replace hx306_3 := hC HB hx306_3; replace p306 := eq_true p306; replace q306 := eq_true q306))
  go_ret
  exact ⟨rA, bA⟩

/-! ### laws_contains: function 29 -/
def laws_contains.l0 : Nat → List Int → Int → Int → Option (Bool)
 | 0, _, _, _ => none
 | k + 1, x0, x1, x5 => if x5 < (x0.length : Int) then (if 0 ≤ x5 then (if (rd x0 x5) = x1 then (some true) else (laws_contains.l0 k x0 x1 (wrap64 (x5 + 1)))) else (none)) else (some false)
def laws_contains.f (k : Nat) (l0 : List Int) (a1 : Int) : Option (Bool) := laws_contains.l0 k l0 a1 0
theorem laws_contains.mono_l : ∀ k, (∀ y0 y1 y2, LeO (laws_contains.l0 k y0 y1 y2) (laws_contains.l0 (k + 1) y0 y1 y2))
 | 0 => fun _ _ _ r h => by simp [laws_contains.l0] at h
 | k + 1 => by
  have ih0 := laws_contains.mono_l k
  ·
   intro y0 y1 y2
   unfold laws_contains.l0
   repeat' first | (with_reducible first | exact LeO.refl _ | exact LeO.none _ | refine LeO.ite ?_ ?_ | refine LeO.bind ?_ (fun _ => ?_) | exact ih0 _ _ _)
theorem laws_contains.mono : ∀ a0 a1 k, LeO (laws_contains.f k a0 a1) (laws_contains.f (k + 1) a0 a1) := by
 intro a0 a1 k
 have ih0 := laws_contains.mono_l k
 unfold laws_contains.f
 repeat' first | (with_reducible first | exact LeO.refl _ | exact LeO.none _ | refine LeO.ite ?_ ?_ | refine LeO.bind ?_ (fun _ => ?_) | exact ih0 _ _ _)
set_option maxHeartbeats 8000000 in
set_option maxRecDepth 100000 in
theorem laws_contains.calls (k : Nat) (A0 : Option Addr) (c0 : Nat) (l0 : List Int) (a1 : Int) (r : Bool) (w : World) (hr0 : Kd.C (Kd.int .i64) w A0 l0.length l0) (hc0 : l0.length ≤ c0) (h : laws_contains.f k l0 a1 = some r) :
  Calls Try.prog 29 #[.slice A0 l0.length c0, .int .i64 a1] w fun e w' => e = .returned (.bool r) ∧ Drawn0 w w' := by
 have HR0 := Aside0.mk hr0
 have HC0 := Aside0.mk hc0
 clear hr0 hc0
 have H : (laws_contains.l0 k l0 a1 0) = some r := h
 clear h
 have H' := Aside0.mk H
 clear H
 go_enter Try.func29, Try.ntmps29
 go_wp2
 go_loopg [5] k (fun kq v5 w' => ∃ (x5_1 : Int), v5 = .int .i64 x5_1 ∧ Aside0 (laws_contains.l0 kq l0 a1 x5_1 = some r) ∧ Aside0 (kq ≤ k) ∧ Drawn0 w w')
 case atStart => exact ⟨(0), rS, H', ⟨Nat.le_refl _⟩, by repeat (first | exact Drawn0.refl _ | apply Drawn0.step)⟩
 case round =>
  clear H'
  try clear c2
  try clear p2
  obtain ⟨x5_1, rfl, HA, HK1, ⟨m1, rfl⟩⟩ := hrel
  cases gk with
  | zero => exact absurd HA.out (by simp [laws_contains.l0])
  | succ k1 =>
   have H := HA.out
   clear HA
   simp only [laws_contains.l0] at H
   by_cases c3 : x5_1 < (l0.length : Int)
   ·
    rw [if_pos c3] at H
    have c3b0 := decide_eq_true c3
    clear c3
    have c4 : 0 ≤ x5_1 := ifN H
    replace H := ifT H
    have c4b0 := decide_eq_true c4
    clear c4
    by_cases c5 : (rd l0 x5_1) = a1
    ·
     rw [if_pos c5] at H
     have c5b0 : ((rd l0 x5_1) == a1) = true := beq_iff_eq.mpr c5
     have c5b1 : ((rd l0 x5_1) != a1) = false := bne_eq_false_iff_eq.mpr c5
     clear c5
     obtain rfl := Option.some.inj H
     have p307 : 0 ≤ (x5_1 : Int) := dA
     have q307 : x5_1 < (l0.length : Int) := dA
     obtain ⟨ad307, e307, hx307_0⟩ := Kd.at_int HR0.out x5_1 p307 q307
     cases e307
     replace p307 := eq_true p307
     replace q307 := eq_true q307
     go_wp2
     go_ret
     exact ⟨by first | rfl | (simp; done) | (simp [*]; done), by repeat (first | exact Drawn0.refl _ | apply Drawn0.step)⟩
    ·
     rw [if_neg c5] at H
     have c5b0 : ((rd l0 x5_1) == a1) = false := beq_eq_false_iff_ne.mpr c5
     have c5b1 : ((rd l0 x5_1) != a1) = true := bne_iff_ne.mpr c5
     have H' := Aside0.mk H
     clear H
     have p307 : 0 ≤ (x5_1 : Int) := dA
     have q307 : x5_1 < (l0.length : Int) := dA
     obtain ⟨ad307, e307, hx307_0⟩ := Kd.at_int HR0.out x5_1 p307 q307
     cases e307
     replace p307 := eq_true p307
     replace q307 := eq_true q307
     go_wp2
     go_roundg k1
     case measure => have := HK1.out; omega
     case rel => exact ⟨(wrap64 (x5_1 + 1)), rS, H', ⟨by have := HK1.out; omega⟩, by repeat (first | exact Drawn0.refl _ | apply Drawn0.step)⟩
   ·
    rw [if_neg c3] at H
    have c3b0 := decide_eq_false c3
    clear c3
    obtain rfl := Option.some.inj H
    go_wp2
    go_ret
    exact ⟨by first | rfl | (simp; done) | (simp [*]; done), by repeat (first | exact Drawn0.refl _ | apply Drawn0.step)⟩

/-! ### spec_l1In: function 111 -/
def spec_l1In.f (a0 : Int) (a1 : Int) (a2 : Int) : Option (Bool) := if a0 ≥ a1 then (some (decide (a0 ≤ a2))) else (some false)
set_option maxHeartbeats 8000000 in
set_option maxRecDepth 100000 in
theorem spec_l1In.calls (a0 : Int) (a1 : Int) (a2 : Int) (r : Bool) (w : World) (h : spec_l1In.f a0 a1 a2 = some r) :
  Calls Try.prog 111 #[.int .i64 a0, .int .i64 a1, .int .i64 a2] w fun e w' => e = .returned (.bool r) ∧ Drawn0 w w' := by
 have H : (if a0 ≥ a1 then (some (decide (a0 ≤ a2))) else (some false)) = some r := h
 clear h
 by_cases c4 : a0 ≥ a1
 ·
  rw [if_pos c4] at H
  have c4b0 := decide_eq_true c4
  clear c4
  obtain rfl := Option.some.inj H
  go_enter Try.func111, Try.ntmps111
  go_wp2
  go_ret
  exact ⟨by first | rfl | (simp; done) | (simp [*]; done), by repeat (first | exact Drawn0.refl _ | apply Drawn0.step)⟩
 ·
  rw [if_neg c4] at H
  have c4b0 := decide_eq_false c4
  clear c4
  obtain rfl := Option.some.inj H
  go_enter Try.func111, Try.ntmps111
  go_wp2
  go_ret
  exact ⟨by first | rfl | (simp; done) | (simp [*]; done), by repeat (first | exact Drawn0.refl _ | apply Drawn0.step)⟩

/-! ### spec_IsPath: function 91 -/
def spec_IsPath.f (a0_0 : Int) (a0_1 : Int) (a0_2 : Int) (a0_3 : Int) : Option (Bool) := (spec_l1In.f a0_0 1 20).bind fun t309 => (if t309 = true then ((spec_l1In.f a0_1 1 3).bind fun t310 => (if t310 = true then ((spec_l1In.f a0_2 0 3).bind fun t311 => (if t311 = true then ((spec_l1In.f a0_3 0 3).bind fun t312 => (if t312 = true then (some ((a0_2 == a0_3) == (a0_1 == 2))) else (some false))) else (some false))) else (some false))) else (some false))
set_option maxHeartbeats 8000000 in
set_option maxRecDepth 100000 in
theorem spec_IsPath.calls (a0_0 : Int) (a0_1 : Int) (a0_2 : Int) (a0_3 : Int) (r : Bool) (w : World) (h : spec_IsPath.f a0_0 a0_1 a0_2 a0_3 = some r) :
  Calls Try.prog 91 #[.agg #[.int .i64 a0_0, .int .i64 a0_1, .int .i64 a0_2, .int .i64 a0_3]] w fun e w' => e = .returned (.bool r) ∧ Below w.heap.size w w' := by
 have hu50 := Try.underlying50
 have HB := Aside0.mk (Below.refl w.heap.size w)
 have H : ((spec_l1In.f a0_0 1 20).bind fun t309 => (if t309 = true then ((spec_l1In.f a0_1 1 3).bind fun t310 => (if t310 = true then ((spec_l1In.f a0_2 0 3).bind fun t311 => (if t311 = true then ((spec_l1In.f a0_3 0 3).bind fun t312 => (if t312 = true then (some ((a0_2 == a0_3) == (a0_1 == 2))) else (some false))) else (some false))) else (some false))) else (some false))) = some r := h
 clear h
 obtain ⟨t309, A2, H⟩ := bindE H
 try dsimp only at H
 by_cases c3 : t309 = true
 ·
  subst c3
  have H1 : ((spec_l1In.f a0_1 1 3).bind fun t310 => (if t310 = true then ((spec_l1In.f a0_2 0 3).bind fun t311 => (if t311 = true then ((spec_l1In.f a0_3 0 3).bind fun t312 => (if t312 = true then (some ((a0_2 == a0_3) == (a0_1 == 2))) else (some false))) else (some false))) else (some false))) = some r := by rw [if_pos rfl] at H; exact H
  clear H
  have H := H1
  clear H1
  obtain ⟨t310, A4, H⟩ := bindE H
  try dsimp only at H
  by_cases c5 : t310 = true
  ·
   subst c5
   have H1 : ((spec_l1In.f a0_2 0 3).bind fun t311 => (if t311 = true then ((spec_l1In.f a0_3 0 3).bind fun t312 => (if t312 = true then (some ((a0_2 == a0_3) == (a0_1 == 2))) else (some false))) else (some false))) = some r := by rw [if_pos rfl] at H; exact H
   clear H
   have H := H1
   clear H1
   obtain ⟨t311, A6, H⟩ := bindE H
   try dsimp only at H
   by_cases c7 : t311 = true
   ·
    subst c7
    have H1 : ((spec_l1In.f a0_3 0 3).bind fun t312 => (if t312 = true then (some ((a0_2 == a0_3) == (a0_1 == 2))) else (some false))) = some r := by rw [if_pos rfl] at H; exact H
    clear H
    have H := H1
    clear H1
    obtain ⟨t312, A8, H⟩ := bindE H
    try dsimp only at H
    by_cases c9 : t312 = true
    ·
     subst c9
     have H1 : (some ((a0_2 == a0_3) == (a0_1 == 2))) = some r := by rw [if_pos rfl] at H; exact H
     clear H
     have H := H1
     clear H1
     obtain rfl := Option.some.inj H
     go_enter Try.func91, Try.ntmps91
     go_wp2_with (first | ((with_reducible refine gate_dst (N := 1) rfl ?_); refine bE (N := 1) (cs := #[.int .i64 a0_0, .int .i64 a0_1, .int .i64 a0_2, .int .i64 a0_3]) (t := 50) ?_; intro gb308 hg w10 hbox hb; have n0_ := Aside0.mk (below_step bA hb); have n1_ := Aside0.mk (hbox); have n2_ := Aside0.mk ((by rw [hg]; exact (below_size bA) : w.heap.size ≤ gb308)); have n3_ := Aside0.mk ((by rw [hg]; exact (below_size bA) : w.heap.size ≤ gb308)); clear HB; have HB := n0_; have BK308 := n1_; have GW308 := n2_; have GE308 := n3_; clear n0_ n1_ n2_ n3_; clear hb hbox hg; have hcz11_0 : w10.cell? ⟨gb308, 0, none⟩ = some (.int .i64 a0_0) := bC BK308 0; have hcz11_1 : w10.cell? ⟨gb308, 1, none⟩ = some (.int .i64 a0_1) := bC BK308 1; have hcz11_2 : w10.cell? ⟨gb308, 2, none⟩ = some (.int .i64 a0_2) := bC BK308 2; have hcz11_3 : w10.cell? ⟨gb308, 3, none⟩ = some (.int .i64 a0_3) := bC BK308 3; have hfz11_0 := blk_frozen BK308.out 0; have hfz11_1 := blk_frozen BK308.out 1; have hfz11_2 := blk_frozen BK308.out 2; have hfz11_3 := blk_frozen BK308.out 3) | ((with_reducible refine gate_callee (f := 111) rfl ?_); refine gL (some 5) Try.func111 #[.int .i64 a0_0, .int .i64 1, .int .i64 20] ?_; (with_reducible refine (spec_l1In.calls a0_0 1 20 true _ A2.out).mono ?_); rintro e w' ⟨rfl, ⟨nd, rfl⟩⟩; refine ⟨_, rfl, ?_⟩) | (go_at_call 111; (with_reducible refine (spec_l1In.calls a0_1 1 3 true _ A4.out).mono ?_); rintro e w' ⟨rfl, ⟨nd, rfl⟩⟩) | (go_at_call 111; (with_reducible refine (spec_l1In.calls a0_2 0 3 true _ A6.out).mono ?_); rintro e w' ⟨rfl, ⟨nd, rfl⟩⟩) | (go_at_call 111; (with_reducible refine (spec_l1In.calls a0_3 0 3 true _ A8.out).mono ?_); rintro e w' ⟨rfl, ⟨nd, rfl⟩⟩))
     go_ret
     exact ⟨rA, bG⟩
    ·
     replace c9 := Bool.eq_false_iff.mpr c9
     subst c9
     have H1 : (some false) = some r := by rw [if_neg (show ¬ (false = true) by decide)] at H; exact H
     clear H
     have H := H1
     clear H1
     obtain rfl := Option.some.inj H
     go_enter Try.func91, Try.ntmps91
     go_wp2_with (first | ((with_reducible refine gate_dst (N := 1) rfl ?_); refine bE (N := 1) (cs := #[.int .i64 a0_0, .int .i64 a0_1, .int .i64 a0_2, .int .i64 a0_3]) (t := 50) ?_; intro gb308 hg w12 hbox hb; have n0_ := Aside0.mk (below_step bA hb); have n1_ := Aside0.mk (hbox); have n2_ := Aside0.mk ((by rw [hg]; exact (below_size bA) : w.heap.size ≤ gb308)); have n3_ := Aside0.mk ((by rw [hg]; exact (below_size bA) : w.heap.size ≤ gb308)); clear HB; have HB := n0_; have BK308 := n1_; have GW308 := n2_; have GE308 := n3_; clear n0_ n1_ n2_ n3_; clear hb hbox hg; have hcz13_0 : w12.cell? ⟨gb308, 0, none⟩ = some (.int .i64 a0_0) := bC BK308 0; have hcz13_1 : w12.cell? ⟨gb308, 1, none⟩ = some (.int .i64 a0_1) := bC BK308 1; have hcz13_2 : w12.cell? ⟨gb308, 2, none⟩ = some (.int .i64 a0_2) := bC BK308 2; have hcz13_3 : w12.cell? ⟨gb308, 3, none⟩ = some (.int .i64 a0_3) := bC BK308 3; have hfz13_0 := blk_frozen BK308.out 0; have hfz13_1 := blk_frozen BK308.out 1; have hfz13_2 := blk_frozen BK308.out 2; have hfz13_3 := blk_frozen BK308.out 3) | ((with_reducible refine gate_callee (f := 111) rfl ?_); refine gL (some 5) Try.func111 #[.int .i64 a0_0, .int .i64 1, .int .i64 20] ?_; (with_reducible refine (spec_l1In.calls a0_0 1 20 true _ A2.out).mono ?_); rintro e w' ⟨rfl, ⟨nd, rfl⟩⟩; refine ⟨_, rfl, ?_⟩) | (go_at_call 111; (with_reducible refine (spec_l1In.calls a0_1 1 3 true _ A4.out).mono ?_); rintro e w' ⟨rfl, ⟨nd, rfl⟩⟩) | (go_at_call 111; (with_reducible refine (spec_l1In.calls a0_2 0 3 true _ A6.out).mono ?_); rintro e w' ⟨rfl, ⟨nd, rfl⟩⟩) | (go_at_call 111; (with_reducible refine (spec_l1In.calls a0_3 0 3 false _ A8.out).mono ?_); rintro e w' ⟨rfl, ⟨nd, rfl⟩⟩))
     go_ret
     exact ⟨rA, bG⟩
   ·
    replace c7 := Bool.eq_false_iff.mpr c7
    subst c7
    have H1 : (some false) = some r := by rw [if_neg (show ¬ (false = true) by decide)] at H; exact H
    clear H
    have H := H1
    clear H1
    obtain rfl := Option.some.inj H
    go_enter Try.func91, Try.ntmps91
    go_wp2_with (first | ((with_reducible refine gate_dst (N := 1) rfl ?_); refine bE (N := 1) (cs := #[.int .i64 a0_0, .int .i64 a0_1, .int .i64 a0_2, .int .i64 a0_3]) (t := 50) ?_; intro gb308 hg w14 hbox hb; have n0_ := Aside0.mk (below_step bA hb); have n1_ := Aside0.mk (hbox); have n2_ := Aside0.mk ((by rw [hg]; exact (below_size bA) : w.heap.size ≤ gb308)); have n3_ := Aside0.mk ((by rw [hg]; exact (below_size bA) : w.heap.size ≤ gb308)); clear HB; have HB := n0_; have BK308 := n1_; have GW308 := n2_; have GE308 := n3_; clear n0_ n1_ n2_ n3_; clear hb hbox hg; have hcz15_0 : w14.cell? ⟨gb308, 0, none⟩ = some (.int .i64 a0_0) := bC BK308 0; have hcz15_1 : w14.cell? ⟨gb308, 1, none⟩ = some (.int .i64 a0_1) := bC BK308 1; have hcz15_2 : w14.cell? ⟨gb308, 2, none⟩ = some (.int .i64 a0_2) := bC BK308 2; have hcz15_3 : w14.cell? ⟨gb308, 3, none⟩ = some (.int .i64 a0_3) := bC BK308 3; have hfz15_0 := blk_frozen BK308.out 0; have hfz15_1 := blk_frozen BK308.out 1; have hfz15_2 := blk_frozen BK308.out 2; have hfz15_3 := blk_frozen BK308.out 3) | ((with_reducible refine gate_callee (f := 111) rfl ?_); refine gL (some 5) Try.func111 #[.int .i64 a0_0, .int .i64 1, .int .i64 20] ?_; (with_reducible refine (spec_l1In.calls a0_0 1 20 true _ A2.out).mono ?_); rintro e w' ⟨rfl, ⟨nd, rfl⟩⟩; refine ⟨_, rfl, ?_⟩) | (go_at_call 111; (with_reducible refine (spec_l1In.calls a0_1 1 3 true _ A4.out).mono ?_); rintro e w' ⟨rfl, ⟨nd, rfl⟩⟩) | (go_at_call 111; (with_reducible refine (spec_l1In.calls a0_2 0 3 false _ A6.out).mono ?_); rintro e w' ⟨rfl, ⟨nd, rfl⟩⟩))
    go_ret
    exact ⟨rA, bG⟩
  ·
   replace c5 := Bool.eq_false_iff.mpr c5
   subst c5
   have H1 : (some false) = some r := by rw [if_neg (show ¬ (false = true) by decide)] at H; exact H
   clear H
   have H := H1
   clear H1
   obtain rfl := Option.some.inj H
   go_enter Try.func91, Try.ntmps91
   go_wp2_with (first | ((with_reducible refine gate_dst (N := 1) rfl ?_); refine bE (N := 1) (cs := #[.int .i64 a0_0, .int .i64 a0_1, .int .i64 a0_2, .int .i64 a0_3]) (t := 50) ?_; intro gb308 hg w16 hbox hb; have n0_ := Aside0.mk (below_step bA hb); have n1_ := Aside0.mk (hbox); have n2_ := Aside0.mk ((by rw [hg]; exact (below_size bA) : w.heap.size ≤ gb308)); have n3_ := Aside0.mk ((by rw [hg]; exact (below_size bA) : w.heap.size ≤ gb308)); clear HB; have HB := n0_; have BK308 := n1_; have GW308 := n2_; have GE308 := n3_; clear n0_ n1_ n2_ n3_; clear hb hbox hg; have hcz17_0 : w16.cell? ⟨gb308, 0, none⟩ = some (.int .i64 a0_0) := bC BK308 0; have hcz17_1 : w16.cell? ⟨gb308, 1, none⟩ = some (.int .i64 a0_1) := bC BK308 1; have hcz17_2 : w16.cell? ⟨gb308, 2, none⟩ = some (.int .i64 a0_2) := bC BK308 2; have hcz17_3 : w16.cell? ⟨gb308, 3, none⟩ = some (.int .i64 a0_3) := bC BK308 3; have hfz17_0 := blk_frozen BK308.out 0; have hfz17_1 := blk_frozen BK308.out 1; have hfz17_2 := blk_frozen BK308.out 2; have hfz17_3 := blk_frozen BK308.out 3) | ((with_reducible refine gate_callee (f := 111) rfl ?_); refine gL (some 5) Try.func111 #[.int .i64 a0_0, .int .i64 1, .int .i64 20] ?_; (with_reducible refine (spec_l1In.calls a0_0 1 20 true _ A2.out).mono ?_); rintro e w' ⟨rfl, ⟨nd, rfl⟩⟩; refine ⟨_, rfl, ?_⟩) | (go_at_call 111; (with_reducible refine (spec_l1In.calls a0_1 1 3 false _ A4.out).mono ?_); rintro e w' ⟨rfl, ⟨nd, rfl⟩⟩))
   go_ret
   exact ⟨rA, bG⟩
 ·
  replace c3 := Bool.eq_false_iff.mpr c3
  subst c3
  have H1 : (some false) = some r := by rw [if_neg (show ¬ (false = true) by decide)] at H; exact H
  clear H
  have H := H1
  clear H1
  obtain rfl := Option.some.inj H
  go_enter Try.func91, Try.ntmps91
  go_wp2_with (first | ((with_reducible refine gate_dst (N := 1) rfl ?_); refine bE (N := 1) (cs := #[.int .i64 a0_0, .int .i64 a0_1, .int .i64 a0_2, .int .i64 a0_3]) (t := 50) ?_; intro gb308 hg w18 hbox hb; have n0_ := Aside0.mk (below_step bA hb); have n1_ := Aside0.mk (hbox); have n2_ := Aside0.mk ((by rw [hg]; exact (below_size bA) : w.heap.size ≤ gb308)); have n3_ := Aside0.mk ((by rw [hg]; exact (below_size bA) : w.heap.size ≤ gb308)); clear HB; have HB := n0_; have BK308 := n1_; have GW308 := n2_; have GE308 := n3_; clear n0_ n1_ n2_ n3_; clear hb hbox hg; have hcz19_0 : w18.cell? ⟨gb308, 0, none⟩ = some (.int .i64 a0_0) := bC BK308 0; have hcz19_1 : w18.cell? ⟨gb308, 1, none⟩ = some (.int .i64 a0_1) := bC BK308 1; have hcz19_2 : w18.cell? ⟨gb308, 2, none⟩ = some (.int .i64 a0_2) := bC BK308 2; have hcz19_3 : w18.cell? ⟨gb308, 3, none⟩ = some (.int .i64 a0_3) := bC BK308 3; have hfz19_0 := blk_frozen BK308.out 0; have hfz19_1 := blk_frozen BK308.out 1; have hfz19_2 := blk_frozen BK308.out 2; have hfz19_3 := blk_frozen BK308.out 3) | ((with_reducible refine gate_callee (f := 111) rfl ?_); refine gL (some 5) Try.func111 #[.int .i64 a0_0, .int .i64 1, .int .i64 20] ?_; (with_reducible refine (spec_l1In.calls a0_0 1 20 false _ A2.out).mono ?_); rintro e w' ⟨rfl, ⟨nd, rfl⟩⟩; refine ⟨_, rfl, ?_⟩))
  go_ret
  exact ⟨rA, bG⟩

/-! ### spec_ArePaths: function 33 -/
def spec_ArePaths.l0 : Nat → List (S50) → Int → Option (Bool)
 | 0, _, _ => none
 | k + 1, x0, x3 => if x3 < (x0.length : Int) then (if 0 ≤ x3 then ((spec_IsPath.f ((rd_T50 x0 x3).f0) ((rd_T50 x0 x3).f1) ((rd_T50 x0 x3).f2) ((rd_T50 x0 x3).f3)).bind fun t314 => (if t314 = true then (if x3 > 0 then (if 0 ≤ (wrap64 (x3 - 1)) then (if (wrap64 (x3 - 1)) < (x0.length : Int) then (if ((rd_T50 x0 (wrap64 (x3 - 1))).f0) ≥ ((rd_T50 x0 x3).f0) then (some false) else (spec_ArePaths.l0 k x0 (wrap64 (x3 + 1)))) else (none)) else (none)) else (spec_ArePaths.l0 k x0 (wrap64 (x3 + 1)))) else (some false))) else (none)) else (some (decide ((x0.length : Int) ≤ 12)))
def spec_ArePaths.f (k : Nat) (l0 : List (S50)) : Option (Bool) := spec_ArePaths.l0 k l0 0
theorem spec_ArePaths.mono_l : ∀ k, (∀ y0 y1, LeO (spec_ArePaths.l0 k y0 y1) (spec_ArePaths.l0 (k + 1) y0 y1))
 | 0 => fun _ _ r h => by simp [spec_ArePaths.l0] at h
 | k + 1 => by
  have ih0 := spec_ArePaths.mono_l k
  ·
   intro y0 y1
   unfold spec_ArePaths.l0
   repeat' first | (with_reducible first | exact LeO.refl _ | exact LeO.none _ | refine LeO.ite ?_ ?_ | refine LeO.bind ?_ (fun _ => ?_) | exact ih0 _ _)
theorem spec_ArePaths.mono : ∀ a0 k, LeO (spec_ArePaths.f k a0) (spec_ArePaths.f (k + 1) a0) := by
 intro a0 k
 have ih0 := spec_ArePaths.mono_l k
 unfold spec_ArePaths.f
 repeat' first | (with_reducible first | exact LeO.refl _ | exact LeO.none _ | refine LeO.ite ?_ ?_ | refine LeO.bind ?_ (fun _ => ?_) | exact ih0 _ _)
def spec_ArePaths.T4 : Bool × List (List Nat × List Nat) := (true, [([], []), ([], []), ([0, 1], [0, 1]), ([2], [2]), ([3], [3]), ([4], [4]), ([5, 4], [5]), ([6], [6]), ([7, 6], [6, 7]), ([8, 6, 6], [6, 8]), ([9], [9]), ([9], [9]), ([11, 9], [9, 11]), ([10, 12, 9], [9, 10, 12]), ([13, 9], [9, 13]), ([14, 9], [9, 14]), ([9], [9]), ([9], [9]), ([16, 17, 9], [9, 16, 17]), ([18, 9], [9, 18]), ([19, 9], [9, 19]), ([15, 20, 9], [9, 15, 20]), ([9, 21, 6], [6, 9, 21]), ([6, 22], [6, 22])])
def spec_ArePaths.B4 : List Nat := [0, 0, 3, 7, 15, 31, 63, 127, 255, 511, 1023, 1023, 3071, 8191, 16383, 32767, 1023, 1023, 197631, 459775, 984063, 2097151, 4194303, 8388607]
theorem spec_ArePaths.tab4 : rtab .any (opsOf Try.f33 4) = spec_ArePaths.T4 := by kernel_rfl
theorem spec_ArePaths.bits4 : waitsOk spec_ArePaths.T4.2 spec_ArePaths.B4 = true := by kernel_rfl
set_option maxHeartbeats 8000000 in
set_option maxRecDepth 100000 in
theorem spec_ArePaths.calls (k : Nat) (A0 : Option Addr) (c0 : Nat) (l0 : List (S50)) (r : Bool) (w : World) (hr0 : Kd.C k50 w A0 l0.length l0) (hc0 : l0.length ≤ c0) (h : spec_ArePaths.f k l0 = some r) :
  Calls Try.prog 33 #[.slice A0 l0.length c0] w fun e w' => e = .returned (.bool r) ∧ Below w.heap.size w w' := by
 have hu50 := Try.underlying50
 have HR0 := Aside0.mk hr0
 have HC0 := Aside0.mk hc0
 clear hr0 hc0
 have HB := Aside0.mk (Below.refl w.heap.size w)
 have H : (spec_ArePaths.l0 k l0 0) = some r := h
 clear h
 have H' := Aside0.mk H
 clear H
 go_enter Try.func33, Try.ntmps33
 go_wp2
 go_loopg [3] k (fun kq v3 w' => ∃ (x3_1 : Int), v3 = .int .i64 x3_1 ∧ Aside0 (spec_ArePaths.l0 kq l0 x3_1 = some r) ∧ Aside0 (kq ≤ k) ∧ Aside0 (Below w.heap.size w w'))
 case atStart => exact ⟨(0), rS, H', ⟨Nat.le_refl _⟩, ⟨bA⟩⟩
 case round =>
  clear H'
  obtain ⟨x3_1, rfl, HA, HK1, HB⟩ := hrel
  cases gk with
  | zero => exact absurd HA.out (by simp [spec_ArePaths.l0])
  | succ k1 =>
   have H := HA.out
   clear HA
   simp only [spec_ArePaths.l0] at H
   by_cases c2 : x3_1 < (l0.length : Int)
   ·
    rw [if_pos c2] at H
    have c2b0 := decide_eq_true c2
    clear c2
    have c3 : 0 ≤ x3_1 := ifN H
    replace H := ifT H
    have c3b0 := decide_eq_true c3
    clear c3
    obtain ⟨t314, A4, H⟩ := bindE H
    try dsimp only at H
    by_cases c5 : t314 = true
    ·
     subst c5
     have H1 : (if x3_1 > 0 then (if 0 ≤ (wrap64 (x3_1 - 1)) then (if (wrap64 (x3_1 - 1)) < (l0.length : Int) then (if ((rd_T50 l0 (wrap64 (x3_1 - 1))).f0) ≥ ((rd_T50 l0 x3_1).f0) then (some false) else (spec_ArePaths.l0 k1 l0 (wrap64 (x3_1 + 1)))) else (none)) else (none)) else (spec_ArePaths.l0 k1 l0 (wrap64 (x3_1 + 1)))) = some r := by rw [if_pos rfl] at H; exact H
     clear H
     have H := H1
     clear H1
     by_cases c6 : x3_1 > 0
     ·
      rw [if_pos c6] at H
      have c6b0 := decide_eq_true c6
      clear c6
      obtain ⟨ji7, hji7⟩ : ∃ j_ : Int, (wrap64 (x3_1 - 1)) = j_ := ⟨_, rfl⟩
      replace H : (if 0 ≤ (ji7) then (if (ji7) < (l0.length : Int) then (if ((rd_T50 l0 (ji7)).f0) ≥ ((rd_T50 l0 x3_1).f0) then (some false) else (spec_ArePaths.l0 k1 l0 (wrap64 (x3_1 + 1)))) else (none)) else (none)) = some r := by first | (rw [hji7] at H; exact H) | (simp only [hji7] at H ⊢; exact H)
      (try rw [hji7] at A4)
      have hji7w : (IntKind.i64.wrap (x3_1 - 1)) = ji7 := (i64_w _).trans hji7
      have c8 : 0 ≤ (ji7) := ifN H
      replace H := ifT H
      have c8b0 := decide_eq_true c8
      clear c8
      have c9 : (ji7) < (l0.length : Int) := ifN H
      replace H := ifT H
      have c9b0 := decide_eq_true c9
      clear c9
      by_cases c10 : ((rd_T50 l0 (ji7)).f0) ≥ ((rd_T50 l0 x3_1).f0)
      ·
       rw [if_pos c10] at H
       have c10b0 := decide_eq_true c10
       clear c10
       obtain rfl := Option.some.inj H
       try go_wp2
       have HBo := HB
       replace HB := Aside0.mk (below_drew1 HB.out)
       have p313 : 0 ≤ (x3_1 : Int) := dA
       have q313 : x3_1 < (l0.length : Int) := dA
       obtain ⟨ad313, e313, hx313_0, hx313_1, hx313_2, hx313_3⟩ := at_T50 HR0.out x3_1 p313 q313
       have hw313_3 := hx313_3
       have hw313_2 := hx313_2
       have hw313_1 := hx313_1
       have hw313_0 := hx313_0
       cases e313
       replace hx313_0 := hC HB hx313_0
       replace hx313_1 := hC HB hx313_1
       replace hx313_2 := hC HB hx313_2
       replace hx313_3 := hC HB hx313_3
       replace p313 := eq_true p313
       replace q313 := eq_true q313
       have p315 : 0 ≤ ((ji7) : Int) := dA
       have q315 : (ji7) < (l0.length : Int) := dA
       obtain ⟨ad315, e315, hx315_0, hx315_1, hx315_2, hx315_3⟩ := at_T50 HR0.out (ji7) p315 q315
       have hw315_3 := hx315_3
       have hw315_2 := hx315_2
       have hw315_1 := hx315_1
       have hw315_0 := hx315_0
       obtain rfl : ad313 = ad315 := (by injection e315)
       replace hx315_0 := hC HB hx315_0
       replace hx315_1 := hC HB hx315_1
       replace hx315_2 := hC HB hx315_2
       replace hx315_3 := hC HB hx315_3
       replace p315 := eq_true p315
       replace q315 := eq_true q315
       have p316 : 0 ≤ (x3_1 : Int) := dA
       have q316 : x3_1 < (l0.length : Int) := dA
       obtain ⟨ad316, e316, hx316_0, hx316_1, hx316_2, hx316_3⟩ := at_T50 HR0.out x3_1 p316 q316
       have hw316_3 := hx316_3
       have hw316_2 := hx316_2
       have hw316_1 := hx316_1
       have hw316_0 := hx316_0
       obtain rfl : ad313 = ad316 := (by injection e316)
       replace hx316_0 := hC HB hx316_0
       replace hx316_1 := hC HB hx316_1
       replace hx316_2 := hC HB hx316_2
       replace hx316_3 := hC HB hx316_3
       replace p316 := eq_true p316
       replace q316 := eq_true q316
       refine start_ (n := 24) (S := fun w' => w'.cell? (ad313.add ((x3_1).toNat * 4)) = some (.int .i64 ((rd_T50 l0 x3_1).f0)) ∧ w'.cell? ⟨(ad313.add ((x3_1).toNat * 4)).block, (ad313.add ((x3_1).toNat * 4)).off + 1, none⟩ = some (.int .i64 ((rd_T50 l0 x3_1).f1)) ∧ w'.cell? ⟨(ad313.add ((x3_1).toNat * 4)).block, (ad313.add ((x3_1).toNat * 4)).off + 2, none⟩ = some (.int .i64 ((rd_T50 l0 x3_1).f2)) ∧ w'.cell? ⟨(ad313.add ((x3_1).toNat * 4)).block, (ad313.add ((x3_1).toNat * 4)).off + 3, none⟩ = some (.int .i64 ((rd_T50 l0 x3_1).f3)) ∧ w'.cell? (ad313.add (((ji7)).toNat * 4)) = some (.int .i64 ((rd_T50 l0 (ji7)).f0)) ∧ w'.cell? ⟨(ad313.add (((ji7)).toNat * 4)).block, (ad313.add (((ji7)).toNat * 4)).off + 1, none⟩ = some (.int .i64 ((rd_T50 l0 (ji7)).f1)) ∧ w'.cell? ⟨(ad313.add (((ji7)).toNat * 4)).block, (ad313.add (((ji7)).toNat * 4)).off + 2, none⟩ = some (.int .i64 ((rd_T50 l0 (ji7)).f2)) ∧ w'.cell? ⟨(ad313.add (((ji7)).toNat * 4)).block, (ad313.add (((ji7)).toNat * 4)).off + 3, none⟩ = some (.int .i64 ((rd_T50 l0 (ji7)).f3)) ∧ w'.cell? (ad313.add ((x3_1).toNat * 4)) = some (.int .i64 ((rd_T50 l0 x3_1).f0)) ∧ w'.cell? ⟨(ad313.add ((x3_1).toNat * 4)).block, (ad313.add ((x3_1).toNat * 4)).off + 1, none⟩ = some (.int .i64 ((rd_T50 l0 x3_1).f1)) ∧ w'.cell? ⟨(ad313.add ((x3_1).toNat * 4)).block, (ad313.add ((x3_1).toNat * 4)).off + 2, none⟩ = some (.int .i64 ((rd_T50 l0 x3_1).f2)) ∧ w'.cell? ⟨(ad313.add ((x3_1).toNat * 4)).block, (ad313.add ((x3_1).toNat * 4)).off + 3, none⟩ = some (.int .i64 ((rd_T50 l0 x3_1).f3))) (ds := []) (mb 24 0) (by kernel_rfl) rfl rfl ⟨(hC HB hw313_0), (hC HB hw313_1), (hC HB hw313_2), (hC HB hw313_3), (hC HB hw315_0), (hC HB hw315_1), (hC HB hw315_2), (hC HB hw315_3), (hC HB hw316_0), (hC HB hw316_1), (hC HB hw316_2), (hC HB hw316_3)⟩ (fun hHeld => ?_); refine with_tabW spec_ArePaths.tab4 spec_ArePaths.bits4 (fun HT_ HW_ => ?_)
       generalize wr.drew = w11 at HB hx313_0 hx313_1 hx313_2 hx313_3 hx315_0 hx315_1 hx315_2 hx315_3 hx316_0 hx316_1 hx316_2 hx316_3 hHeld ⊢
       refine pA (i := 0) (N := some 10) (mb 24 1) HT_ ?_
       refine pA (i := 1) (N := some 11) (mb 24 3) HT_ ?_
       refine pA (i := 2) (N := some 12) (mb 24 7) HT_ ?_
       refine tA12 (i := 3) (N := some 13) (mb 24 15) HT_ HW_ hHeld ?_
       refine oA (i := 4) (N := some 14) (mb 24 31) HT_ (fun K hK => ?_)
       refine gA Try.func91 #[.agg #[.int .i64 ((rd_T50 l0 x3_1).f0), .int .i64 ((rd_T50 l0 x3_1).f1), .int .i64 ((rd_T50 l0 x3_1).f2), .int .i64 ((rd_T50 l0 x3_1).f3)]] ?_
       with_reducible refine (spec_IsPath.calls ((rd_T50 l0 x3_1).f0) ((rd_T50 l0 x3_1).f1) ((rd_T50 l0 x3_1).f2) ((rd_T50 l0 x3_1).f3) true _ A4.out).mono ?_
       rintro e w12 ⟨rfl, hb⟩
       refine ⟨_, rfl, ?_⟩
       replace HB := Aside0.mk (below_step bA hb)
       (try clear hb)
       (try clear hb2)
       (try clear hk)
       (try clear hi)
       refine hK.out _ _ ⟨(hC HB hw313_0), (hC HB hw313_1), (hC HB hw313_2), (hC HB hw313_3), (hC HB hw315_0), (hC HB hw315_1), (hC HB hw315_2), (hC HB hw315_3), (hC HB hw316_0), (hC HB hw316_1), (hC HB hw316_2), (hC HB hw316_3)⟩ (fun hHeld => ?_)
       clear hK K
       refine nB ?_
       refine pA (i := 5) (N := some 15) (mb 24 63) HT_ ?_
       refine pA (i := 6) (N := some 16) (mb 24 127) HT_ ?_
       refine pA (i := 7) (N := some 17) (mb 24 255) HT_ ?_
       refine pA (i := 8) (N := some 18) (mb 24 511) HT_ ?_
       refine pA (i := 9) (N := some 19) (mb 24 1023) HT_ ?_
       refine pA (i := 10) (N := some 20) (mb 24 2047) HT_ ?_
       refine pA (i := 11) (N := some 21) (mb 24 4095) HT_ ?_
       refine pA (i := 12) (N := some 22) (mb 24 8191) HT_ ?_
       refine pA (i := 13) (N := some 23) (mb 24 16383) HT_ ?_
       refine pA (i := 14) (N := some 24) (mb 24 32767) HT_ ?_
       refine pA (i := 16) (N := some 26) (mb 24 98303) HT_ ?_
       refine pA (i := 17) (N := some 27) (mb 24 229375) HT_ ?_
       refine pA (i := 18) (N := some 28) (mb 24 491519) HT_ ?_
       refine pA (i := 19) (N := some 29) (mb 24 1015807) HT_ ?_
       refine tA12 (i := 15) (N := some 25) (mb 24 1048575) HT_ HW_ hHeld ?_
       refine tA12 (i := 20) (N := some 30) (mb 24 2097151) HT_ HW_ hHeld ?_
       refine pA (i := 21) (N := some 31) (mb 24 4194303) HT_ ?_
       refine pA (i := 22) (N := some 32) (mb 24 8388607) HT_ ?_
       refine pA (i := 23) (N := some 33) (mb 24 16777215) HT_ ?_
       refine eA HT_ ?_
       try go_wp2
       go_ret
       exact ⟨by first | rfl | (simp [errW_none, errW_some] <;> rfl) | (simp only [← hji7]; first | rfl | (simp [errW_none, errW_some] <;> rfl)) | (simp [*, errW_none, errW_some] <;> rfl), bA⟩
      ·
       rw [if_neg c10] at H
       have c10b0 := decide_eq_false c10
       clear c10
       have H' := Aside0.mk H
       clear H
       try go_wp2
       have HBo := HB
       replace HB := Aside0.mk (below_drew1 HB.out)
       have p313 : 0 ≤ (x3_1 : Int) := dA
       have q313 : x3_1 < (l0.length : Int) := dA
       obtain ⟨ad313, e313, hx313_0, hx313_1, hx313_2, hx313_3⟩ := at_T50 HR0.out x3_1 p313 q313
       have hw313_3 := hx313_3
       have hw313_2 := hx313_2
       have hw313_1 := hx313_1
       have hw313_0 := hx313_0
       cases e313
       replace hx313_0 := hC HB hx313_0
       replace hx313_1 := hC HB hx313_1
       replace hx313_2 := hC HB hx313_2
       replace hx313_3 := hC HB hx313_3
       replace p313 := eq_true p313
       replace q313 := eq_true q313
       have p315 : 0 ≤ ((ji7) : Int) := dA
       have q315 : (ji7) < (l0.length : Int) := dA
       obtain ⟨ad315, e315, hx315_0, hx315_1, hx315_2, hx315_3⟩ := at_T50 HR0.out (ji7) p315 q315
       have hw315_3 := hx315_3
       have hw315_2 := hx315_2
       have hw315_1 := hx315_1
       have hw315_0 := hx315_0
       obtain rfl : ad313 = ad315 := (by injection e315)
       replace hx315_0 := hC HB hx315_0
       replace hx315_1 := hC HB hx315_1
       replace hx315_2 := hC HB hx315_2
       replace hx315_3 := hC HB hx315_3
       replace p315 := eq_true p315
       replace q315 := eq_true q315
       have p316 : 0 ≤ (x3_1 : Int) := dA
       have q316 : x3_1 < (l0.length : Int) := dA
       obtain ⟨ad316, e316, hx316_0, hx316_1, hx316_2, hx316_3⟩ := at_T50 HR0.out x3_1 p316 q316
       have hw316_3 := hx316_3
       have hw316_2 := hx316_2
       have hw316_1 := hx316_1
       have hw316_0 := hx316_0
       obtain rfl : ad313 = ad316 := (by injection e316)
       replace hx316_0 := hC HB hx316_0
       replace hx316_1 := hC HB hx316_1
       replace hx316_2 := hC HB hx316_2
       replace hx316_3 := hC HB hx316_3
       replace p316 := eq_true p316
       replace q316 := eq_true q316
       refine start_ (n := 24) (S := fun w' => w'.cell? (ad313.add ((x3_1).toNat * 4)) = some (.int .i64 ((rd_T50 l0 x3_1).f0)) ∧ w'.cell? ⟨(ad313.add ((x3_1).toNat * 4)).block, (ad313.add ((x3_1).toNat * 4)).off + 1, none⟩ = some (.int .i64 ((rd_T50 l0 x3_1).f1)) ∧ w'.cell? ⟨(ad313.add ((x3_1).toNat * 4)).block, (ad313.add ((x3_1).toNat * 4)).off + 2, none⟩ = some (.int .i64 ((rd_T50 l0 x3_1).f2)) ∧ w'.cell? ⟨(ad313.add ((x3_1).toNat * 4)).block, (ad313.add ((x3_1).toNat * 4)).off + 3, none⟩ = some (.int .i64 ((rd_T50 l0 x3_1).f3)) ∧ w'.cell? (ad313.add (((ji7)).toNat * 4)) = some (.int .i64 ((rd_T50 l0 (ji7)).f0)) ∧ w'.cell? ⟨(ad313.add (((ji7)).toNat * 4)).block, (ad313.add (((ji7)).toNat * 4)).off + 1, none⟩ = some (.int .i64 ((rd_T50 l0 (ji7)).f1)) ∧ w'.cell? ⟨(ad313.add (((ji7)).toNat * 4)).block, (ad313.add (((ji7)).toNat * 4)).off + 2, none⟩ = some (.int .i64 ((rd_T50 l0 (ji7)).f2)) ∧ w'.cell? ⟨(ad313.add (((ji7)).toNat * 4)).block, (ad313.add (((ji7)).toNat * 4)).off + 3, none⟩ = some (.int .i64 ((rd_T50 l0 (ji7)).f3)) ∧ w'.cell? (ad313.add ((x3_1).toNat * 4)) = some (.int .i64 ((rd_T50 l0 x3_1).f0)) ∧ w'.cell? ⟨(ad313.add ((x3_1).toNat * 4)).block, (ad313.add ((x3_1).toNat * 4)).off + 1, none⟩ = some (.int .i64 ((rd_T50 l0 x3_1).f1)) ∧ w'.cell? ⟨(ad313.add ((x3_1).toNat * 4)).block, (ad313.add ((x3_1).toNat * 4)).off + 2, none⟩ = some (.int .i64 ((rd_T50 l0 x3_1).f2)) ∧ w'.cell? ⟨(ad313.add ((x3_1).toNat * 4)).block, (ad313.add ((x3_1).toNat * 4)).off + 3, none⟩ = some (.int .i64 ((rd_T50 l0 x3_1).f3))) (ds := []) (mb 24 0) (by kernel_rfl) rfl rfl ⟨(hC HB hw313_0), (hC HB hw313_1), (hC HB hw313_2), (hC HB hw313_3), (hC HB hw315_0), (hC HB hw315_1), (hC HB hw315_2), (hC HB hw315_3), (hC HB hw316_0), (hC HB hw316_1), (hC HB hw316_2), (hC HB hw316_3)⟩ (fun hHeld => ?_); refine with_tabW spec_ArePaths.tab4 spec_ArePaths.bits4 (fun HT_ HW_ => ?_)
       generalize wr.drew = w13 at HB hx313_0 hx313_1 hx313_2 hx313_3 hx315_0 hx315_1 hx315_2 hx315_3 hx316_0 hx316_1 hx316_2 hx316_3 hHeld ⊢
       refine pA (i := 0) (N := some 10) (mb 24 1) HT_ ?_
       refine pA (i := 1) (N := some 11) (mb 24 3) HT_ ?_
       refine pA (i := 2) (N := some 12) (mb 24 7) HT_ ?_
       refine tA12 (i := 3) (N := some 13) (mb 24 15) HT_ HW_ hHeld ?_
       refine oA (i := 4) (N := some 14) (mb 24 31) HT_ (fun K hK => ?_)
       refine gA Try.func91 #[.agg #[.int .i64 ((rd_T50 l0 x3_1).f0), .int .i64 ((rd_T50 l0 x3_1).f1), .int .i64 ((rd_T50 l0 x3_1).f2), .int .i64 ((rd_T50 l0 x3_1).f3)]] ?_
       with_reducible refine (spec_IsPath.calls ((rd_T50 l0 x3_1).f0) ((rd_T50 l0 x3_1).f1) ((rd_T50 l0 x3_1).f2) ((rd_T50 l0 x3_1).f3) true _ A4.out).mono ?_
       rintro e w14 ⟨rfl, hb⟩
       refine ⟨_, rfl, ?_⟩
       replace HB := Aside0.mk (below_step bA hb)
       (try clear hb)
       (try clear hb2)
       (try clear hk)
       (try clear hi)
       refine hK.out _ _ ⟨(hC HB hw313_0), (hC HB hw313_1), (hC HB hw313_2), (hC HB hw313_3), (hC HB hw315_0), (hC HB hw315_1), (hC HB hw315_2), (hC HB hw315_3), (hC HB hw316_0), (hC HB hw316_1), (hC HB hw316_2), (hC HB hw316_3)⟩ (fun hHeld => ?_)
       clear hK K
       refine nB ?_
       refine pA (i := 5) (N := some 15) (mb 24 63) HT_ ?_
       refine pA (i := 6) (N := some 16) (mb 24 127) HT_ ?_
       refine pA (i := 7) (N := some 17) (mb 24 255) HT_ ?_
       refine pA (i := 8) (N := some 18) (mb 24 511) HT_ ?_
       refine pA (i := 9) (N := some 19) (mb 24 1023) HT_ ?_
       refine pA (i := 10) (N := some 20) (mb 24 2047) HT_ ?_
       refine pA (i := 11) (N := some 21) (mb 24 4095) HT_ ?_
       refine pA (i := 12) (N := some 22) (mb 24 8191) HT_ ?_
       refine pA (i := 13) (N := some 23) (mb 24 16383) HT_ ?_
       refine pA (i := 14) (N := some 24) (mb 24 32767) HT_ ?_
       refine pA (i := 16) (N := some 26) (mb 24 98303) HT_ ?_
       refine pA (i := 17) (N := some 27) (mb 24 229375) HT_ ?_
       refine pA (i := 18) (N := some 28) (mb 24 491519) HT_ ?_
       refine pA (i := 19) (N := some 29) (mb 24 1015807) HT_ ?_
       refine tA12 (i := 15) (N := some 25) (mb 24 1048575) HT_ HW_ hHeld ?_
       refine tA12 (i := 20) (N := some 30) (mb 24 2097151) HT_ HW_ hHeld ?_
       refine pA (i := 21) (N := some 31) (mb 24 4194303) HT_ ?_
       refine pA (i := 22) (N := some 32) (mb 24 8388607) HT_ ?_
       refine pA (i := 23) (N := some 33) (mb 24 16777215) HT_ ?_
       refine eA HT_ ?_
       try go_wp2
       go_roundg k1
       case measure => have := HK1.out; omega
       case rel => exact ⟨(wrap64 (x3_1 + 1)), rS, H', ⟨by have := HK1.out; omega⟩, ⟨bA⟩⟩
     ·
      rw [if_neg c6] at H
      have c6b0 := decide_eq_false c6
      clear c6
      have H' := Aside0.mk H
      clear H
      try go_wp2
      have HBo := HB
      replace HB := Aside0.mk (below_drew1 HB.out)
      have p313 : 0 ≤ (x3_1 : Int) := dA
      have q313 : x3_1 < (l0.length : Int) := dA
      obtain ⟨ad313, e313, hx313_0, hx313_1, hx313_2, hx313_3⟩ := at_T50 HR0.out x3_1 p313 q313
      have hw313_3 := hx313_3
      have hw313_2 := hx313_2
      have hw313_1 := hx313_1
      have hw313_0 := hx313_0
      cases e313
      replace hx313_0 := hC HB hx313_0
      replace hx313_1 := hC HB hx313_1
      replace hx313_2 := hC HB hx313_2
      replace hx313_3 := hC HB hx313_3
      replace p313 := eq_true p313
      replace q313 := eq_true q313
      refine start_ (n := 24) (S := fun w' => w'.cell? (ad313.add ((x3_1).toNat * 4)) = some (.int .i64 ((rd_T50 l0 x3_1).f0)) ∧ w'.cell? ⟨(ad313.add ((x3_1).toNat * 4)).block, (ad313.add ((x3_1).toNat * 4)).off + 1, none⟩ = some (.int .i64 ((rd_T50 l0 x3_1).f1)) ∧ w'.cell? ⟨(ad313.add ((x3_1).toNat * 4)).block, (ad313.add ((x3_1).toNat * 4)).off + 2, none⟩ = some (.int .i64 ((rd_T50 l0 x3_1).f2)) ∧ w'.cell? ⟨(ad313.add ((x3_1).toNat * 4)).block, (ad313.add ((x3_1).toNat * 4)).off + 3, none⟩ = some (.int .i64 ((rd_T50 l0 x3_1).f3))) (ds := []) (mb 24 0) (by kernel_rfl) rfl rfl ⟨(hC HB hw313_0), (hC HB hw313_1), (hC HB hw313_2), (hC HB hw313_3)⟩ (fun hHeld => ?_); refine with_tabW spec_ArePaths.tab4 spec_ArePaths.bits4 (fun HT_ HW_ => ?_)
      generalize wr.drew = w15 at HB hx313_0 hx313_1 hx313_2 hx313_3 hHeld ⊢
      refine pA (i := 0) (N := some 10) (mb 24 1) HT_ ?_
      refine pA (i := 1) (N := some 11) (mb 24 3) HT_ ?_
      refine pA (i := 2) (N := some 12) (mb 24 7) HT_ ?_
      refine tA4 (i := 3) (N := some 13) (mb 24 15) HT_ HW_ hHeld ?_
      refine oA (i := 4) (N := some 14) (mb 24 31) HT_ (fun K hK => ?_)
      refine gA Try.func91 #[.agg #[.int .i64 ((rd_T50 l0 x3_1).f0), .int .i64 ((rd_T50 l0 x3_1).f1), .int .i64 ((rd_T50 l0 x3_1).f2), .int .i64 ((rd_T50 l0 x3_1).f3)]] ?_
      with_reducible refine (spec_IsPath.calls ((rd_T50 l0 x3_1).f0) ((rd_T50 l0 x3_1).f1) ((rd_T50 l0 x3_1).f2) ((rd_T50 l0 x3_1).f3) true _ A4.out).mono ?_
      rintro e w16 ⟨rfl, hb⟩
      refine ⟨_, rfl, ?_⟩
      replace HB := Aside0.mk (below_step bA hb)
      (try clear hb)
      (try clear hb2)
      (try clear hk)
      (try clear hi)
      refine hK.out _ _ ⟨(hC HB hw313_0), (hC HB hw313_1), (hC HB hw313_2), (hC HB hw313_3)⟩ (fun hHeld => ?_)
      clear hK K
      refine nB ?_
      refine pA (i := 5) (N := some 15) (mb 24 63) HT_ ?_
      refine pA (i := 6) (N := some 16) (mb 24 127) HT_ ?_
      refine pA (i := 7) (N := some 17) (mb 24 255) HT_ ?_
      refine pA (i := 8) (N := some 18) (mb 24 511) HT_ ?_
      refine pA (i := 9) (N := some 19) (mb 24 1023) HT_ ?_
      refine pU (i := 10) (N := some 20) (mb 24 2047) HT_ ?_
      refine pU (i := 11) (N := some 21) (mb 24 4095) HT_ ?_
      refine pU (i := 12) (N := some 22) (mb 24 8191) HT_ ?_
      refine pU (i := 13) (N := some 23) (mb 24 16383) HT_ ?_
      refine pU (i := 14) (N := some 24) (mb 24 32767) HT_ ?_
      refine pU (i := 15) (N := some 25) (mb 24 65535) HT_ ?_
      refine pU (i := 16) (N := some 26) (mb 24 131071) HT_ ?_
      refine pU (i := 17) (N := some 27) (mb 24 262143) HT_ ?_
      refine pU (i := 18) (N := some 28) (mb 24 524287) HT_ ?_
      refine pU (i := 19) (N := some 29) (mb 24 1048575) HT_ ?_
      refine pU (i := 20) (N := some 30) (mb 24 2097151) HT_ ?_
      refine pU (i := 21) (N := some 31) (mb 24 4194303) HT_ ?_
      refine pA (i := 22) (N := some 32) (mb 24 8388607) HT_ ?_
      refine pA (i := 23) (N := some 33) (mb 24 16777215) HT_ ?_
      refine eA HT_ ?_
      try go_wp2
      go_roundg k1
      case measure => have := HK1.out; omega
      case rel => exact ⟨(wrap64 (x3_1 + 1)), rS, H', ⟨by have := HK1.out; omega⟩, ⟨bA⟩⟩
    ·
     replace c5 := Bool.eq_false_iff.mpr c5
     subst c5
     have H1 : (some false) = some r := by rw [if_neg (show ¬ (false = true) by decide)] at H; exact H
     clear H
     have H := H1
     clear H1
     obtain rfl := Option.some.inj H
     try go_wp2
     have HBo := HB
     replace HB := Aside0.mk (below_drew1 HB.out)
     have p313 : 0 ≤ (x3_1 : Int) := dA
     have q313 : x3_1 < (l0.length : Int) := dA
     obtain ⟨ad313, e313, hx313_0, hx313_1, hx313_2, hx313_3⟩ := at_T50 HR0.out x3_1 p313 q313
     have hw313_3 := hx313_3
     have hw313_2 := hx313_2
     have hw313_1 := hx313_1
     have hw313_0 := hx313_0
     cases e313
     replace hx313_0 := hC HB hx313_0
     replace hx313_1 := hC HB hx313_1
     replace hx313_2 := hC HB hx313_2
     replace hx313_3 := hC HB hx313_3
     replace p313 := eq_true p313
     replace q313 := eq_true q313
     refine start_ (n := 24) (S := fun w' => w'.cell? (ad313.add ((x3_1).toNat * 4)) = some (.int .i64 ((rd_T50 l0 x3_1).f0)) ∧ w'.cell? ⟨(ad313.add ((x3_1).toNat * 4)).block, (ad313.add ((x3_1).toNat * 4)).off + 1, none⟩ = some (.int .i64 ((rd_T50 l0 x3_1).f1)) ∧ w'.cell? ⟨(ad313.add ((x3_1).toNat * 4)).block, (ad313.add ((x3_1).toNat * 4)).off + 2, none⟩ = some (.int .i64 ((rd_T50 l0 x3_1).f2)) ∧ w'.cell? ⟨(ad313.add ((x3_1).toNat * 4)).block, (ad313.add ((x3_1).toNat * 4)).off + 3, none⟩ = some (.int .i64 ((rd_T50 l0 x3_1).f3))) (ds := []) (mb 24 0) (by kernel_rfl) rfl rfl ⟨(hC HB hw313_0), (hC HB hw313_1), (hC HB hw313_2), (hC HB hw313_3)⟩ (fun hHeld => ?_); refine with_tabW spec_ArePaths.tab4 spec_ArePaths.bits4 (fun HT_ HW_ => ?_)
     generalize wr.drew = w17 at HB hx313_0 hx313_1 hx313_2 hx313_3 hHeld ⊢
     refine pA (i := 0) (N := some 10) (mb 24 1) HT_ ?_
     refine pA (i := 1) (N := some 11) (mb 24 3) HT_ ?_
     refine pA (i := 2) (N := some 12) (mb 24 7) HT_ ?_
     refine tA4 (i := 3) (N := some 13) (mb 24 15) HT_ HW_ hHeld ?_
     refine oA (i := 4) (N := some 14) (mb 24 31) HT_ (fun K hK => ?_)
     refine gA Try.func91 #[.agg #[.int .i64 ((rd_T50 l0 x3_1).f0), .int .i64 ((rd_T50 l0 x3_1).f1), .int .i64 ((rd_T50 l0 x3_1).f2), .int .i64 ((rd_T50 l0 x3_1).f3)]] ?_
     with_reducible refine (spec_IsPath.calls ((rd_T50 l0 x3_1).f0) ((rd_T50 l0 x3_1).f1) ((rd_T50 l0 x3_1).f2) ((rd_T50 l0 x3_1).f3) false _ A4.out).mono ?_
     rintro e w18 ⟨rfl, hb⟩
     refine ⟨_, rfl, ?_⟩
     replace HB := Aside0.mk (below_step bA hb)
     (try clear hb)
     (try clear hb2)
     (try clear hk)
     (try clear hi)
     refine hK.out _ _ ⟨(hC HB hw313_0), (hC HB hw313_1), (hC HB hw313_2), (hC HB hw313_3)⟩ (fun hHeld => ?_)
     clear hK K
     refine nB ?_
     refine pA (i := 5) (N := some 15) (mb 24 63) HT_ ?_
     refine pA (i := 6) (N := some 16) (mb 24 127) HT_ ?_
     refine pU (i := 7) (N := some 17) (mb 24 255) HT_ ?_
     refine pU (i := 8) (N := some 18) (mb 24 511) HT_ ?_
     refine pU (i := 9) (N := some 19) (mb 24 1023) HT_ ?_
     refine pU (i := 10) (N := some 20) (mb 24 2047) HT_ ?_
     refine pU (i := 11) (N := some 21) (mb 24 4095) HT_ ?_
     refine pU (i := 12) (N := some 22) (mb 24 8191) HT_ ?_
     refine pU (i := 13) (N := some 23) (mb 24 16383) HT_ ?_
     refine pU (i := 14) (N := some 24) (mb 24 32767) HT_ ?_
     refine pU (i := 15) (N := some 25) (mb 24 65535) HT_ ?_
     refine pU (i := 16) (N := some 26) (mb 24 131071) HT_ ?_
     refine pU (i := 17) (N := some 27) (mb 24 262143) HT_ ?_
     refine pU (i := 18) (N := some 28) (mb 24 524287) HT_ ?_
     refine pU (i := 19) (N := some 29) (mb 24 1048575) HT_ ?_
     refine pU (i := 20) (N := some 30) (mb 24 2097151) HT_ ?_
     refine pU (i := 21) (N := some 31) (mb 24 4194303) HT_ ?_
     refine pU (i := 22) (N := some 32) (mb 24 8388607) HT_ ?_
     refine pA (i := 23) (N := some 33) (mb 24 16777215) HT_ ?_
     refine eA HT_ ?_
     try go_wp2
     go_ret
     exact ⟨rA, bA⟩
   ·
    rw [if_neg c2] at H
    have c2b0 := decide_eq_false c2
    clear c2
    obtain rfl := Option.some.inj H
    go_wp2
    go_ret
    exact ⟨rA, bA⟩

/-! ### spec_l6Has: function 133 -/
def spec_l6Has.l0 : Nat → List Int → Int → Int → Option (Bool)
 | 0, _, _, _ => none
 | k + 1, x0, x1, x5 => if x5 < (x0.length : Int) then (if 0 ≤ x5 then (if (rd x0 x5) = x1 then (some true) else (spec_l6Has.l0 k x0 x1 (wrap64 (x5 + 1)))) else (none)) else (some false)
def spec_l6Has.f (k : Nat) (l0 : List Int) (a1 : Int) : Option (Bool) := spec_l6Has.l0 k l0 a1 0
theorem spec_l6Has.mono_l : ∀ k, (∀ y0 y1 y2, LeO (spec_l6Has.l0 k y0 y1 y2) (spec_l6Has.l0 (k + 1) y0 y1 y2))
 | 0 => fun _ _ _ r h => by simp [spec_l6Has.l0] at h
 | k + 1 => by
  have ih0 := spec_l6Has.mono_l k
  ·
   intro y0 y1 y2
   unfold spec_l6Has.l0
   repeat' first | (with_reducible first | exact LeO.refl _ | exact LeO.none _ | refine LeO.ite ?_ ?_ | refine LeO.bind ?_ (fun _ => ?_) | exact ih0 _ _ _)
theorem spec_l6Has.mono : ∀ a0 a1 k, LeO (spec_l6Has.f k a0 a1) (spec_l6Has.f (k + 1) a0 a1) := by
 intro a0 a1 k
 have ih0 := spec_l6Has.mono_l k
 unfold spec_l6Has.f
 repeat' first | (with_reducible first | exact LeO.refl _ | exact LeO.none _ | refine LeO.ite ?_ ?_ | refine LeO.bind ?_ (fun _ => ?_) | exact ih0 _ _ _)
set_option maxHeartbeats 8000000 in
set_option maxRecDepth 100000 in
theorem spec_l6Has.calls (k : Nat) (A0 : Option Addr) (c0 : Nat) (l0 : List Int) (a1 : Int) (r : Bool) (w : World) (hr0 : Kd.C (Kd.int .i64) w A0 l0.length l0) (hc0 : l0.length ≤ c0) (h : spec_l6Has.f k l0 a1 = some r) :
  Calls Try.prog 133 #[.slice A0 l0.length c0, .int .i64 a1] w fun e w' => e = .returned (.bool r) ∧ Drawn0 w w' := by
 have HR0 := Aside0.mk hr0
 have HC0 := Aside0.mk hc0
 clear hr0 hc0
 have H : (spec_l6Has.l0 k l0 a1 0) = some r := h
 clear h
 have H' := Aside0.mk H
 clear H
 go_enter Try.func133, Try.ntmps133
 go_wp2
 go_loopg [5] k (fun kq v5 w' => ∃ (x5_1 : Int), v5 = .int .i64 x5_1 ∧ Aside0 (spec_l6Has.l0 kq l0 a1 x5_1 = some r) ∧ Aside0 (kq ≤ k) ∧ Drawn0 w w')
 case atStart => exact ⟨(0), rS, H', ⟨Nat.le_refl _⟩, by repeat (first | exact Drawn0.refl _ | apply Drawn0.step)⟩
 case round =>
  clear H'
  try clear c1
  try clear p2
  obtain ⟨x5_1, rfl, HA, HK1, ⟨m1, rfl⟩⟩ := hrel
  cases gk with
  | zero => exact absurd HA.out (by simp [spec_l6Has.l0])
  | succ k1 =>
   have H := HA.out
   clear HA
   simp only [spec_l6Has.l0] at H
   by_cases c3 : x5_1 < (l0.length : Int)
   ·
    rw [if_pos c3] at H
    have c3b0 := decide_eq_true c3
    clear c3
    have c4 : 0 ≤ x5_1 := ifN H
    replace H := ifT H
    have c4b0 := decide_eq_true c4
    clear c4
    by_cases c5 : (rd l0 x5_1) = a1
    ·
     rw [if_pos c5] at H
     have c5b0 : ((rd l0 x5_1) == a1) = true := beq_iff_eq.mpr c5
     have c5b1 : ((rd l0 x5_1) != a1) = false := bne_eq_false_iff_eq.mpr c5
     clear c5
     obtain rfl := Option.some.inj H
     have p317 : 0 ≤ (x5_1 : Int) := dA
     have q317 : x5_1 < (l0.length : Int) := dA
     obtain ⟨ad317, e317, hx317_0⟩ := Kd.at_int HR0.out x5_1 p317 q317
     cases e317
     replace p317 := eq_true p317
     replace q317 := eq_true q317
     go_wp2
     go_ret
     exact ⟨by first | rfl | (simp; done) | (simp [*]; done), by repeat (first | exact Drawn0.refl _ | apply Drawn0.step)⟩
    ·
     rw [if_neg c5] at H
     have c5b0 : ((rd l0 x5_1) == a1) = false := beq_eq_false_iff_ne.mpr c5
     have c5b1 : ((rd l0 x5_1) != a1) = true := bne_iff_ne.mpr c5
     have H' := Aside0.mk H
     clear H
     have p317 : 0 ≤ (x5_1 : Int) := dA
     have q317 : x5_1 < (l0.length : Int) := dA
     obtain ⟨ad317, e317, hx317_0⟩ := Kd.at_int HR0.out x5_1 p317 q317
     cases e317
     replace p317 := eq_true p317
     replace q317 := eq_true q317
     go_wp2
     go_roundg k1
     case measure => have := HK1.out; omega
     case rel => exact ⟨(wrap64 (x5_1 + 1)), rS, H', ⟨by have := HK1.out; omega⟩, by repeat (first | exact Drawn0.refl _ | apply Drawn0.step)⟩
   ·
    rw [if_neg c3] at H
    have c3b0 := decide_eq_false c3
    clear c3
    obtain rfl := Option.some.inj H
    go_wp2
    go_ret
    exact ⟨by first | rfl | (simp; done) | (simp [*]; done), by repeat (first | exact Drawn0.refl _ | apply Drawn0.step)⟩

/-! ### spec_FindPath: function 144 -/
def spec_FindPath.l0 : Nat → List (S50) → Int → Int → Option (Int)
 | 0, _, _, _ => none
 | k + 1, x0, x1, x5 => if x5 < (x0.length : Int) then (if 0 ≤ x5 then (if ((rd_T50 x0 x5).f0) = x1 then (some x5) else (spec_FindPath.l0 k x0 x1 (wrap64 (x5 + 1)))) else (none)) else (some (-1))
def spec_FindPath.f (k : Nat) (l0 : List (S50)) (a1 : Int) : Option (Int) := spec_FindPath.l0 k l0 a1 0
theorem spec_FindPath.mono_l : ∀ k, (∀ y0 y1 y2, LeO (spec_FindPath.l0 k y0 y1 y2) (spec_FindPath.l0 (k + 1) y0 y1 y2))
 | 0 => fun _ _ _ r h => by simp [spec_FindPath.l0] at h
 | k + 1 => by
  have ih0 := spec_FindPath.mono_l k
  ·
   intro y0 y1 y2
   unfold spec_FindPath.l0
   repeat' first | (with_reducible first | exact LeO.refl _ | exact LeO.none _ | refine LeO.ite ?_ ?_ | refine LeO.bind ?_ (fun _ => ?_) | exact ih0 _ _ _)
theorem spec_FindPath.mono : ∀ a0 a1 k, LeO (spec_FindPath.f k a0 a1) (spec_FindPath.f (k + 1) a0 a1) := by
 intro a0 a1 k
 have ih0 := spec_FindPath.mono_l k
 unfold spec_FindPath.f
 repeat' first | (with_reducible first | exact LeO.refl _ | exact LeO.none _ | refine LeO.ite ?_ ?_ | refine LeO.bind ?_ (fun _ => ?_) | exact ih0 _ _ _)
set_option maxHeartbeats 8000000 in
set_option maxRecDepth 100000 in
theorem spec_FindPath.calls (k : Nat) (A0 : Option Addr) (c0 : Nat) (l0 : List (S50)) (a1 : Int) (r : Int) (w : World) (hr0 : Kd.C k50 w A0 l0.length l0) (hc0 : l0.length ≤ c0) (h : spec_FindPath.f k l0 a1 = some r) :
  Calls Try.prog 144 #[.slice A0 l0.length c0, .int .i64 a1] w fun e w' => e = .returned (.int .i64 r) ∧ Drawn0 w w' := by
 have HR0 := Aside0.mk hr0
 have HC0 := Aside0.mk hc0
 clear hr0 hc0
 have H : (spec_FindPath.l0 k l0 a1 0) = some r := h
 clear h
 have H' := Aside0.mk H
 clear H
 go_enter Try.func144, Try.ntmps144
 go_wp2
 go_loopg [5] k (fun kq v5 w' => ∃ (x5_1 : Int), v5 = .int .i64 x5_1 ∧ Aside0 (spec_FindPath.l0 kq l0 a1 x5_1 = some r) ∧ Aside0 (kq ≤ k) ∧ Drawn0 w w')
 case atStart => exact ⟨(0), rS, H', ⟨Nat.le_refl _⟩, by repeat (first | exact Drawn0.refl _ | apply Drawn0.step)⟩
 case round =>
  clear H'
  try clear c1
  try clear p2
  obtain ⟨x5_1, rfl, HA, HK1, ⟨m1, rfl⟩⟩ := hrel
  cases gk with
  | zero => exact absurd HA.out (by simp [spec_FindPath.l0])
  | succ k1 =>
   have H := HA.out
   clear HA
   simp only [spec_FindPath.l0] at H
   by_cases c3 : x5_1 < (l0.length : Int)
   ·
    rw [if_pos c3] at H
    have c3b0 := decide_eq_true c3
    clear c3
    have c4 : 0 ≤ x5_1 := ifN H
    replace H := ifT H
    have c4b0 := decide_eq_true c4
    clear c4
    by_cases c5 : ((rd_T50 l0 x5_1).f0) = a1
    ·
     rw [if_pos c5] at H
     have c5b0 : (((rd_T50 l0 x5_1).f0) == a1) = true := beq_iff_eq.mpr c5
     have c5b1 : (((rd_T50 l0 x5_1).f0) != a1) = false := bne_eq_false_iff_eq.mpr c5
     clear c5
     obtain rfl := Option.some.inj H
     have p318 : 0 ≤ (x5_1 : Int) := dA
     have q318 : x5_1 < (l0.length : Int) := dA
     obtain ⟨ad318, e318, hx318_0, hx318_1, hx318_2, hx318_3⟩ := at_T50 HR0.out x5_1 p318 q318
     cases e318
     replace p318 := eq_true p318
     replace q318 := eq_true q318
     go_wp2
     go_ret
     exact ⟨by first | rfl | (simp; done) | (simp [*]; done), by repeat (first | exact Drawn0.refl _ | apply Drawn0.step)⟩
    ·
     rw [if_neg c5] at H
     have c5b0 : (((rd_T50 l0 x5_1).f0) == a1) = false := beq_eq_false_iff_ne.mpr c5
     have c5b1 : (((rd_T50 l0 x5_1).f0) != a1) = true := bne_iff_ne.mpr c5
     have H' := Aside0.mk H
     clear H
     have p318 : 0 ≤ (x5_1 : Int) := dA
     have q318 : x5_1 < (l0.length : Int) := dA
     obtain ⟨ad318, e318, hx318_0, hx318_1, hx318_2, hx318_3⟩ := at_T50 HR0.out x5_1 p318 q318
     cases e318
     replace p318 := eq_true p318
     replace q318 := eq_true q318
     go_wp2
     go_roundg k1
     case measure => have := HK1.out; omega
     case rel => exact ⟨(wrap64 (x5_1 + 1)), rS, H', ⟨by have := HK1.out; omega⟩, by repeat (first | exact Drawn0.refl _ | apply Drawn0.step)⟩
   ·
    rw [if_neg c3] at H
    have c3b0 := decide_eq_false c3
    clear c3
    obtain rfl := Option.some.inj H
    go_wp2
    go_ret
    exact ⟨by first | rfl | (simp; done) | (simp [*]; done), by repeat (first | exact Drawn0.refl _ | apply Drawn0.step)⟩

end Go.Proofs.Ytjgonpcajedkjaa.P
