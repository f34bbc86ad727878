/- Printed by myprint.py (wip/tools) over the kit's print: what Go's functions compute, and that they do. Lean checks it. -/
import Derived.Test.YtdkmmefmhfbgkaaF0
import Derived.Test.YtdkmmefmhfbgkaaFX00
import Derived.Test.YtdkmmefmhfbgkaaFX00b
import Derived.Test.YtdkmmefmhfbgkaaFX00d
import Derived.Test.YtdkmmefmhfbgkaaFX01
namespace Go.Proofs.Ytdkmmefmhfbgkaa.P
open Go.RowKit Go.Proofs.YtdkmmefmhfbgkaaW.PrintWords Go.Proofs.YtdkmmefmhfbgkaaW.PrintLast Go.Proofs.YtdkmmefmhfbgkaaW.PrintMore Go.Proofs.Ytdkmmefmhfbgkaa.Sq
attribute [local go_sem] max2_int min2_int max_two min_two max_three min_three max_four min_four
set_option linter.unusedVariables false
set_option linter.unusedSimpArgs false

/-! ### spec_OpenIn: function 13 -/
mutual
def spec_OpenIn.j0 : Nat → Int → Int → List Bool → List Int → Bool → Option (List Bool)
 | 0, _, _, _, _, _ => none
 | k + 1, x3, x4, x11, x12, x31 => if x31 = true then (some x11) else (spec_OpenIn.l0 k x3 x4 x11 x12 0)
def spec_OpenIn.l0 : Nat → Int → Int → List Bool → List Int → Int → Option (List Bool)
 | 0, _, _, _, _, _ => none
 | k + 1, x3, x4, x11, x12, x13 => if x13 < x4 then (if (x12.length : Int) = 0 then (none) else (if 0 ≤ (Int.tmod (wrap64 (x3 + x13)) (x12.length : Int)) then (if (Int.tmod (wrap64 (x3 + x13)) (x12.length : Int)) < (x12.length : Int) then (if x11.length < 140737488355328 then (spec_OpenIn.l0 k x3 x4 (x11 ++ [((rd x12 (Int.tmod (wrap64 (x3 + x13)) (x12.length : Int))) == 1)]) x12 (wrap64 (x13 + 1))) else (none)) else (none)) else (none))) else (some x11)
end
def spec_OpenIn.f (k : Nat) (l0 : List (S89)) (l1 : List (S92)) (a2 : Int) (a3 : Int) (a4 : Int) : Option (List Bool) := (some (([] : List Bool) : List Bool)).bind fun y228 => ((spec_l9Row.f k l0 l1 a2).bind fun t231 => (if (t231.length : Int) = 0 then (spec_OpenIn.j0 k a3 a4 y228 t231 true) else ((spec_l1In.f a3 0 100000).bind fun t234 => (if t234 = true then ((spec_l1In.f a4 0 1000).bind fun t235 => (spec_OpenIn.j0 k a3 a4 y228 t231 (!t235))) else (spec_OpenIn.j0 k a3 a4 y228 t231 true)))))
theorem spec_OpenIn.mono_l : ∀ k, (∀ y0 y1 y2 y3 y4, LeO (spec_OpenIn.j0 k y0 y1 y2 y3 y4) (spec_OpenIn.j0 (k + 1) y0 y1 y2 y3 y4)) ∧ (∀ y0 y1 y2 y3 y4, LeO (spec_OpenIn.l0 k y0 y1 y2 y3 y4) (spec_OpenIn.l0 (k + 1) y0 y1 y2 y3 y4))
 | 0 => ⟨fun _ _ _ _ _ r h => by simp [spec_OpenIn.j0] at h, fun _ _ _ _ _ r h => by simp [spec_OpenIn.l0] at h⟩
 | k + 1 => by
  obtain ⟨ih0, ih1⟩ := spec_OpenIn.mono_l k
  refine ⟨?_, ?_⟩
  ·
   intro y0 y1 y2 y3 y4
   unfold spec_OpenIn.j0
   repeat' first | (with_reducible first | exact LeO.refl _ | exact LeO.none _ | refine LeO.ite ?_ ?_ | refine LeO.bind ?_ (fun _ => ?_) | exact ih0 _ _ _ _ _ | exact ih1 _ _ _ _ _ | exact spec_l9Row.mono _ _ _ _)
  ·
   intro y0 y1 y2 y3 y4
   unfold spec_OpenIn.l0
   repeat' first | (with_reducible first | exact LeO.refl _ | exact LeO.none _ | refine LeO.ite ?_ ?_ | refine LeO.bind ?_ (fun _ => ?_) | exact ih0 _ _ _ _ _ | exact ih1 _ _ _ _ _ | exact spec_l9Row.mono _ _ _ _)
theorem spec_OpenIn.mono : ∀ a0 a1 a2 a3 a4 k, LeO (spec_OpenIn.f k a0 a1 a2 a3 a4) (spec_OpenIn.f (k + 1) a0 a1 a2 a3 a4) := by
 intro a0 a1 a2 a3 a4 k
 obtain ⟨ih0, ih1⟩ := spec_OpenIn.mono_l k
 unfold spec_OpenIn.f
 repeat' first | (with_reducible first | exact LeO.refl _ | exact LeO.none _ | refine LeO.ite ?_ ?_ | refine LeO.bind ?_ (fun _ => ?_) | exact ih0 _ _ _ _ _ | exact ih1 _ _ _ _ _ | exact spec_l9Row.mono _ _ _ _)
set_option maxHeartbeats 8000000 in
set_option maxRecDepth 100000 in
theorem spec_OpenIn.calls (k : Nat) (A0 : Option Addr) (c0 : Nat) (l0 : List (S89)) (A1 : Option Addr) (c1 : Nat) (l1 : List (S92)) (a2 : Int) (a3 : Int) (a4 : Int) (r : List Bool) (w : World) (hr0 : Kd.C k89 w A0 l0.length l0) (hc0 : l0.length ≤ c0) (hr1 : Kd.C k92 w A1 l1.length l1) (hc1 : l1.length ≤ c1) (h : spec_OpenIn.f k l0 l1 a2 a3 a4 = some r) :
  Calls Try.prog 13 #[.slice A0 l0.length c0, .slice A1 l1.length c1, .int .i64 a2, .int .i64 a3, .int .i64 a4] w fun e w' => ∃ v0_ : Value, e = .returned (v0_) ∧ Kd.R Kd.bool 4 w' w.heap.size (fun _ => True) v0_ r ∧ Below w.heap.size w w' := by
 have HR0 := Aside0.mk hr0
 have HC0 := Aside0.mk hc0
 clear hr0 hc0
 have HR1 := Aside0.mk hr1
 have HC1 := Aside0.mk hc1
 clear hr1 hc1
 have HB := Aside0.mk (Below.refl w.heap.size w)
 have H : ((some (([] : List Bool) : List Bool)).bind fun y228 => ((spec_l9Row.f k l0 l1 a2).bind fun t231 => (if (t231.length : Int) = 0 then (spec_OpenIn.j0 k a3 a4 y228 t231 true) else ((spec_l1In.f a3 0 100000).bind fun t234 => (if t234 = true then ((spec_l1In.f a4 0 1000).bind fun t235 => (spec_OpenIn.j0 k a3 a4 y228 t231 (!t235))) else (spec_OpenIn.j0 k a3 a4 y228 t231 true)))))) = some r := h
 clear h
 obtain ⟨y228, hy228⟩ : ∃ y_ : List Bool, y_ = (([] : List Bool)) := ⟨_, rfl⟩
 replace H : ((spec_l9Row.f k l0 l1 a2).bind fun t231 => (if (t231.length : Int) = 0 then (spec_OpenIn.j0 k a3 a4 y228 t231 true) else ((spec_l1In.f a3 0 100000).bind fun t234 => (if t234 = true then ((spec_l1In.f a4 0 1000).bind fun t235 => (spec_OpenIn.j0 k a3 a4 y228 t231 (!t235))) else (spec_OpenIn.j0 k a3 a4 y228 t231 true))))) = some r := by first | (rw [hy228]; with_reducible exact H) | (have H2_ := (Option.bind_some _ _).symm.trans H; rw [hy228]; with_reducible exact H2_) | (have H2_ := (Option.bind_some _ _).symm.trans H; with_reducible exact H2_) | with_reducible exact H | (rw [hy228]; exact H) | exact H
 have Ny228 := Aside0.mk hy228
 clear hy228
 obtain ⟨t231, A6, H⟩ := bindE H
 try dsimp only at H
 have HC7 := Aside0.mk H
 clear H
 go_enter Try.func13, Try.ntmps13
 go_upto_region 3 with (first | ((with_reducible refine gate_dst (N := 14) rfl ?_); refine Kd.R_lit Kd.bool _ 4 ?hg (N := 14) ?hd (xs := ([] : List Bool)) (inner := []) (ok := fun _ => True) (okp := fun _ => True) ?hr ?hp (fun _ hk => hk) trivial (Below.refl _ _) (Nat.le_refl _) (by simp) ?_; (case hd => rfl); (case hg => rfl); (case hr => first | (go_simp; done) | (go_simp; rfl)); (case hp => exact (Reps.none _ _)); intro v229 w8 ho9 hb hg_ hnew_; clear hg_ hnew_; (first | rw [← Ny228.out] at ho9 | (simp only [Int.reduceToNat] at ho9; rw [← Ny228.out] at ho9)); have HO230 := Aside0.mk (Kd.R_lower ho9 (below_size bA)); replace HB := Aside0.mk (below_step bA hb); clear hb ho9) | ((with_reducible refine gate_callee (f := 61) rfl ?_); refine gL (some 18) Try.func61 #[.slice A0 l0.length c0, .slice A1 l1.length c1, .int .i64 a2] ?_; (with_reducible refine (spec_l9Row.calls k _ _ l0 _ _ l1 a2 t231 _ ?side1 ?side2 ?side3 ?side4 A6.out).mono ?_); (case side1 => exact cB HR0); (case side2 => exact HC0.out); (case side3 => exact cB HR1); (case side4 => exact HC1.out); rintro e w10 ⟨v232, rfl, ho0, hb⟩; refine ⟨_, rfl, ?_⟩; replace HO230 := Aside0.mk (Kd.R_below (rK HO230) hb); have HO233 := Aside0.mk (Kd.R_lower ho0 (below_size bA)); replace HB := Aside0.mk (below_step bA hb); (try clear hb); (try clear ho0)))
 (try simp only [Act.put, List.setIfInBounds_toArray, List.set_cons_zero, List.set_cons_succ])
 go_cut [31] (fun v31 wc => ∃ (kq : Nat) (x31_6 : Bool), v31 = .bool x31_6 ∧ Aside0 (spec_OpenIn.j0 kq a3 a4 y228 t231 x31_6 = some r) ∧ Aside0 (kq ≤ k) ∧ Aside0 (Kd.R Kd.bool 4 wc w.heap.size (fun _ => True) v229 y228) ∧ Aside0 (Kd.R (Kd.int .i64) 3 wc w.heap.size (fun _ => True) v232 t231) ∧ Aside0 (Below w.heap.size w wc))
 case first =>
  have H := HC7.out
  clear HC7
  by_cases c11 : (t231.length : Int) = 0
  ·
   rw [if_pos c11] at H
   have c11b0 : ((t231.length : Int) == 0) = true := beq_iff_eq.mpr c11
   have c11b1 : ((t231.length : Int) != 0) = false := bne_eq_false_iff_eq.mpr c11
   clear c11
   (first | rw [c11b0] | (simp only [i64_w, i32_w]; rw [c11b0]) | skip)
   have H' := Aside0.mk H
   clear H
   obtain ⟨Ao12, co12, eo12⟩ := Kd.R_slice HO233.out
   subst eo12
   go_wp2
   go_meet
   case rel => exact ⟨_, (true), rS, H', ⟨by first | omega | exact Nat.le_refl _⟩, ⟨rK HO230⟩, ⟨rK HO233⟩, ⟨bA⟩⟩
  ·
   rw [if_neg c11] at H
   have c11b0 : ((t231.length : Int) == 0) = false := beq_eq_false_iff_ne.mpr c11
   have c11b1 : ((t231.length : Int) != 0) = true := bne_iff_ne.mpr c11
   have c11b2 : ¬ (t231 = []) := fun h_ => c11 (by rw [h_]; rfl)
   (first | rw [c11b0] | (simp only [i64_w, i32_w]; rw [c11b0]) | skip)
   obtain ⟨t234, A13, H⟩ := bindE H
   try dsimp only at H
   by_cases c14 : t234 = true
   ·
    subst c14
    have H1 : ((spec_l1In.f a4 0 1000).bind fun t235 => (spec_OpenIn.j0 k a3 a4 y228 t231 (!t235))) = some r := by rw [if_pos rfl] at H; exact H
    clear H
    have H := H1
    clear H1
    obtain ⟨t235, A15, H⟩ := bindE H
    try dsimp only at H
    have H' := Aside0.mk H
    clear H
    obtain ⟨Ao16, co16, eo16⟩ := Kd.R_slice HO233.out
    subst eo16
    go_wp2_with (first | (go_at_call 62; (with_reducible refine (spec_l1In.calls a3 0 100000 true _ A13.out).mono ?_); rintro e w' ⟨rfl, ⟨nd, rfl⟩⟩) | (go_at_call 62; (with_reducible refine (spec_l1In.calls a4 0 1000 t235 _ A15.out).mono ?_); rintro e w' ⟨rfl, ⟨nd, rfl⟩⟩))
    go_meet
    case rel => exact ⟨_, (!t235), rS, H', ⟨by first | omega | exact Nat.le_refl _⟩, ⟨rK HO230⟩, ⟨rK HO233⟩, ⟨bA⟩⟩
   ·
    replace c14 := Bool.eq_false_iff.mpr c14
    subst c14
    have H1 : (spec_OpenIn.j0 k a3 a4 y228 t231 true) = some r := by rw [if_neg (show ¬ (false = true) by decide)] at H; exact H
    clear H
    have H := H1
    clear H1
    have H' := Aside0.mk H
    clear H
    obtain ⟨Ao17, co17, eo17⟩ := Kd.R_slice HO233.out
    subst eo17
    go_wp2_with (first | (go_at_call 62; (with_reducible refine (spec_l1In.calls a3 0 100000 false _ A13.out).mono ?_); rintro e w' ⟨rfl, ⟨nd, rfl⟩⟩))
    go_meet
    case rel => exact ⟨_, (true), rS, H', ⟨by first | omega | exact Nat.le_refl _⟩, ⟨rK HO230⟩, ⟨rK HO233⟩, ⟨bA⟩⟩
 case rest =>
  clear HC7
  try clear c1
  try clear p2
  try clear c6
  try clear c11
  try clear c11b0
  try clear c11b1
  try clear c11b2
  try clear c13
  try clear c14
  obtain ⟨kq, x31_6, rfl, HA, HJ6, HO_11, HO_12, HB⟩ := hcut
  cases kq with
  | zero => exact absurd HA.out (by simp [spec_OpenIn.j0])
  | succ kj6 =>
   have H := HA.out
   clear HA
   simp only [spec_OpenIn.j0] at H
   by_cases c18 : x31_6 = true
   ·
    subst c18
    have H1 : (some y228) = some r := by rw [if_pos rfl] at H; exact H
    clear H
    have H := H1
    clear H1
    obtain rfl := Option.some.inj H
    go_wp2
    go_ret
    exact ⟨_, by first | rfl | (simp [errW_none, errW_some] <;> rfl) | (simp [*, errW_none, errW_some] <;> rfl), by (with_reducible repeat (first | apply Kd.R_alloc | apply Kd.R_drewN | apply Kd.R_drew)); exact HO_11.out, bA⟩
   ·
    replace c18 := Bool.eq_false_iff.mpr c18
    subst c18
    have H1 : (spec_OpenIn.l0 kj6 a3 a4 y228 t231 0) = some r := by rw [if_neg (show ¬ (false = true) by decide)] at H; exact H
    clear H
    have H := H1
    clear H1
    have H' := Aside0.mk H
    clear H
    go_wp2
    go_loopg [11, 13] kj6 (fun kq v11 v13 w' => ∃ (x11_2 : List Bool) (x13_2 : Int), v13 = .int .i64 x13_2 ∧ Aside0 (spec_OpenIn.l0 kq a3 a4 x11_2 t231 x13_2 = some r) ∧ Aside0 (kq ≤ kj6) ∧ Aside0 (Kd.R Kd.bool 4 w' w.heap.size (fun _ => True) v11 x11_2) ∧ Aside0 (Kd.R (Kd.int .i64) 3 w' w.heap.size (fun _ => True) v232 t231) ∧ Aside0 (Below w.heap.size w w'))
    case atStart => exact ⟨(y228), (0), rS, H', ⟨Nat.le_refl _⟩, ⟨rK HO_11⟩, ⟨rK HO_12⟩, ⟨bA⟩⟩
    case round =>
     clear H'
     try clear c1
     try clear p2
     try clear c6
     try clear c11
     try clear c11b0
     try clear c11b1
     try clear c11b2
     try clear c13
     try clear c14
     try clear c18
     try clear p2
     obtain ⟨x11_2, x13_2, rfl, HA, HK2, HO_11, HO_12, HB⟩ := hrel
     cases gk with
     | zero => exact absurd HA.out (by simp [spec_OpenIn.l0])
     | succ k2 =>
      have H := HA.out
      clear HA
      simp only [spec_OpenIn.l0] at H
      by_cases c19 : x13_2 < a4
      ·
       rw [if_pos c19] at H
       have c19b0 := decide_eq_true c19
       clear c19
       have c20 : ¬ ((t231.length : Int) = 0) := ifN' H
       replace H := ifT' H
       have c20b0 : ((t231.length : Int) == 0) = false := beq_eq_false_iff_ne.mpr c20
       have c20b1 : ((t231.length : Int) != 0) = true := bne_iff_ne.mpr c20
       have c20b2 : ¬ (t231 = []) := fun h_ => c20 (by rw [h_]; rfl)
       obtain ⟨ji21, hji21⟩ : ∃ j_ : Int, (Int.tmod (wrap64 (a3 + x13_2)) (t231.length : Int)) = j_ := ⟨_, rfl⟩
       replace H : (if 0 ≤ (ji21) then (if (ji21) < (t231.length : Int) then (if x11_2.length < 140737488355328 then (spec_OpenIn.l0 k2 a3 a4 (x11_2 ++ [((rd t231 (ji21)) == 1)]) t231 (wrap64 (x13_2 + 1))) else (none)) else (none)) else (none)) = some r := by first | (rw [hji21] at H; exact H) | (simp only [hji21] at H ⊢; exact H)
       have c22 : 0 ≤ (ji21) := ifN H
       replace H := ifT H
       have c22b0 := decide_eq_true c22
       clear c22
       have c23 : (ji21) < (t231.length : Int) := ifN H
       replace H := ifT H
       have c23b0 := decide_eq_true c23
       clear c23
       have c24 : x11_2.length < 140737488355328 := ifN H
       replace H := ifT H
       have LMc24 := Aside0.mk c24
       clear c24
       obtain ⟨y237, hy237⟩ : ∃ y_ : List Bool, y_ = (x11_2 ++ [((rd t231 (ji21)) == 1)]) := ⟨_, rfl⟩
       replace H : (spec_OpenIn.l0 k2 a3 a4 y237 t231 (wrap64 (x13_2 + 1))) = some r := by first | (rw [hy237]; with_reducible exact H) | (have H2_ := (Option.bind_some _ _).symm.trans H; rw [hy237]; with_reducible exact H2_) | (have H2_ := (Option.bind_some _ _).symm.trans H; with_reducible exact H2_) | with_reducible exact H | (rw [hy237]; exact H) | exact H
       have Ny237 := Aside0.mk hy237
       clear hy237
       have H' := Aside0.mk H
       clear H
       obtain ⟨Ao25, co25, eo25⟩ := Kd.R_slice HO_12.out
       subst eo25
       have p236 : 0 ≤ ((ji21) : Int) := dA
       have q236 : (ji21) < (t231.length : Int) := dA
       obtain ⟨ad236, e236, hx236_0⟩ := Kd.at_int (Kd.R_reads' HO_12.out).2.2 (ji21) p236 q236
       cases e236
       replace p236 := eq_true p236
       replace q236 := eq_true q236
       go_wp2_with (first | ((with_reducible refine gate_builtin (b := .append) (xs := #[.tmp 38, .tmp 49]) rfl ?_); at_builtin; refine Kd.R_append Kd.bool (w0 := w) w.heap.size rfl (.tmp 38) (.tmp 49) 26 4 (.bool false) 1 rfl Try.underlying26 info4 rfl (by decide) (by omega) u11 x11_2 ((rd t231 (ji21)) == 1) [.bool ((rd t231 (ji21)) == 1)] (fun _ => True) (fun _ => False) rfl rfl ?aP (fun _ hk => hk.elim) ?aF ?aO ?aB ?aS ?aL ?_; (case aP => exact rfl); (case aB => exact bA); (case aF => exact (fun _ _ => trivial)); (case aO => exact (rK HO_11)); (case aS => exact (below_size bA)); (case aL => have := LMc24.out; omega); intro v238 w26 ho hb hg hat; rw [← Ny237.out] at ho; have n0_ := Aside0.mk (Kd.R_over' (rK HO_12) (Kd.R_typed (rK HO_11)) (by decide) hg); have n1_ := Aside0.mk (hb); have n2_ := Aside0.mk (ho); clear HO_12; clear HB; clear HO_11; have HO_12 := n0_; have HB := n1_; have HO239 := n2_; clear n0_ n1_ n2_; clear ho hb hg hat))
       go_roundg k2
       case measure => have := HJ6.out; have := HK2.out; omega
       case rel => exact ⟨(y237), (wrap64 (x13_2 + 1)), rS, H', ⟨by have := HJ6.out; have := HK2.out; omega⟩, ⟨rK HO239⟩, ⟨rK HO_12⟩, ⟨bA⟩⟩
      ·
       rw [if_neg c19] at H
       have c19b0 := decide_eq_false c19
       clear c19
       obtain rfl := Option.some.inj H
       go_wp2
       go_ret
       exact ⟨_, by first | rfl | (simp [errW_none, errW_some] <;> rfl) | (simp [*, errW_none, errW_some] <;> rfl), by (with_reducible repeat (first | apply Kd.R_alloc | apply Kd.R_drewN | apply Kd.R_drew)); exact HO_11.out, bA⟩

/-! ### impl_OpenIn: function 16 -/
mutual
def impl_OpenIn.j0 : Nat → Int → Int → List Bool → List Bool → Bool → Option (List Bool)
 | 0, _, _, _, _, _ => none
 | k + 1, x3, x4, x11, x12, x31 => if x31 = true then (some x11) else (impl_OpenIn.l0 k x3 x11 x12 x4 0)
def impl_OpenIn.l0 : Nat → Int → List Bool → List Bool → Int → Int → Option (List Bool)
 | 0, _, _, _, _, _ => none
 | k + 1, x3, x11, x12, x33, x34 => if x34 < x33 then (if (x12.length : Int) = 0 then (none) else (if 0 ≤ (Int.tmod (wrap64 (x3 + x34)) (x12.length : Int)) then (if (Int.tmod (wrap64 (x3 + x34)) (x12.length : Int)) < (x12.length : Int) then (if x11.length < 140737488355328 then (impl_OpenIn.l0 k x3 (x11 ++ [rdOf false x12 (Int.tmod (wrap64 (x3 + x34)) (x12.length : Int))]) x12 x33 (wrap64 (x34 + 1))) else (none)) else (none)) else (none))) else (some x11)
end
def impl_OpenIn.f (k : Nat) (l0 : List (S89)) (l1 : List (S92)) (a2 : Int) (a3 : Int) (a4 : Int) : Option (List Bool) := (some (([] : List Bool) : List Bool)).bind fun y401 => ((impl_greens.f k l0 l1 a2).bind fun t404 => (if (t404.length : Int) = 0 then (impl_OpenIn.j0 k a3 a4 y401 t404 true) else ((impl_InRange.f a3 0 100000).bind fun t407 => (if t407 = true then ((impl_InRange.f a4 0 1000).bind fun t408 => (impl_OpenIn.j0 k a3 a4 y401 t404 (!t408))) else (impl_OpenIn.j0 k a3 a4 y401 t404 true)))))
theorem impl_OpenIn.mono_l : ∀ k, (∀ y0 y1 y2 y3 y4, LeO (impl_OpenIn.j0 k y0 y1 y2 y3 y4) (impl_OpenIn.j0 (k + 1) y0 y1 y2 y3 y4)) ∧ (∀ y0 y1 y2 y3 y4, LeO (impl_OpenIn.l0 k y0 y1 y2 y3 y4) (impl_OpenIn.l0 (k + 1) y0 y1 y2 y3 y4))
 | 0 => ⟨fun _ _ _ _ _ r h => by simp [impl_OpenIn.j0] at h, fun _ _ _ _ _ r h => by simp [impl_OpenIn.l0] at h⟩
 | k + 1 => by
  obtain ⟨ih0, ih1⟩ := impl_OpenIn.mono_l k
  refine ⟨?_, ?_⟩
  ·
   intro y0 y1 y2 y3 y4
   unfold impl_OpenIn.j0
   repeat' first | (with_reducible first | exact LeO.refl _ | exact LeO.none _ | refine LeO.ite ?_ ?_ | refine LeO.bind ?_ (fun _ => ?_) | exact ih0 _ _ _ _ _ | exact ih1 _ _ _ _ _ | exact impl_greens.mono _ _ _ _)
  ·
   intro y0 y1 y2 y3 y4
   unfold impl_OpenIn.l0
   repeat' first | (with_reducible first | exact LeO.refl _ | exact LeO.none _ | refine LeO.ite ?_ ?_ | refine LeO.bind ?_ (fun _ => ?_) | exact ih0 _ _ _ _ _ | exact ih1 _ _ _ _ _ | exact impl_greens.mono _ _ _ _)
theorem impl_OpenIn.mono : ∀ a0 a1 a2 a3 a4 k, LeO (impl_OpenIn.f k a0 a1 a2 a3 a4) (impl_OpenIn.f (k + 1) a0 a1 a2 a3 a4) := by
 intro a0 a1 a2 a3 a4 k
 obtain ⟨ih0, ih1⟩ := impl_OpenIn.mono_l k
 unfold impl_OpenIn.f
 repeat' first | (with_reducible first | exact LeO.refl _ | exact LeO.none _ | refine LeO.ite ?_ ?_ | refine LeO.bind ?_ (fun _ => ?_) | exact ih0 _ _ _ _ _ | exact ih1 _ _ _ _ _ | exact impl_greens.mono _ _ _ _)
set_option maxHeartbeats 8000000 in
set_option maxRecDepth 100000 in
theorem impl_OpenIn.calls (k : Nat) (A0 : Option Addr) (c0 : Nat) (l0 : List (S89)) (A1 : Option Addr) (c1 : Nat) (l1 : List (S92)) (a2 : Int) (a3 : Int) (a4 : Int) (r : List Bool) (w : World) (hr0 : Kd.C k89 w A0 l0.length l0) (hc0 : l0.length ≤ c0) (hr1 : Kd.C k92 w A1 l1.length l1) (hc1 : l1.length ≤ c1) (h : impl_OpenIn.f k l0 l1 a2 a3 a4 = some r) :
  Calls Try.prog 16 #[.slice A0 l0.length c0, .slice A1 l1.length c1, .int .i64 a2, .int .i64 a3, .int .i64 a4] w fun e w' => ∃ v0_ : Value, e = .returned (v0_) ∧ Kd.R Kd.bool 4 w' w.heap.size (fun _ => True) v0_ r ∧ Below w.heap.size w w' := by
 have HR0 := Aside0.mk hr0
 have HC0 := Aside0.mk hc0
 clear hr0 hc0
 have HR1 := Aside0.mk hr1
 have HC1 := Aside0.mk hc1
 clear hr1 hc1
 have HB := Aside0.mk (Below.refl w.heap.size w)
 have H : ((some (([] : List Bool) : List Bool)).bind fun y401 => ((impl_greens.f k l0 l1 a2).bind fun t404 => (if (t404.length : Int) = 0 then (impl_OpenIn.j0 k a3 a4 y401 t404 true) else ((impl_InRange.f a3 0 100000).bind fun t407 => (if t407 = true then ((impl_InRange.f a4 0 1000).bind fun t408 => (impl_OpenIn.j0 k a3 a4 y401 t404 (!t408))) else (impl_OpenIn.j0 k a3 a4 y401 t404 true)))))) = some r := h
 clear h
 obtain ⟨y401, hy401⟩ : ∃ y_ : List Bool, y_ = (([] : List Bool)) := ⟨_, rfl⟩
 replace H : ((impl_greens.f k l0 l1 a2).bind fun t404 => (if (t404.length : Int) = 0 then (impl_OpenIn.j0 k a3 a4 y401 t404 true) else ((impl_InRange.f a3 0 100000).bind fun t407 => (if t407 = true then ((impl_InRange.f a4 0 1000).bind fun t408 => (impl_OpenIn.j0 k a3 a4 y401 t404 (!t408))) else (impl_OpenIn.j0 k a3 a4 y401 t404 true))))) = some r := by first | (rw [hy401]; with_reducible exact H) | (have H2_ := (Option.bind_some _ _).symm.trans H; rw [hy401]; with_reducible exact H2_) | (have H2_ := (Option.bind_some _ _).symm.trans H; with_reducible exact H2_) | with_reducible exact H | (rw [hy401]; exact H) | exact H
 have Ny401 := Aside0.mk hy401
 clear hy401
 obtain ⟨t404, A6, H⟩ := bindE H
 try dsimp only at H
 have HC7 := Aside0.mk H
 clear H
 go_enter Try.func16, Try.ntmps16
 go_upto_region 3 with (first | ((with_reducible refine gate_dst (N := 14) rfl ?_); refine Kd.R_lit Kd.bool _ 4 ?hg (N := 14) ?hd (xs := ([] : List Bool)) (inner := []) (ok := fun _ => True) (okp := fun _ => True) ?hr ?hp (fun _ hk => hk) trivial (Below.refl _ _) (Nat.le_refl _) (by simp) ?_; (case hd => rfl); (case hg => rfl); (case hr => first | (go_simp; done) | (go_simp; rfl)); (case hp => exact (Reps.none _ _)); intro v402 w8 ho9 hb hg_ hnew_; clear hg_ hnew_; (first | rw [← Ny401.out] at ho9 | (simp only [Int.reduceToNat] at ho9; rw [← Ny401.out] at ho9)); have HO403 := Aside0.mk (Kd.R_lower ho9 (below_size bA)); replace HB := Aside0.mk (below_step bA hb); clear hb ho9) | ((with_reducible refine gate_callee (f := 65) rfl ?_); refine gL (some 18) Try.func65 #[.slice A0 l0.length c0, .slice A1 l1.length c1, .int .i64 a2] ?_; (with_reducible refine (impl_greens.calls k _ _ l0 _ _ l1 a2 t404 _ ?side1 ?side2 ?side3 ?side4 A6.out).mono ?_); (case side1 => exact cB HR0); (case side2 => exact HC0.out); (case side3 => exact cB HR1); (case side4 => exact HC1.out); rintro e w10 ⟨v405, rfl, ho0, hb⟩; refine ⟨_, rfl, ?_⟩; have HO406 := Aside0.mk (Kd.R_lower (Kd.R_new' ho0 (Kd.R_lt (rK HO403))) (below_size bA)); replace HO403 := Aside0.mk (Kd.R_elder' (rK HO403) (Kd.R_base ho0) hb); replace HB := Aside0.mk (below_step bA hb); (try clear hb); (try clear ho0)))
 (try simp only [Act.put, List.setIfInBounds_toArray, List.set_cons_zero, List.set_cons_succ])
 go_cut [31] (fun v31 wc => ∃ (kq : Nat) (x31_6 : Bool), v31 = .bool x31_6 ∧ Aside0 (impl_OpenIn.j0 kq a3 a4 y401 t404 x31_6 = some r) ∧ Aside0 (kq ≤ k) ∧ Aside0 (Kd.R Kd.bool 4 wc w.heap.size (fun k_ => some k_ ≠ (v405 : Value).ownBlock) v402 y401) ∧ Aside0 (Kd.R Kd.bool 4 wc w.heap.size (fun k_ => some k_ ≠ (v402 : Value).ownBlock) v405 t404) ∧ Aside0 (Below w.heap.size w wc))
 case first =>
  have H := HC7.out
  clear HC7
  by_cases c11 : (t404.length : Int) = 0
  ·
   rw [if_pos c11] at H
   have c11b0 : ((t404.length : Int) == 0) = true := beq_iff_eq.mpr c11
   have c11b1 : ((t404.length : Int) != 0) = false := bne_eq_false_iff_eq.mpr c11
   clear c11
   (first | rw [c11b0] | (simp only [i64_w, i32_w]; rw [c11b0]) | skip)
   have H' := Aside0.mk H
   clear H
   obtain ⟨Ao12, co12, eo12⟩ := Kd.R_slice HO406.out
   subst eo12
   go_wp2
   go_meet
   case rel => exact ⟨_, (true), rS, H', ⟨by first | omega | exact Nat.le_refl _⟩, ⟨by (with_reducible repeat (first | apply Kd.R_alloc | apply Kd.R_drewN | apply Kd.R_drew)); exact Kd.R_mono HO403.out (fun _ hk => hk.2)⟩, ⟨by (with_reducible repeat (first | apply Kd.R_alloc | apply Kd.R_drewN | apply Kd.R_drew)); exact Kd.R_mono HO406.out (fun _ hk => hk.2)⟩, ⟨bA⟩⟩
  ·
   rw [if_neg c11] at H
   have c11b0 : ((t404.length : Int) == 0) = false := beq_eq_false_iff_ne.mpr c11
   have c11b1 : ((t404.length : Int) != 0) = true := bne_iff_ne.mpr c11
   have c11b2 : ¬ (t404 = []) := fun h_ => c11 (by rw [h_]; rfl)
   (first | rw [c11b0] | (simp only [i64_w, i32_w]; rw [c11b0]) | skip)
   obtain ⟨t407, A13, H⟩ := bindE H
   try dsimp only at H
   by_cases c14 : t407 = true
   ·
    subst c14
    have H1 : ((impl_InRange.f a4 0 1000).bind fun t408 => (impl_OpenIn.j0 k a3 a4 y401 t404 (!t408))) = some r := by rw [if_pos rfl] at H; exact H
    clear H
    have H := H1
    clear H1
    obtain ⟨t408, A15, H⟩ := bindE H
    try dsimp only at H
    have H' := Aside0.mk H
    clear H
    obtain ⟨Ao16, co16, eo16⟩ := Kd.R_slice HO406.out
    subst eo16
    go_wp2_with (first | (go_at_call 66; (with_reducible refine (impl_InRange.calls a3 0 100000 true _ A13.out).mono ?_); rintro e w' ⟨rfl, ⟨nd, rfl⟩⟩) | (go_at_call 66; (with_reducible refine (impl_InRange.calls a4 0 1000 t408 _ A15.out).mono ?_); rintro e w' ⟨rfl, ⟨nd, rfl⟩⟩))
    go_meet
    case rel => exact ⟨_, (!t408), rS, H', ⟨by first | omega | exact Nat.le_refl _⟩, ⟨by (with_reducible repeat (first | apply Kd.R_alloc | apply Kd.R_drewN | apply Kd.R_drew)); exact Kd.R_mono HO403.out (fun _ hk => hk.2)⟩, ⟨by (with_reducible repeat (first | apply Kd.R_alloc | apply Kd.R_drewN | apply Kd.R_drew)); exact Kd.R_mono HO406.out (fun _ hk => hk.2)⟩, ⟨bA⟩⟩
   ·
    replace c14 := Bool.eq_false_iff.mpr c14
    subst c14
    have H1 : (impl_OpenIn.j0 k a3 a4 y401 t404 true) = some r := by rw [if_neg (show ¬ (false = true) by decide)] at H; exact H
    clear H
    have H := H1
    clear H1
    have H' := Aside0.mk H
    clear H
    obtain ⟨Ao17, co17, eo17⟩ := Kd.R_slice HO406.out
    subst eo17
    go_wp2_with (first | (go_at_call 66; (with_reducible refine (impl_InRange.calls a3 0 100000 false _ A13.out).mono ?_); rintro e w' ⟨rfl, ⟨nd, rfl⟩⟩))
    go_meet
    case rel => exact ⟨_, (true), rS, H', ⟨by first | omega | exact Nat.le_refl _⟩, ⟨by (with_reducible repeat (first | apply Kd.R_alloc | apply Kd.R_drewN | apply Kd.R_drew)); exact Kd.R_mono HO403.out (fun _ hk => hk.2)⟩, ⟨by (with_reducible repeat (first | apply Kd.R_alloc | apply Kd.R_drewN | apply Kd.R_drew)); exact Kd.R_mono HO406.out (fun _ hk => hk.2)⟩, ⟨bA⟩⟩
 case rest =>
  clear HC7
  try clear c1
  try clear p2
  try clear c6
  try clear c11
  try clear c11b0
  try clear c11b1
  try clear c11b2
  try clear c14
  try clear c16
  obtain ⟨kq, x31_6, rfl, HA, HJ6, HO_11, HO_12, HB⟩ := hcut
  cases kq with
  | zero => exact absurd HA.out (by simp [impl_OpenIn.j0])
  | succ kj6 =>
   have H := HA.out
   clear HA
   simp only [impl_OpenIn.j0] at H
   by_cases c18 : x31_6 = true
   ·
    subst c18
    have H1 : (some y401) = some r := by rw [if_pos rfl] at H; exact H
    clear H
    have H := H1
    clear H1
    obtain rfl := Option.some.inj H
    go_wp2
    go_ret
    exact ⟨_, by first | rfl | (simp [errW_none, errW_some] <;> rfl) | (simp [*, errW_none, errW_some] <;> rfl), by (with_reducible repeat (first | apply Kd.R_alloc | apply Kd.R_drewN | apply Kd.R_drew)); exact Kd.R_mono HO_11.out (fun _ hk => trivial), bA⟩
   ·
    replace c18 := Bool.eq_false_iff.mpr c18
    subst c18
    have H1 : (impl_OpenIn.l0 kj6 a3 y401 t404 a4 0) = some r := by rw [if_neg (show ¬ (false = true) by decide)] at H; exact H
    clear H
    have H := H1
    clear H1
    have H' := Aside0.mk H
    clear H
    go_wp2
    go_loopg [11, 34] kj6 (fun kq v11 v34 w' => ∃ (x11_2 : List Bool) (x34_2 : Int), v34 = .int .i64 x34_2 ∧ Aside0 (impl_OpenIn.l0 kq a3 x11_2 t404 a4 x34_2 = some r) ∧ Aside0 (kq ≤ kj6) ∧ Aside0 (Kd.R Kd.bool 4 w' w.heap.size (fun k_ => some k_ ≠ (v405 : Value).ownBlock) v11 x11_2) ∧ Aside0 (Kd.R Kd.bool 4 w' w.heap.size (fun k_ => some k_ ≠ (v11 : Value).ownBlock) v405 t404) ∧ Aside0 (Below w.heap.size w w'))
    case atStart => exact ⟨(y401), (0), rS, H', ⟨Nat.le_refl _⟩, ⟨rK HO_11⟩, ⟨rK HO_12⟩, ⟨bA⟩⟩
    case round =>
     clear H'
     try clear c1
     try clear p2
     try clear c6
     try clear c11
     try clear c11b0
     try clear c11b1
     try clear c11b2
     try clear c14
     try clear c16
     try clear c18
     try clear p2
     obtain ⟨x11_2, x34_2, rfl, HA, HK2, HO_11, HO_12, HB⟩ := hrel
     cases gk with
     | zero => exact absurd HA.out (by simp [impl_OpenIn.l0])
     | succ k2 =>
      have H := HA.out
      clear HA
      simp only [impl_OpenIn.l0] at H
      by_cases c19 : x34_2 < a4
      ·
       rw [if_pos c19] at H
       have c19b0 := decide_eq_true c19
       clear c19
       have c20 : ¬ ((t404.length : Int) = 0) := ifN' H
       replace H := ifT' H
       have c20b0 : ((t404.length : Int) == 0) = false := beq_eq_false_iff_ne.mpr c20
       have c20b1 : ((t404.length : Int) != 0) = true := bne_iff_ne.mpr c20
       have c20b2 : ¬ (t404 = []) := fun h_ => c20 (by rw [h_]; rfl)
       obtain ⟨ji21, hji21⟩ : ∃ j_ : Int, (Int.tmod (wrap64 (a3 + x34_2)) (t404.length : Int)) = j_ := ⟨_, rfl⟩
       replace H : (if 0 ≤ (ji21) then (if (ji21) < (t404.length : Int) then (if x11_2.length < 140737488355328 then (impl_OpenIn.l0 k2 a3 (x11_2 ++ [rdOf false t404 (ji21)]) t404 a4 (wrap64 (x34_2 + 1))) else (none)) else (none)) else (none)) = some r := by first | (rw [hji21] at H; exact H) | (simp only [hji21] at H ⊢; exact H)
       have c22 : 0 ≤ (ji21) := ifN H
       replace H := ifT H
       have c22b0 := decide_eq_true c22
       clear c22
       have c23 : (ji21) < (t404.length : Int) := ifN H
       replace H := ifT H
       have c23b0 := decide_eq_true c23
       clear c23
       have c24 : x11_2.length < 140737488355328 := ifN H
       replace H := ifT H
       have LMc24 := Aside0.mk c24
       clear c24
       obtain ⟨y410, hy410⟩ : ∃ y_ : List Bool, y_ = (x11_2 ++ [rdOf false t404 (ji21)]) := ⟨_, rfl⟩
       replace H : (impl_OpenIn.l0 k2 a3 y410 t404 a4 (wrap64 (x34_2 + 1))) = some r := by first | (rw [hy410]; with_reducible exact H) | (have H2_ := (Option.bind_some _ _).symm.trans H; rw [hy410]; with_reducible exact H2_) | (have H2_ := (Option.bind_some _ _).symm.trans H; with_reducible exact H2_) | with_reducible exact H | (rw [hy410]; exact H) | exact H
       have Ny410 := Aside0.mk hy410
       clear hy410
       have H' := Aside0.mk H
       clear H
       obtain ⟨Ao25, co25, eo25⟩ := Kd.R_slice HO_12.out
       subst eo25
       have p409 : 0 ≤ ((ji21) : Int) := dA
       have q409 : (ji21) < (t404.length : Int) := dA
       obtain ⟨ad409, e409, hx409_0⟩ := Kd.at_bool (Kd.R_reads' HO_12.out).2.2 (ji21) p409 q409
       cases e409
       replace p409 := eq_true p409
       replace q409 := eq_true q409
       go_wp2_with (first | ((with_reducible refine gate_builtin (b := .append) (xs := #[.tmp 37, .tmp 47]) rfl ?_); at_builtin; refine Kd.R_append Kd.bool (w0 := w) w.heap.size rfl (.tmp 37) (.tmp 47) 26 4 (.bool false) 1 rfl Try.underlying26 info4 rfl (by decide) (by omega) u11 x11_2 (rdOf false t404 (ji21)) [.bool (rdOf false t404 (ji21))] (fun k_ => some k_ ≠ (.slice (some ad409) t404.length co25 : Value).ownBlock) (fun _ => False) rfl rfl ?aP (fun _ hk => hk.elim) ?aF ?aO ?aB ?aS ?aL ?_; (case aP => exact rfl); (case aB => exact bA); (case aF => exact (fun k_ hk => Kd.fresh' (Kd.R_lt (rK HO_12)) k_ hk)); (case aO => exact (rK HO_11)); (case aS => exact (below_size bA)); (case aL => have := LMc24.out; omega); intro v411 w26 ho hb hg hat; rw [← Ny410.out] at ho; have n0_ := Aside0.mk (Kd.R_after (ok := (fun _ => True)) (by (with_reducible repeat (first | apply Kd.R_alloc | apply Kd.R_drewN | apply Kd.R_drew)); exact Kd.R_mono HO_12.out (fun _ hk => ⟨trivial, hk⟩)) hg hat); have n1_ := Aside0.mk (hb); have n2_ := Aside0.mk (ho); clear HO_12; clear HB; clear HO_11; have HO_12 := n0_; have HB := n1_; have HO412 := n2_; clear n0_ n1_ n2_; clear ho hb hg hat))
       go_roundg k2
       case measure => have := HJ6.out; have := HK2.out; omega
       case rel => exact ⟨(y410), (wrap64 (x34_2 + 1)), rS, H', ⟨by have := HJ6.out; have := HK2.out; omega⟩, ⟨rK HO412⟩, ⟨by (with_reducible repeat (first | apply Kd.R_alloc | apply Kd.R_drewN | apply Kd.R_drew)); exact Kd.R_mono HO_12.out (fun _ hk => hk.2)⟩, ⟨bA⟩⟩
      ·
       rw [if_neg c19] at H
       have c19b0 := decide_eq_false c19
       clear c19
       obtain rfl := Option.some.inj H
       go_wp2
       go_ret
       exact ⟨_, by first | rfl | (simp [errW_none, errW_some] <;> rfl) | (simp [*, errW_none, errW_some] <;> rfl), by (with_reducible repeat (first | apply Kd.R_alloc | apply Kd.R_drewN | apply Kd.R_drew)); exact Kd.R_mono HO_11.out (fun _ hk => trivial), bA⟩

/-! ### laws_eqBoolS: function 17 -/
def laws_eqBoolS.l0 : Nat → List Bool → List Bool → Int → Option (Bool)
 | 0, _, _, _ => none
 | k + 1, x0, x1, x5 => if x5 < (x0.length : Int) then (if 0 ≤ x5 then (if x5 < (x1.length : Int) then (if ((rdOf false x0 x5) != (rdOf false x1 x5)) = true then (some false) else (laws_eqBoolS.l0 k x0 x1 (wrap64 (x5 + 1)))) else (none)) else (none)) else (some true)
def laws_eqBoolS.f (k : Nat) (l0 : List Bool) (l1 : List Bool) : Option (Bool) := if (l0.length : Int) = (l1.length : Int) then (laws_eqBoolS.l0 k l0 l1 0) else (some false)
theorem laws_eqBoolS.mono_l : ∀ k, (∀ y0 y1 y2, LeO (laws_eqBoolS.l0 k y0 y1 y2) (laws_eqBoolS.l0 (k + 1) y0 y1 y2))
 | 0 => fun _ _ _ r h => by simp [laws_eqBoolS.l0] at h
 | k + 1 => by
  have ih0 := laws_eqBoolS.mono_l k
  ·
   intro y0 y1 y2
   unfold laws_eqBoolS.l0
   repeat' first | (with_reducible first | exact LeO.refl _ | exact LeO.none _ | refine LeO.ite ?_ ?_ | refine LeO.bind ?_ (fun _ => ?_) | exact ih0 _ _ _)
theorem laws_eqBoolS.mono : ∀ a0 a1 k, LeO (laws_eqBoolS.f k a0 a1) (laws_eqBoolS.f (k + 1) a0 a1) := by
 intro a0 a1 k
 have ih0 := laws_eqBoolS.mono_l k
 unfold laws_eqBoolS.f
 repeat' first | (with_reducible first | exact LeO.refl _ | exact LeO.none _ | refine LeO.ite ?_ ?_ | refine LeO.bind ?_ (fun _ => ?_) | exact ih0 _ _ _)
set_option maxHeartbeats 8000000 in
set_option maxRecDepth 100000 in
theorem laws_eqBoolS.calls (k : Nat) (A0 : Option Addr) (c0 : Nat) (l0 : List Bool) (A1 : Option Addr) (c1 : Nat) (l1 : List Bool) (r : Bool) (w : World) (hr0 : Kd.C Kd.bool w A0 l0.length l0) (hc0 : l0.length ≤ c0) (hr1 : Kd.C Kd.bool w A1 l1.length l1) (hc1 : l1.length ≤ c1) (h : laws_eqBoolS.f k l0 l1 = some r) :
  Calls Try.prog 17 #[.slice A0 l0.length c0, .slice A1 l1.length c1] w fun e w' => e = .returned (.bool r) ∧ Drawn0 w w' := by
 have HR0 := Aside0.mk hr0
 have HC0 := Aside0.mk hc0
 clear hr0 hc0
 have HR1 := Aside0.mk hr1
 have HC1 := Aside0.mk hc1
 clear hr1 hc1
 have H : (if (l0.length : Int) = (l1.length : Int) then (laws_eqBoolS.l0 k l0 l1 0) else (some false)) = some r := h
 clear h
 by_cases c3 : (l0.length : Int) = (l1.length : Int)
 ·
  rw [if_pos c3] at H
  have c3b0 : ((l0.length : Int) == (l1.length : Int)) = true := beq_iff_eq.mpr c3
  have c3b1 : ((l0.length : Int) != (l1.length : Int)) = false := bne_eq_false_iff_eq.mpr c3
  have c3b2 : (l0.length == l1.length) = true := by first | simpa using c3 | (simp at c3 ⊢; omega)
  clear c3
  have H' := Aside0.mk H
  clear H
  go_enter Try.func17, Try.ntmps17
  go_wp2
  repeat (go_quiet (fail); try go_wp2)
  go_loopg [5] k (fun kq v5 w' => ∃ (x5_1 : Int), v5 = .int .i64 x5_1 ∧ Aside0 (laws_eqBoolS.l0 kq l0 l1 x5_1 = some r) ∧ Aside0 (kq ≤ k) ∧ Drawn0 w w')
  case atStart => exact ⟨(0), rS, H', ⟨Nat.le_refl _⟩, by repeat (first | exact Drawn0.refl _ | apply Drawn0.step)⟩
  case round =>
   clear H'
   try clear c1
   try clear p2
   try clear c3
   try clear c3b0
   try clear c3b1
   try clear c3b2
   obtain ⟨x5_1, rfl, HA, HK1, ⟨m1, rfl⟩⟩ := hrel
   cases gk with
   | zero => exact absurd HA.out (by simp [laws_eqBoolS.l0])
   | succ k1 =>
    have H := HA.out
    clear HA
    simp only [laws_eqBoolS.l0] at H
    by_cases c4 : x5_1 < (l0.length : Int)
    ·
     rw [if_pos c4] at H
     have c4b0 := decide_eq_true c4
     clear c4
     have c5 : 0 ≤ x5_1 := ifN H
     replace H := ifT H
     have c5b0 := decide_eq_true c5
     clear c5
     have c6 : x5_1 < (l1.length : Int) := ifN H
     replace H := ifT H
     have c6b0 := decide_eq_true c6
     clear c6
     by_cases c7 : ((rdOf false l0 x5_1) != (rdOf false l1 x5_1)) = true
     ·
      rw [if_pos c7] at H
      have c7b0 : ((rdOf false l0 x5_1) != (rdOf false l1 x5_1)) = true := c7
      (try (have c7b1 : decide ((rdOf false l0 x5_1) = (rdOf false l1 x5_1)) = false := by simpa using c7))
      (try (have c7b2 : ((rdOf false l0 x5_1) == (rdOf false l1 x5_1)) = false := by simpa using c7))
      (try (have c7b3 : ¬ ((rdOf false l0 x5_1) = (rdOf false l1 x5_1)) := by simpa using c7))
      clear c7
      obtain rfl := Option.some.inj H
      have p413 : 0 ≤ (x5_1 : Int) := dA
      have q413 : x5_1 < (l0.length : Int) := dA
      obtain ⟨ad413, e413, hx413_0⟩ := Kd.at_bool HR0.out x5_1 p413 q413
      cases e413
      replace p413 := eq_true p413
      replace q413 := eq_true q413
      have p414 : 0 ≤ (x5_1 : Int) := dA
      have q414 : x5_1 < (l1.length : Int) := dA
      obtain ⟨ad414, e414, hx414_0⟩ := Kd.at_bool HR1.out x5_1 p414 q414
      cases e414
      replace p414 := eq_true p414
      replace q414 := eq_true q414
      go_wp2
      repeat (go_quiet (fail); try go_wp2)
      go_ret
      exact ⟨by first | rfl | (simp; done) | (simp [*]; done), by repeat (first | exact Drawn0.refl _ | apply Drawn0.step)⟩
     ·
      rw [if_neg c7] at H
      have c7b0 : ((rdOf false l0 x5_1) != (rdOf false l1 x5_1)) = false := by simpa using c7
      (try (have c7b1 : decide ((rdOf false l0 x5_1) = (rdOf false l1 x5_1)) = true := by simpa using c7))
      (try (have c7b2 : ((rdOf false l0 x5_1) == (rdOf false l1 x5_1)) = true := by simpa using c7))
      clear c7
      have H' := Aside0.mk H
      clear H
      have p413 : 0 ≤ (x5_1 : Int) := dA
      have q413 : x5_1 < (l0.length : Int) := dA
      obtain ⟨ad413, e413, hx413_0⟩ := Kd.at_bool HR0.out x5_1 p413 q413
      cases e413
      replace p413 := eq_true p413
      replace q413 := eq_true q413
      have p414 : 0 ≤ (x5_1 : Int) := dA
      have q414 : x5_1 < (l1.length : Int) := dA
      obtain ⟨ad414, e414, hx414_0⟩ := Kd.at_bool HR1.out x5_1 p414 q414
      cases e414
      replace p414 := eq_true p414
      replace q414 := eq_true q414
      go_wp2
      repeat (go_quiet (fail); try go_wp2)
      go_roundg k1
      case measure => have := HK1.out; omega
      case rel => exact ⟨(wrap64 (x5_1 + 1)), rS, H', ⟨by have := HK1.out; omega⟩, by repeat (first | exact Drawn0.refl _ | apply Drawn0.step)⟩
    ·
     rw [if_neg c4] at H
     have c4b0 := decide_eq_false c4
     clear c4
     obtain rfl := Option.some.inj H
     go_wp2
     repeat (go_quiet (fail); try go_wp2)
     go_ret
     exact ⟨by first | rfl | (simp; done) | (simp [*]; done), by repeat (first | exact Drawn0.refl _ | apply Drawn0.step)⟩
 ·
  rw [if_neg c3] at H
  have c3b0 : ((l0.length : Int) == (l1.length : Int)) = false := beq_eq_false_iff_ne.mpr c3
  have c3b1 : ((l0.length : Int) != (l1.length : Int)) = true := bne_iff_ne.mpr c3
  have c3b2 : (l0.length == l1.length) = false := by first | simpa using c3 | (simp at c3 ⊢; omega)
  obtain rfl := Option.some.inj H
  go_enter Try.func17, Try.ntmps17
  go_wp2
  repeat (go_quiet (fail); try go_wp2)
  go_ret
  exact ⟨by first | rfl | (simp; done) | (simp [*]; done), by repeat (first | exact Drawn0.refl _ | apply Drawn0.step)⟩

/-! ### laws_markBoolS: function 22 -/
def laws_markBoolS.l0 : Nat → List Bool → Int → Int → Option (Int × List Bool)
 | 0, _, _, _ => none
 | k + 1, x0, x1, x5 => if x5 < (x0.length : Int) then (if 0 ≤ x5 then (laws_markBoolS.l0 k (x0.set (x5 : Int).toNat ((Int.tmod x1 3) == 0)) (wrap64 (x1 + 1)) (wrap64 (x5 + 1))) else (none)) else (some (x1, x0))
def laws_markBoolS.f (k : Nat) (l0 : List Bool) (a1 : Int) : Option (Int × List Bool) := laws_markBoolS.l0 k l0 a1 0
theorem laws_markBoolS.mono_l : ∀ k, (∀ y0 y1 y2, LeO (laws_markBoolS.l0 k y0 y1 y2) (laws_markBoolS.l0 (k + 1) y0 y1 y2))
 | 0 => fun _ _ _ r h => by simp [laws_markBoolS.l0] at h
 | k + 1 => by
  have ih0 := laws_markBoolS.mono_l k
  ·
   intro y0 y1 y2
   unfold laws_markBoolS.l0
   repeat' first | (with_reducible first | exact LeO.refl _ | exact LeO.none _ | refine LeO.ite ?_ ?_ | refine LeO.bind ?_ (fun _ => ?_) | exact ih0 _ _ _)
theorem laws_markBoolS.mono : ∀ a0 a1 k, LeO (laws_markBoolS.f k a0 a1) (laws_markBoolS.f (k + 1) a0 a1) := by
 intro a0 a1 k
 have ih0 := laws_markBoolS.mono_l k
 unfold laws_markBoolS.f
 repeat' first | (with_reducible first | exact LeO.refl _ | exact LeO.none _ | refine LeO.ite ?_ ?_ | refine LeO.bind ?_ (fun _ => ?_) | exact ih0 _ _ _)
set_option maxHeartbeats 8000000 in
set_option maxRecDepth 100000 in
theorem laws_markBoolS.calls (k : Nat) (P0_ : Nat → Prop) (u9000_ : Value) (l0 : List Bool) (a1 : Int) (r1 : Int) (r2 : List Bool) (w0 w : World) (hB : Below w0.heap.size w0 w) (ho0 : Kd.R Kd.bool 4 w w0.heap.size P0_ u9000_ l0) (h : laws_markBoolS.f k l0 a1 = some (r1, r2)) :
  Calls Try.prog 22 #[u9000_, .int .i64 a1] w fun e w' => e = .returned (.int .i64 r1) ∧ Kd.R Kd.bool 4 w' w0.heap.size (fun k_ => (P0_ k_ ∨ w.heap.size ≤ k_)) u9000_ r2 ∧ Below w0.heap.size w0 w' ∧ Kept w w' (fun k_ => P0_ k_) := by
 have HO0 := Aside0.mk (show Kd.R Kd.bool 4 w w0.heap.size (fun k_ => (P0_ k_ ∨ w.heap.size ≤ k_)) u9000_ l0 from Kd.R_mono ho0 (fun k_ hk => (.inl hk)))
 have HK := Aside0.mk (Kept.refl w (fun k_ => P0_ k_))
 have HW0 := Aside0.mk hB.size
 have HB := Aside0.mk hB
 clear hB
 have H : (laws_markBoolS.l0 k l0 a1 0) = some (r1, r2) := h
 clear h
 have H' := Aside0.mk H
 clear H
 go_enter Try.func22, Try.ntmps22
 go_wp2
 go_loopg [1, 5] k (fun kq v1 v5 w' => ∃ (x0_1 : List Bool) (x1_1 : Int) (x5_1 : Int), v1 = .int .i64 x1_1 ∧ v5 = .int .i64 x5_1 ∧ Aside0 (laws_markBoolS.l0 kq x0_1 x1_1 x5_1 = some (r1, r2)) ∧ Aside0 (kq ≤ k) ∧ Aside0 (Kd.R Kd.bool 4 w' w0.heap.size (fun k_ => (P0_ k_ ∨ w.heap.size ≤ k_)) u9000_ x0_1) ∧ Aside0 (Kept w w' (fun k_ => P0_ k_)) ∧ Aside0 (Below w0.heap.size w0 w'))
 case atStart => exact ⟨(l0), (a1), (0), rS, rS, H', ⟨Nat.le_refl _⟩, ⟨rK HO0⟩, ⟨by repeat (first | (with_reducible first | exact HK.out | apply Kept.alloc | apply Kept.drewN | apply Kept.drew) | exact HK.out)⟩, ⟨bA⟩⟩
 case round =>
  clear H'
  try clear c2
  try clear p2
  obtain ⟨x0_1, x1_1, x5_1, rfl, rfl, HA, HK1, HO_0, HK, HB⟩ := hrel
  cases gk with
  | zero => exact absurd HA.out (by simp [laws_markBoolS.l0])
  | succ k1 =>
   have H := HA.out
   clear HA
   simp only [laws_markBoolS.l0] at H
   by_cases c3 : x5_1 < (x0_1.length : Int)
   ·
    rw [if_pos c3] at H
    have c3b0 := decide_eq_true c3
    clear c3
    have c4 : 0 ≤ x5_1 := ifN H
    replace H := ifT H
    have c4b0 := decide_eq_true c4
    clear c4
    obtain ⟨y433, hy433⟩ : ∃ y_ : List Bool, y_ = (x0_1.set (x5_1 : Int).toNat ((Int.tmod x1_1 3) == 0)) := ⟨_, rfl⟩
    replace H : (laws_markBoolS.l0 k1 y433 (wrap64 (x1_1 + 1)) (wrap64 (x5_1 + 1))) = some (r1, r2) := by first | (rw [hy433]; with_reducible exact H) | (have H2_ := (Option.bind_some _ _).symm.trans H; rw [hy433]; with_reducible exact H2_) | (have H2_ := (Option.bind_some _ _).symm.trans H; with_reducible exact H2_) | with_reducible exact H | (rw [hy433]; exact H) | exact H
    have Ny433 := Aside0.mk hy433
    clear hy433
    have H' := Aside0.mk H
    clear H
    obtain ⟨Ao6, co6, eo6⟩ := Kd.R_slice HO_0.out
    subst eo6
    have p5 : 0 ≤ (x5_1 : Int) := dA
    have q5 : (x5_1 : Int) < ((x0_1.length : Int) : Int) := dA
    obtain ⟨go5, co5, eo5, gb5, gl5, cl5, HG5⟩ := Kd.R_form HO_0.out (by omega)
    (first | cases eo5 | (injection eo5 with ea_ en_ ec_; (first | subst ea_ | (injection ea_ with ea_; subst ea_)); subst ec_; clear en_))
    have GB5 := Aside0.mk gb5
    have GG5 := Aside0.mk HG5
    clear gb5 gl5 HG5
    have HMgo5 := Aside0.mk (show (P0_ go5 ∨ w.heap.size ≤ go5) from (HO_0.out.1 _ rfl))
    obtain ⟨hx5_0, hf5_0⟩ := Kd.R_celln false HO_0.out (x5_1 : Int) p5 q5
    replace p5 := eq_true p5
    replace q5 := eq_true q5
    have HP7 := Kd.R_putg HO_0.out (x5_1 : Int) ((Int.tmod x1_1 3) == 0)
    go_wp2_with (first | ((with_reducible refine gate_store (t := 4) (p := 17) rfl ?_); refine store_event (t := 4) (p := 17) (v := ?vo_w8) (w1 := (wr.setCell ⟨go5, (x5_1 : Int).toNat, none⟩ (.bool ((Int.tmod x1_1 3) == 0)))) ?hg ?ho ?hn ?hr ?_; (case ho => rfl); (case hg => rfl); (case hn => rfl); (case hr => first | (go_simp; done) | (go_simp; rfl)); intro w8 hw; have hg : wr.grownBy w8 (some go5) := (by rw [hw]; exact HP7.2); have hp_ : Kd.R Kd.bool 4 w8 w0.heap.size (fun k_ => (P0_ k_ ∨ w.heap.size ≤ k_)) (.slice (some ⟨go5, 0, none⟩) x0_1.length co6) y433 := (by rw [hw, Ny433.out]; exact HP7.1); clear HP7; have n0_ := Aside0.mk (hp_); have n1_ := Aside0.mk ((by rw [hw]; exact below_set (HB.out) GB5.out : Below w0.heap.size w0 w8)); have n2_ := Aside0.mk (Kept.of_grown (S := (fun k_ => P0_ k_)) hg (by repeat (first | (with_reducible first | exact HK.out | apply Kept.alloc | apply Kept.drewN | apply Kept.drew) | exact HK.out)) (fun k_ e_ => (HO_0.out.1 k_ e_))); clear HO_0; clear HB; clear HK; have HO_0 := n0_; have HB := n1_; have HK := n2_; clear n0_ n1_ n2_; clear hg hw hp_))
    go_roundg k1
    case measure => have := HK1.out; omega
    case rel => exact ⟨(y433), (wrap64 (x1_1 + 1)), (wrap64 (x5_1 + 1)), rS, rS, H', ⟨by have := HK1.out; omega⟩, ⟨rK HO_0⟩, ⟨by repeat (first | (with_reducible first | exact HK.out | apply Kept.alloc | apply Kept.drewN | apply Kept.drew) | exact HK.out)⟩, ⟨bA⟩⟩
   ·
    rw [if_neg c3] at H
    have c3b0 := decide_eq_false c3
    clear c3
    simp only [Option.some.injEq, Prod.mk.injEq] at H
    obtain ⟨rfl, rfl⟩ := H
    obtain ⟨Ao9, co9, eo9⟩ := Kd.R_slice HO_0.out
    subst eo9
    go_wp2
    go_ret
    exact ⟨rA, by (with_reducible repeat (first | apply Kd.R_alloc | apply Kd.R_drewN | apply Kd.R_drew)); exact HO_0.out, bA, by repeat (first | (with_reducible first | exact HK.out | apply Kept.alloc | apply Kept.drewN | apply Kept.drew) | exact HK.out)⟩

/-! ### laws_heldBoolS: function 23 -/
def laws_heldBoolS.l0 : Nat → List Bool → Int → Int → Option (Int)
 | 0, _, _, _ => none
 | k + 1, x0, x1, x5 => if x5 < (x0.length : Int) then (if 0 ≤ x5 then (if ((rdOf false x0 x5) != ((Int.tmod x1 3) == 0)) = true then (some (-1)) else (laws_heldBoolS.l0 k x0 (wrap64 (x1 + 1)) (wrap64 (x5 + 1)))) else (none)) else (some x1)
def laws_heldBoolS.f (k : Nat) (l0 : List Bool) (a1 : Int) : Option (Int) := laws_heldBoolS.l0 k l0 a1 0
theorem laws_heldBoolS.mono_l : ∀ k, (∀ y0 y1 y2, LeO (laws_heldBoolS.l0 k y0 y1 y2) (laws_heldBoolS.l0 (k + 1) y0 y1 y2))
 | 0 => fun _ _ _ r h => by simp [laws_heldBoolS.l0] at h
 | k + 1 => by
  have ih0 := laws_heldBoolS.mono_l k
  ·
   intro y0 y1 y2
   unfold laws_heldBoolS.l0
   repeat' first | (with_reducible first | exact LeO.refl _ | exact LeO.none _ | refine LeO.ite ?_ ?_ | refine LeO.bind ?_ (fun _ => ?_) | exact ih0 _ _ _)
theorem laws_heldBoolS.mono : ∀ a0 a1 k, LeO (laws_heldBoolS.f k a0 a1) (laws_heldBoolS.f (k + 1) a0 a1) := by
 intro a0 a1 k
 have ih0 := laws_heldBoolS.mono_l k
 unfold laws_heldBoolS.f
 repeat' first | (with_reducible first | exact LeO.refl _ | exact LeO.none _ | refine LeO.ite ?_ ?_ | refine LeO.bind ?_ (fun _ => ?_) | exact ih0 _ _ _)
set_option maxHeartbeats 8000000 in
set_option maxRecDepth 100000 in
theorem laws_heldBoolS.calls (k : Nat) (A0 : Option Addr) (c0 : Nat) (l0 : List Bool) (a1 : Int) (r : Int) (w : World) (hr0 : Kd.C Kd.bool w A0 l0.length l0) (hc0 : l0.length ≤ c0) (h : laws_heldBoolS.f k l0 a1 = some r) :
  Calls Try.prog 23 #[.slice A0 l0.length c0, .int .i64 a1] w fun e w' => e = .returned (.int .i64 r) ∧ Drawn0 w w' := by
 have HR0 := Aside0.mk hr0
 have HC0 := Aside0.mk hc0
 clear hr0 hc0
 have H : (laws_heldBoolS.l0 k l0 a1 0) = some r := h
 clear h
 have H' := Aside0.mk H
 clear H
 go_enter Try.func23, Try.ntmps23
 go_wp2
 go_loopg [1, 5] k (fun kq v1 v5 w' => ∃ (x1_1 : Int) (x5_1 : Int), v1 = .int .i64 x1_1 ∧ v5 = .int .i64 x5_1 ∧ Aside0 (laws_heldBoolS.l0 kq l0 x1_1 x5_1 = some r) ∧ Aside0 (kq ≤ k) ∧ Drawn0 w w')
 case atStart => exact ⟨(a1), (0), rS, rS, H', ⟨Nat.le_refl _⟩, by repeat (first | exact Drawn0.refl _ | apply Drawn0.step)⟩
 case round =>
  clear H'
  try clear c2
  try clear p2
  obtain ⟨x1_1, x5_1, rfl, rfl, HA, HK1, ⟨m1, rfl⟩⟩ := hrel
  cases gk with
  | zero => exact absurd HA.out (by simp [laws_heldBoolS.l0])
  | succ k1 =>
   have H := HA.out
   clear HA
   simp only [laws_heldBoolS.l0] at H
   by_cases c3 : x5_1 < (l0.length : Int)
   ·
    rw [if_pos c3] at H
    have c3b0 := decide_eq_true c3
    clear c3
    have c4 : 0 ≤ x5_1 := ifN H
    replace H := ifT H
    have c4b0 := decide_eq_true c4
    clear c4
    by_cases c5 : ((rdOf false l0 x5_1) != ((Int.tmod x1_1 3) == 0)) = true
    ·
     rw [if_pos c5] at H
     have c5b0 : ((rdOf false l0 x5_1) != ((Int.tmod x1_1 3) == 0)) = true := c5
     (try (have c5b1 : decide ((rdOf false l0 x5_1) = ((Int.tmod x1_1 3) == 0)) = false := by simpa using c5))
     (try (have c5b2 : ((rdOf false l0 x5_1) == ((Int.tmod x1_1 3) == 0)) = false := by simpa using c5))
     (try (have c5b3 : ¬ ((rdOf false l0 x5_1) = ((Int.tmod x1_1 3) == 0)) := by simpa using c5))
     clear c5
     obtain rfl := Option.some.inj H
     have p434 : 0 ≤ (x5_1 : Int) := dA
     have q434 : x5_1 < (l0.length : Int) := dA
     obtain ⟨ad434, e434, hx434_0⟩ := Kd.at_bool HR0.out x5_1 p434 q434
     cases e434
     replace p434 := eq_true p434
     replace q434 := eq_true q434
     go_wp2
     go_ret
     exact ⟨by first | rfl | (simp; done) | (simp [*]; done), by repeat (first | exact Drawn0.refl _ | apply Drawn0.step)⟩
    ·
     rw [if_neg c5] at H
     have c5b0 : ((rdOf false l0 x5_1) != ((Int.tmod x1_1 3) == 0)) = false := by simpa using c5
     (try (have c5b1 : decide ((rdOf false l0 x5_1) = ((Int.tmod x1_1 3) == 0)) = true := by simpa using c5))
     (try (have c5b2 : ((rdOf false l0 x5_1) == ((Int.tmod x1_1 3) == 0)) = true := by simpa using c5))
     clear c5
     have H' := Aside0.mk H
     clear H
     have p434 : 0 ≤ (x5_1 : Int) := dA
     have q434 : x5_1 < (l0.length : Int) := dA
     obtain ⟨ad434, e434, hx434_0⟩ := Kd.at_bool HR0.out x5_1 p434 q434
     cases e434
     replace p434 := eq_true p434
     replace q434 := eq_true q434
     go_wp2
     go_roundg k1
     case measure => have := HK1.out; omega
     case rel => exact ⟨(wrap64 (x1_1 + 1)), (wrap64 (x5_1 + 1)), rS, rS, H', ⟨by have := HK1.out; omega⟩, by repeat (first | exact Drawn0.refl _ | apply Drawn0.step)⟩
   ·
    rw [if_neg c3] at H
    have c3b0 := decide_eq_false c3
    clear c3
    obtain rfl := Option.some.inj H
    go_wp2
    go_ret
    exact ⟨by first | rfl | (simp; done) | (simp [*]; done), by repeat (first | exact Drawn0.refl _ | apply Drawn0.step)⟩

/-! ### laws_FnExactOpenIn: function 3 -/
def laws_FnExactOpenIn.j0 : Nat → List (S91) → List (S85) → Int → Int → Int → List Bool → List Bool → Bool → Option (Bool)
 | 0, _, _, _, _, _, _, _, _ => none
 | k + 1, x0, x1, x2, x3, x4, x12, x15, x75 => if x75 = true then (none) else ((laws_markBoolS.f k x15 1).bind fun bt469 => ((laws_heldBoolS.f k bt469.2 1).bind fun t471 => (if t471 < 0 then (none) else (if t471 = bt469.1 then ((laws_toPathS.f k x0).bind fun t472 => ((laws_toPartS.f k x1).bind fun t475 => ((impl_OpenIn.f k t472 t475 x2 x3 x4).bind fun t478 => ((laws_eqBoolS.f k t478 x12).bind fun t481 => (if t481 = true then ((laws_heldBoolS.f k bt469.2 1).bind fun t482 => (if t482 < 0 then (none) else (if t482 = bt469.1 then (some true) else (none)))) else (none)))))) else (none)))))
def laws_FnExactOpenIn.f (k : Nat) (l0 : List (S91)) (l1 : List (S85)) (a2 : Int) (a3 : Int) (a4 : Int) : Option (Bool) := (laws_szPathS.f l0 1048576).bind fun t435 => (if t435 < 0 then (some true) else ((laws_szPartS.f k l1 t435).bind fun t436 => (if t436 < 0 then (some true) else ((laws_toPathS.f k l0).bind fun t437 => ((laws_toPartS.f k l1).bind fun t440 => ((spec_OpenIn.f k t437 t440 a2 a3 a4).bind fun t443 => ((laws_toPathS.f k l0).bind fun t446 => ((laws_toPartS.f k l1).bind fun t449 => ((impl_OpenIn.f k t446 t449 a2 a3 a4).bind fun t452 => ((laws_eqBoolS.f k t452 t443).bind fun t455 => (if t455 = true then ((laws_toPathS.f k l0).bind fun t456 => ((laws_eqPathS.f k t446 t456).bind fun t459 => (if t459 = true then ((laws_toPartS.f k l1).bind fun t460 => ((laws_eqPartS.f k t449 t460).bind fun t463 => (if t463 = true then ((laws_markPathS.f k t446 1).bind fun bt464 => ((laws_markPartS.f k t449 bt464.1).bind fun bt466 => (if bt466.1 < 0 then (laws_FnExactOpenIn.j0 k l0 l1 a2 a3 a4 t443 t452 true) else ((laws_eqBoolS.f k t452 t443).bind fun t468 => (laws_FnExactOpenIn.j0 k l0 l1 a2 a3 a4 t443 t452 (!t468)))))) else (none)))) else (none)))) else (none))))))))))))
theorem laws_FnExactOpenIn.mono_l : ∀ k, (∀ y0 y1 y2 y3 y4 y5 y6 y7, LeO (laws_FnExactOpenIn.j0 k y0 y1 y2 y3 y4 y5 y6 y7) (laws_FnExactOpenIn.j0 (k + 1) y0 y1 y2 y3 y4 y5 y6 y7))
 | 0 => fun _ _ _ _ _ _ _ _ r h => by simp [laws_FnExactOpenIn.j0] at h
 | k + 1 => by
  have ih0 := laws_FnExactOpenIn.mono_l k
  ·
   intro y0 y1 y2 y3 y4 y5 y6 y7
   unfold laws_FnExactOpenIn.j0
   repeat' first | (with_reducible first | exact LeO.refl _ | exact LeO.none _ | refine LeO.ite ?_ ?_ | refine LeO.bind ?_ (fun _ => ?_) | exact ih0 _ _ _ _ _ _ _ _ | exact impl_OpenIn.mono _ _ _ _ _ _ | exact laws_eqBoolS.mono _ _ _ | exact laws_eqPartS.mono _ _ _ | exact laws_eqPathS.mono _ _ _ | exact laws_heldBoolS.mono _ _ _ | exact laws_markBoolS.mono _ _ _ | exact laws_markPartS.mono _ _ _ | exact laws_markPathS.mono _ _ _ | exact laws_szPartS.mono _ _ _ | exact laws_toPartS.mono _ _ | exact laws_toPathS.mono _ _ | exact spec_OpenIn.mono _ _ _ _ _ _)
theorem laws_FnExactOpenIn.mono : ∀ a0 a1 a2 a3 a4 k, LeO (laws_FnExactOpenIn.f k a0 a1 a2 a3 a4) (laws_FnExactOpenIn.f (k + 1) a0 a1 a2 a3 a4) := by
 intro a0 a1 a2 a3 a4 k
 have ih0 := laws_FnExactOpenIn.mono_l k
 unfold laws_FnExactOpenIn.f
 repeat' first | (with_reducible first | exact LeO.refl _ | exact LeO.none _ | refine LeO.ite ?_ ?_ | refine LeO.bind ?_ (fun _ => ?_) | exact ih0 _ _ _ _ _ _ _ _ | exact impl_OpenIn.mono _ _ _ _ _ _ | exact laws_eqBoolS.mono _ _ _ | exact laws_eqPartS.mono _ _ _ | exact laws_eqPathS.mono _ _ _ | exact laws_heldBoolS.mono _ _ _ | exact laws_markBoolS.mono _ _ _ | exact laws_markPartS.mono _ _ _ | exact laws_markPathS.mono _ _ _ | exact laws_szPartS.mono _ _ _ | exact laws_toPartS.mono _ _ | exact laws_toPathS.mono _ _ | exact spec_OpenIn.mono _ _ _ _ _ _)
set_option maxHeartbeats 8000000 in
set_option maxRecDepth 100000 in
theorem laws_FnExactOpenIn.calls (k : Nat) (A0 : Option Addr) (c0 : Nat) (l0 : List (S91)) (A1 : Option Addr) (c1 : Nat) (l1 : List (S85)) (a2 : Int) (a3 : Int) (a4 : Int) (r : Bool) (w : World) (hr0 : Kd.C k91 w A0 l0.length l0) (hc0 : l0.length ≤ c0) (hr1 : Kd.C k85 w A1 l1.length l1) (hc1 : l1.length ≤ c1) (h : laws_FnExactOpenIn.f k l0 l1 a2 a3 a4 = some r) :
  Calls Try.prog 3 #[.slice A0 l0.length c0, .slice A1 l1.length c1, .int .i64 a2, .int .i64 a3, .int .i64 a4] w fun e w' => e = .returned (.bool r) ∧ Below w.heap.size w w' := by
 have HR0 := Aside0.mk hr0
 have HC0 := Aside0.mk hc0
 clear hr0 hc0
 have HR1 := Aside0.mk hr1
 have HC1 := Aside0.mk hc1
 clear hr1 hc1
 have HB := Aside0.mk (Below.refl w.heap.size w)
 have H : ((laws_szPathS.f l0 1048576).bind fun t435 => (if t435 < 0 then (some true) else ((laws_szPartS.f k l1 t435).bind fun t436 => (if t436 < 0 then (some true) else ((laws_toPathS.f k l0).bind fun t437 => ((laws_toPartS.f k l1).bind fun t440 => ((spec_OpenIn.f k t437 t440 a2 a3 a4).bind fun t443 => ((laws_toPathS.f k l0).bind fun t446 => ((laws_toPartS.f k l1).bind fun t449 => ((impl_OpenIn.f k t446 t449 a2 a3 a4).bind fun t452 => ((laws_eqBoolS.f k t452 t443).bind fun t455 => (if t455 = true then ((laws_toPathS.f k l0).bind fun t456 => ((laws_eqPathS.f k t446 t456).bind fun t459 => (if t459 = true then ((laws_toPartS.f k l1).bind fun t460 => ((laws_eqPartS.f k t449 t460).bind fun t463 => (if t463 = true then ((laws_markPathS.f k t446 1).bind fun bt464 => ((laws_markPartS.f k t449 bt464.1).bind fun bt466 => (if bt466.1 < 0 then (laws_FnExactOpenIn.j0 k l0 l1 a2 a3 a4 t443 t452 true) else ((laws_eqBoolS.f k t452 t443).bind fun t468 => (laws_FnExactOpenIn.j0 k l0 l1 a2 a3 a4 t443 t452 (!t468)))))) else (none)))) else (none)))) else (none))))))))))))) = some r := h
 clear h
 obtain ⟨t435, A6, H⟩ := bindE H
 try dsimp only at H
 by_cases c7 : t435 < 0
 ·
  rw [if_pos c7] at H
  have c7b0 := decide_eq_true c7
  clear c7
  obtain rfl := Option.some.inj H
  go_enter Try.func3, Try.ntmps3
  go_wp2_with (first | ((with_reducible refine gate_callee (f := 11) rfl ?_); refine gL (some 22) Try.func11 #[.slice A0 l0.length c0, .int .i64 1048576] ?_; (with_reducible refine (laws_szPathS.calls _ _ l0 1048576 t435 _ ?side1 ?side2 A6.out).mono ?_); (case side1 => exact cO HR0); (case side2 => exact HC0.out); rintro e w' ⟨rfl, ⟨nd, rfl⟩⟩; refine ⟨_, rfl, ?_⟩))
  go_ret
  exact ⟨rA, bA⟩
 ·
  rw [if_neg c7] at H
  have c7b0 := decide_eq_false c7
  clear c7
  obtain ⟨t436, A8, H⟩ := bindE H
  try dsimp only at H
  by_cases c9 : t436 < 0
  ·
   rw [if_pos c9] at H
   have c9b0 := decide_eq_true c9
   clear c9
   obtain rfl := Option.some.inj H
   go_enter Try.func3, Try.ntmps3
   go_wp2_with (first | ((with_reducible refine gate_callee (f := 11) rfl ?_); refine gL (some 22) Try.func11 #[.slice A0 l0.length c0, .int .i64 1048576] ?_; (with_reducible refine (laws_szPathS.calls _ _ l0 1048576 t435 _ ?side1 ?side2 A6.out).mono ?_); (case side1 => exact cO HR0); (case side2 => exact HC0.out); rintro e w' ⟨rfl, ⟨nd, rfl⟩⟩; refine ⟨_, rfl, ?_⟩) | ((with_reducible refine gate_callee (f := 12) rfl ?_); refine gL (some 27) Try.func12 #[.slice A1 l1.length c1, .int .i64 t435] ?_; (with_reducible refine (laws_szPartS.calls k _ _ l1 t435 t436 _ ?side1 ?side2 A8.out).mono ?_); (case side1 => exact cO HR1); (case side2 => exact HC1.out); rintro e w10 ⟨rfl, hb⟩; refine ⟨_, rfl, ?_⟩; replace HB := Aside0.mk (below_step bA hb); (try clear hb)))
   go_ret
   exact ⟨rA, bA⟩
  ·
   rw [if_neg c9] at H
   have c9b0 := decide_eq_false c9
   clear c9
   obtain ⟨t437, A11, H⟩ := bindE H
   try dsimp only at H
   obtain ⟨t440, A12, H⟩ := bindE H
   try dsimp only at H
   obtain ⟨t443, A13, H⟩ := bindE H
   try dsimp only at H
   obtain ⟨t446, A14, H⟩ := bindE H
   try dsimp only at H
   obtain ⟨t449, A15, H⟩ := bindE H
   try dsimp only at H
   obtain ⟨t452, A16, H⟩ := bindE H
   try dsimp only at H
   obtain ⟨t455, A17, H⟩ := bindE H
   try dsimp only at H
   have c18 := ifN H
   replace H := ifT H
   subst c18
   obtain ⟨t456, A19, H⟩ := bindE H
   try dsimp only at H
   obtain ⟨t459, A20, H⟩ := bindE H
   try dsimp only at H
   have c21 := ifN H
   replace H := ifT H
   subst c21
   obtain ⟨t460, A22, H⟩ := bindE H
   try dsimp only at H
   obtain ⟨t463, A23, H⟩ := bindE H
   try dsimp only at H
   have c24 := ifN H
   replace H := ifT H
   subst c24
   obtain ⟨⟨t464, t465⟩, A25, H⟩ := bindE H
   try dsimp only at H
   obtain ⟨⟨t466, t467⟩, A26, H⟩ := bindE H
   try dsimp only at H
   have HC27 := Aside0.mk H
   clear H
   go_enter Try.func3, Try.ntmps3
   go_upto_region 21 with (first | ((with_reducible refine gate_callee (f := 11) rfl ?_); refine gL (some 22) Try.func11 #[.slice A0 l0.length c0, .int .i64 1048576] ?_; (with_reducible refine (laws_szPathS.calls _ _ l0 1048576 t435 _ ?side1 ?side2 A6.out).mono ?_); (case side1 => exact cO HR0); (case side2 => exact HC0.out); rintro e w' ⟨rfl, ⟨nd, rfl⟩⟩; refine ⟨_, rfl, ?_⟩) | ((with_reducible refine gate_callee (f := 12) rfl ?_); refine gL (some 27) Try.func12 #[.slice A1 l1.length c1, .int .i64 t435] ?_; (with_reducible refine (laws_szPartS.calls k _ _ l1 t435 t436 _ ?side1 ?side2 A8.out).mono ?_); (case side1 => exact cO HR1); (case side2 => exact HC1.out); rintro e w28 ⟨rfl, hb⟩; refine ⟨_, rfl, ?_⟩; replace HB := Aside0.mk (below_step bA hb); (try clear hb)) | ((with_reducible refine gate_callee (f := 14) rfl ?_); refine gL (some 31) Try.func14 #[.slice A0 l0.length c0] ?_; (with_reducible refine (laws_toPathS.calls k _ _ l0 t437 _ ?side1 ?side2 A11.out).mono ?_); (case side1 => exact cB HR0); (case side2 => exact HC0.out); rintro e w29 ⟨v438, rfl, ho0, hb⟩; refine ⟨_, rfl, ?_⟩; have HO439 := Aside0.mk (Kd.R_lower ho0 (below_size bA)); replace HB := Aside0.mk (below_step bA hb); (try clear hb); (try clear ho0)) | ((with_reducible refine gate_callee (f := 15) rfl ?_); refine gL (some 33) Try.func15 #[.slice A1 l1.length c1] ?_; (with_reducible refine (laws_toPartS.calls k _ _ l1 t440 _ ?side1 ?side2 A12.out).mono ?_); (case side1 => exact cB HR1); (case side2 => exact HC1.out); rintro e w30 ⟨v441, rfl, ho0, hb⟩; refine ⟨_, rfl, ?_⟩; replace HO439 := Aside0.mk (Kd.R_below (rK HO439) hb); have HO442 := Aside0.mk (Kd.S_lower ho0 (below_size bA)); replace HB := Aside0.mk (below_step bA hb); (try clear hb); (try clear ho0); obtain ⟨Ao31, co31, eo31⟩ := Kd.R_slice HO439.out; subst eo31; obtain ⟨Ao32, co32, eo32⟩ := Kd.S_slice HO442.out; subst eo32) | ((with_reducible refine gate_callee (f := 13) rfl ?_); refine gL (some 37) Try.func13 #[.slice Ao31 t437.length co31, .slice Ao32 t440.length co32, .int .i64 a2, .int .i64 a3, .int .i64 a4] ?_; (with_reducible refine (spec_OpenIn.calls k _ _ t437 _ _ t440 a2 a3 a4 t443 _ ?side1 ?side2 ?side3 ?side4 A13.out).mono ?_); (case side1 => exact cO ⟨(Kd.R_reads' HO439.out).2.2⟩); (case side2 => exact (Kd.R_reads' HO439.out).2.1); (case side3 => repeat (first | exact (Kd.S_reads' HO442.out).2.2 | (with_reducible refine Kd.C_alloc ?_ _) | (with_reducible refine Kd.C_drewN ?_ _) | (with_reducible refine Kd.C_drew ?_))); (case side4 => exact (Kd.S_reads' HO442.out).2.1); rintro e w33 ⟨v444, rfl, ho0, hb⟩; refine ⟨_, rfl, ?_⟩; replace HO439 := Aside0.mk (Kd.R_below (rK HO439) hb); replace HO442 := Aside0.mk (Kd.S_below (sK HO442) hb); have HO445 := Aside0.mk (Kd.R_lower ho0 (below_size bA)); replace HB := Aside0.mk (below_step bA hb); (try clear hb); (try clear ho0)) | ((with_reducible refine gate_callee (f := 14) rfl ?_); refine gL (some 39) Try.func14 #[.slice A0 l0.length c0] ?_; (with_reducible refine (laws_toPathS.calls k _ _ l0 t446 _ ?side1 ?side2 A14.out).mono ?_); (case side1 => exact cB HR0); (case side2 => exact HC0.out); rintro e w34 ⟨v447, rfl, ho0, hb⟩; refine ⟨_, rfl, ?_⟩; replace HO442 := Aside0.mk (Kd.S_below (sK HO442) hb); replace HO445 := Aside0.mk (Kd.R_below (rK HO445) hb); have HO448 := Aside0.mk (Kd.R_lower (Kd.R_new' ho0 (Kd.R_lt (rK HO439))) (below_size bA)); replace HO439 := Aside0.mk (Kd.R_elder' (rK HO439) (Kd.R_base ho0) hb); replace HB := Aside0.mk (below_step bA hb); (try clear hb); (try clear ho0)) | ((with_reducible refine gate_callee (f := 15) rfl ?_); refine gL (some 41) Try.func15 #[.slice A1 l1.length c1] ?_; (with_reducible refine (laws_toPartS.calls k _ _ l1 t449 _ ?side1 ?side2 A15.out).mono ?_); (case side1 => exact cB HR1); (case side2 => exact HC1.out); rintro e w35 ⟨v450, rfl, ho0, hb⟩; refine ⟨_, rfl, ?_⟩; replace HO439 := Aside0.mk (Kd.R_below (rK HO439) hb); replace HO445 := Aside0.mk (Kd.R_below (rK HO445) hb); replace HO448 := Aside0.mk (Kd.R_below (rK HO448) hb); have HO451 := Aside0.mk (Kd.S_lower (Kd.S_new' ho0 (Kd.S_lt (sK HO442))) (below_size bA)); replace HO442 := Aside0.mk (Kd.S_elder' (sK HO442) (Kd.S_base ho0) hb); replace HB := Aside0.mk (below_step bA hb); (try clear hb); (try clear ho0); obtain ⟨Ao36, co36, eo36⟩ := Kd.R_slice HO448.out; subst eo36; obtain ⟨Ao37, co37, eo37⟩ := Kd.S_slice HO451.out; subst eo37) | ((with_reducible refine gate_callee (f := 16) rfl ?_); refine gL (some 47) Try.func16 #[.slice Ao36 t446.length co36, .slice Ao37 t449.length co37, .int .i64 a2, .int .i64 a3, .int .i64 a4] ?_; (with_reducible refine (impl_OpenIn.calls k _ _ t446 _ _ t449 a2 a3 a4 t452 _ ?side1 ?side2 ?side3 ?side4 A16.out).mono ?_); (case side1 => exact cO ⟨(Kd.R_reads' HO448.out).2.2⟩); (case side2 => exact (Kd.R_reads' HO448.out).2.1); (case side3 => repeat (first | exact (Kd.S_reads' HO451.out).2.2 | (with_reducible refine Kd.C_alloc ?_ _) | (with_reducible refine Kd.C_drewN ?_ _) | (with_reducible refine Kd.C_drew ?_))); (case side4 => exact (Kd.S_reads' HO451.out).2.1); rintro e w38 ⟨v453, rfl, ho0, hb⟩; refine ⟨_, rfl, ?_⟩; replace HO439 := Aside0.mk (Kd.R_below (rK HO439) hb); replace HO442 := Aside0.mk (Kd.S_below (sK HO442) hb); replace HO448 := Aside0.mk (Kd.R_below (rK HO448) hb); replace HO451 := Aside0.mk (Kd.S_below (sK HO451) hb); have HO454 := Aside0.mk (Kd.R_lower (Kd.R_new' ho0 (Kd.R_lt (rK HO445))) (below_size bA)); replace HO445 := Aside0.mk (Kd.R_elder' (rK HO445) (Kd.R_base ho0) hb); replace HB := Aside0.mk (below_step bA hb); (try clear hb); (try clear ho0); obtain ⟨Ao39, co39, eo39⟩ := Kd.R_slice HO454.out; subst eo39; obtain ⟨Ao40, co40, eo40⟩ := Kd.R_slice HO445.out; subst eo40) | ((with_reducible refine gate_callee (f := 17) rfl ?_); refine gL (some 50) Try.func17 #[.slice Ao39 t452.length co39, .slice Ao40 t443.length co40] ?_; (with_reducible refine (laws_eqBoolS.calls k _ _ t452 _ _ t443 true _ ?side1 ?side2 ?side3 ?side4 A17.out).mono ?_); (case side1 => exact cO ⟨(Kd.R_reads' HO454.out).2.2⟩); (case side2 => exact (Kd.R_reads' HO454.out).2.1); (case side3 => exact cO ⟨(Kd.R_reads' HO445.out).2.2⟩); (case side4 => exact (Kd.R_reads' HO445.out).2.1); rintro e w' ⟨rfl, ⟨nd, rfl⟩⟩; refine ⟨_, rfl, ?_⟩) | ((with_reducible refine gate_callee (f := 14) rfl ?_); refine gL (some 54) Try.func14 #[.slice A0 l0.length c0] ?_; (with_reducible refine (laws_toPathS.calls k _ _ l0 t456 _ ?side1 ?side2 A19.out).mono ?_); (case side1 => exact cG HR0); (case side2 => exact HC0.out); rintro e w41 ⟨v457, rfl, ho0, hb⟩; refine ⟨_, rfl, ?_⟩; replace HO442 := Aside0.mk (Kd.S_below (sK HO442) hb); replace HO445 := Aside0.mk (Kd.R_below (rK HO445) hb); replace HO451 := Aside0.mk (Kd.S_below (sK HO451) hb); replace HO454 := Aside0.mk (Kd.R_below (rK HO454) hb); have HO458 := Aside0.mk (Kd.R_lower (Kd.R_new' (Kd.R_new' ho0 (Kd.R_lt (rK HO439))) (Kd.R_lt (rK HO448))) (below_size bA)); replace HO439 := Aside0.mk (Kd.R_elder' (rK HO439) (Kd.R_base ho0) hb); replace HO448 := Aside0.mk (Kd.R_elder' (rK HO448) (Kd.R_base ho0) hb); replace HB := Aside0.mk (below_step bA hb); (try clear hb); (try clear ho0); obtain ⟨Ao42, co42, eo42⟩ := Kd.R_slice HO458.out; subst eo42) | ((with_reducible refine gate_callee (f := 18) rfl ?_); refine gL (some 55) Try.func18 #[.slice Ao36 t446.length co36, .slice Ao42 t456.length co42] ?_; (with_reducible refine (laws_eqPathS.calls k _ _ t446 _ _ t456 true _ ?side1 ?side2 ?side3 ?side4 A20.out).mono ?_); (case side1 => exact cO ⟨(Kd.R_reads' HO448.out).2.2⟩); (case side2 => exact (Kd.R_reads' HO448.out).2.1); (case side3 => exact cO ⟨(Kd.R_reads' HO458.out).2.2⟩); (case side4 => exact (Kd.R_reads' HO458.out).2.1); rintro e w43 ⟨rfl, hb⟩; refine ⟨_, rfl, ?_⟩; replace HO439 := Aside0.mk (Kd.R_below (rK HO439) hb); replace HO442 := Aside0.mk (Kd.S_below (sK HO442) hb); replace HO445 := Aside0.mk (Kd.R_below (rK HO445) hb); replace HO448 := Aside0.mk (Kd.R_below (rK HO448) hb); replace HO451 := Aside0.mk (Kd.S_below (sK HO451) hb); replace HO454 := Aside0.mk (Kd.R_below (rK HO454) hb); replace HO458 := Aside0.mk (Kd.R_below (rK HO458) hb); replace HB := Aside0.mk (below_step bA hb); (try clear hb)) | ((with_reducible refine gate_callee (f := 15) rfl ?_); refine gL (some 59) Try.func15 #[.slice A1 l1.length c1] ?_; (with_reducible refine (laws_toPartS.calls k _ _ l1 t460 _ ?side1 ?side2 A22.out).mono ?_); (case side1 => exact cB HR1); (case side2 => exact HC1.out); rintro e w44 ⟨v461, rfl, ho0, hb⟩; refine ⟨_, rfl, ?_⟩; replace HO439 := Aside0.mk (Kd.R_below (rK HO439) hb); replace HO445 := Aside0.mk (Kd.R_below (rK HO445) hb); replace HO448 := Aside0.mk (Kd.R_below (rK HO448) hb); replace HO454 := Aside0.mk (Kd.R_below (rK HO454) hb); replace HO458 := Aside0.mk (Kd.R_below (rK HO458) hb); have HO462 := Aside0.mk (Kd.S_lower (Kd.S_new' (Kd.S_new' ho0 (Kd.S_lt (sK HO442))) (Kd.S_lt (sK HO451))) (below_size bA)); replace HO442 := Aside0.mk (Kd.S_elder' (sK HO442) (Kd.S_base ho0) hb); replace HO451 := Aside0.mk (Kd.S_elder' (sK HO451) (Kd.S_base ho0) hb); replace HB := Aside0.mk (below_step bA hb); (try clear hb); (try clear ho0); obtain ⟨Ao45, co45, eo45⟩ := Kd.S_slice HO462.out; subst eo45) | ((with_reducible refine gate_callee (f := 19) rfl ?_); refine gL (some 60) Try.func19 #[.slice Ao37 t449.length co37, .slice Ao45 t460.length co45] ?_; (with_reducible refine (laws_eqPartS.calls k _ _ t449 _ _ t460 true _ ?side1 ?side2 ?side3 ?side4 A23.out).mono ?_); (case side1 => repeat (first | exact (Kd.S_reads' HO451.out).2.2 | (with_reducible refine Kd.C_alloc ?_ _) | (with_reducible refine Kd.C_drewN ?_ _) | (with_reducible refine Kd.C_drew ?_))); (case side2 => exact (Kd.S_reads' HO451.out).2.1); (case side3 => repeat (first | exact (Kd.S_reads' HO462.out).2.2 | (with_reducible refine Kd.C_alloc ?_ _) | (with_reducible refine Kd.C_drewN ?_ _) | (with_reducible refine Kd.C_drew ?_))); (case side4 => exact (Kd.S_reads' HO462.out).2.1); rintro e w46 ⟨rfl, hb⟩; refine ⟨_, rfl, ?_⟩; replace HO439 := Aside0.mk (Kd.R_below (rK HO439) hb); replace HO442 := Aside0.mk (Kd.S_below (sK HO442) hb); replace HO445 := Aside0.mk (Kd.R_below (rK HO445) hb); replace HO448 := Aside0.mk (Kd.R_below (rK HO448) hb); replace HO451 := Aside0.mk (Kd.S_below (sK HO451) hb); replace HO454 := Aside0.mk (Kd.R_below (rK HO454) hb); replace HO458 := Aside0.mk (Kd.R_below (rK HO458) hb); replace HO462 := Aside0.mk (Kd.S_below (sK HO462) hb); replace HB := Aside0.mk (below_step bA hb); (try clear hb)) | ((with_reducible refine gate_callee (f := 20) rfl ?_); refine gL (some 64) Try.func20 #[.slice Ao36 t446.length co36, .int .i64 1] ?_; (with_reducible refine (laws_markPathS.calls k (fun k_ => some k_ = (.slice Ao36 t446.length co36 : Value).ownBlock) (.slice Ao36 t446.length co36) t446 1 t464 t465 w _ ?side1 ?side2 A25.out).mono ?_); (case side1 => repeat (first | (with_reducible first | exact HB.out | apply below_alloc | apply pw_below_drewN | apply below_drew1) | exact HB.out)); (case side2 => exact Kd.R_tight rfl HO448.out); rintro e w47 ⟨rfl, hy0, hb, hkp⟩; refine ⟨_, rfl, ?_⟩; replace HO439 := Aside0.mk (Kd.R_mono (ok' := fun k_ => some k_ ≠ (.slice Ao36 t446.length co36 : Value).ownBlock ∧ some k_ ≠ (.slice Ao42 t456.length co42 : Value).ownBlock) (Kd.R_keptB (HO439.out) hkp (fun k_ hk_ hs_ => (hk_.1.2) hs_)) (fun k_ hk_ => ⟨hk_.1.1.2, hk_.1.2⟩)); replace HO442 := Aside0.mk (Kd.S_mono (ok' := fun k_ => some k_ ≠ (.slice Ao37 t449.length co37 : Value).ownBlock ∧ some k_ ≠ (.slice Ao45 t460.length co45 : Value).ownBlock) (Kd.S_keptB ((Kd.S_apart' HO442.out (Kd.R_typed HO448.out) (by decide))) hkp (fun k_ hk_ hs_ => (hk_.2) hs_)) (fun k_ hk_ => ⟨hk_.1.1.1.2, hk_.1.1.2⟩)); replace HO445 := Aside0.mk (Kd.R_mono (ok' := fun k_ => some k_ ≠ (.slice Ao39 t452.length co39 : Value).ownBlock) (Kd.R_keptB ((Kd.R_apart' HO445.out (Kd.R_typed HO448.out) (by decide))) hkp (fun k_ hk_ hs_ => (hk_.2) hs_)) (fun k_ hk_ => hk_.1.1.2)); replace HO451 := Aside0.mk (Kd.S_mono (ok' := fun k_ => some k_ ≠ (.slice Ao32 t440.length co32 : Value).ownBlock ∧ some k_ ≠ (.slice Ao45 t460.length co45 : Value).ownBlock) (Kd.S_keptB ((Kd.S_apart' HO451.out (Kd.R_typed HO448.out) (by decide))) hkp (fun k_ hk_ hs_ => (hk_.2) hs_)) (fun k_ hk_ => ⟨hk_.1.1.1.2, hk_.1.1.2⟩)); replace HO454 := Aside0.mk (Kd.R_mono (ok' := fun k_ => some k_ ≠ (.slice Ao40 t443.length co40 : Value).ownBlock) (Kd.R_keptB ((Kd.R_apart' HO454.out (Kd.R_typed HO448.out) (by decide))) hkp (fun k_ hk_ hs_ => (hk_.2) hs_)) (fun k_ hk_ => hk_.1.1.2)); replace HO458 := Aside0.mk (Kd.R_mono (ok' := fun k_ => some k_ ≠ (.slice Ao31 t437.length co31 : Value).ownBlock ∧ some k_ ≠ (.slice Ao36 t446.length co36 : Value).ownBlock) (Kd.R_keptB (HO458.out) hkp (fun k_ hk_ hs_ => (hk_.2) hs_)) (fun k_ hk_ => ⟨hk_.1.1.2, hk_.1.2⟩)); replace HO462 := Aside0.mk (Kd.S_mono (ok' := fun k_ => some k_ ≠ (.slice Ao32 t440.length co32 : Value).ownBlock ∧ some k_ ≠ (.slice Ao37 t449.length co37 : Value).ownBlock) (Kd.S_keptB ((Kd.S_apart' HO462.out (Kd.R_typed HO448.out) (by decide))) hkp (fun k_ hk_ hs_ => (hk_.2) hs_)) (fun k_ hk_ => ⟨hk_.1.1.1.2, hk_.1.1.2⟩)); replace HO448 := Aside0.mk (Kd.R_reok rfl hy0 (fun k_ e_ => HO448.out.1 k_ e_)); replace HB := Aside0.mk (hb); (try clear hb); (try clear hkp); (try clear hy0)) | ((with_reducible refine gate_callee (f := 21) rfl ?_); refine gL (some 67) Try.func21 #[.slice Ao37 t449.length co37, .int .i64 t464] ?_; (with_reducible refine (laws_markPartS.calls k (fun k_ => (((((((some k_ ≠ (.slice Ao32 t440.length co32 : Value).ownBlock ∧ some k_ ≠ (.slice Ao45 t460.length co45 : Value).ownBlock) ∧ some k_ ≠ (.slice Ao31 t437.length co31 : Value).ownBlock) ∧ some k_ ≠ (.slice Ao40 t443.length co40 : Value).ownBlock) ∧ some k_ ≠ (.slice Ao36 t446.length co36 : Value).ownBlock) ∧ some k_ ≠ (.slice Ao39 t452.length co39 : Value).ownBlock) ∧ some k_ ≠ (.slice Ao42 t456.length co42 : Value).ownBlock)) ∧ w.heap.size ≤ k_) (.slice Ao37 t449.length co37) t449 t464 t466 t467 w _ ?side1 ?side2 A26.out).mono ?_); (case side1 => repeat (first | (with_reducible first | exact HB.out | apply below_alloc | apply pw_below_drewN | apply below_drew1) | exact HB.out)); (case side2 => (with_reducible repeat (first | apply Kd.S_alloc | apply Kd.S_drewN | apply Kd.S_drew)); exact Kd.S_mono (Kd.S_bound (Kd.S_apart' (Kd.S_apart' (Kd.S_apart' (Kd.S_apart' (Kd.S_apart' (HO451.out) (Kd.R_typed HO439.out) (by decide)) (Kd.R_typed HO445.out) (by decide)) (Kd.R_typed HO448.out) (by decide)) (Kd.R_typed HO454.out) (by decide)) (Kd.R_typed HO458.out) (by decide))) (fun k_ h_ => ⟨h_.1, h_.2.1⟩)); rintro e w48 ⟨rfl, hy0, hb, hkp⟩; refine ⟨_, rfl, ?_⟩; have n0_ := Aside0.mk (Kd.R_mono (ok' := fun k_ => some k_ ≠ (.slice Ao36 t446.length co36 : Value).ownBlock ∧ some k_ ≠ (.slice Ao42 t456.length co42 : Value).ownBlock) (Kd.R_keptB ((Kd.R_mono (ok' := fun k_ => (some k_ ≠ (.slice Ao36 t446.length co36 : Value).ownBlock ∧ some k_ ≠ (.slice Ao42 t456.length co42 : Value).ownBlock) ∧ ¬ ((((((((some k_ ≠ (.slice Ao32 t440.length co32 : Value).ownBlock ∧ some k_ ≠ (.slice Ao45 t460.length co45 : Value).ownBlock) ∧ some k_ ≠ (.slice Ao31 t437.length co31 : Value).ownBlock) ∧ some k_ ≠ (.slice Ao40 t443.length co40 : Value).ownBlock) ∧ some k_ ≠ (.slice Ao36 t446.length co36 : Value).ownBlock) ∧ some k_ ≠ (.slice Ao39 t452.length co39 : Value).ownBlock) ∧ some k_ ≠ (.slice Ao42 t456.length co42 : Value).ownBlock)) ∧ w.heap.size ≤ k_)) (Kd.R_tight2 rfl HO439.out) (fun k_ hk => ⟨hk.2, fun hs_ => (hs_.1.1.1.1.1.2) hk.1⟩))) hkp (fun k_ hk_ hs_ => (hk_.2) hs_)) (fun k_ hk_ => ⟨hk_.1.1.1, hk_.1.1.2⟩)); have n1_ := Aside0.mk (Kd.R_mono (ok' := fun k_ => some k_ ≠ (.slice Ao39 t452.length co39 : Value).ownBlock) (Kd.R_keptB ((Kd.R_mono (ok' := fun k_ => some k_ ≠ (.slice Ao39 t452.length co39 : Value).ownBlock ∧ ¬ ((((((((some k_ ≠ (.slice Ao32 t440.length co32 : Value).ownBlock ∧ some k_ ≠ (.slice Ao45 t460.length co45 : Value).ownBlock) ∧ some k_ ≠ (.slice Ao31 t437.length co31 : Value).ownBlock) ∧ some k_ ≠ (.slice Ao40 t443.length co40 : Value).ownBlock) ∧ some k_ ≠ (.slice Ao36 t446.length co36 : Value).ownBlock) ∧ some k_ ≠ (.slice Ao39 t452.length co39 : Value).ownBlock) ∧ some k_ ≠ (.slice Ao42 t456.length co42 : Value).ownBlock)) ∧ w.heap.size ≤ k_)) (Kd.R_tight2 rfl HO445.out) (fun k_ hk => ⟨hk.2, fun hs_ => (hs_.1.1.1.1.2) hk.1⟩))) hkp (fun k_ hk_ hs_ => (hk_.2) hs_)) (fun k_ hk_ => hk_.1.1)); have n2_ := Aside0.mk (Kd.R_mono (ok' := fun k_ => some k_ ≠ (.slice Ao31 t437.length co31 : Value).ownBlock ∧ some k_ ≠ (.slice Ao42 t456.length co42 : Value).ownBlock) (Kd.R_keptB ((Kd.R_mono (ok' := fun k_ => ((True ∧ some k_ ≠ (.slice Ao31 t437.length co31 : Value).ownBlock) ∧ some k_ ≠ (.slice Ao42 t456.length co42 : Value).ownBlock) ∧ ¬ ((((((((some k_ ≠ (.slice Ao32 t440.length co32 : Value).ownBlock ∧ some k_ ≠ (.slice Ao45 t460.length co45 : Value).ownBlock) ∧ some k_ ≠ (.slice Ao31 t437.length co31 : Value).ownBlock) ∧ some k_ ≠ (.slice Ao40 t443.length co40 : Value).ownBlock) ∧ some k_ ≠ (.slice Ao36 t446.length co36 : Value).ownBlock) ∧ some k_ ≠ (.slice Ao39 t452.length co39 : Value).ownBlock) ∧ some k_ ≠ (.slice Ao42 t456.length co42 : Value).ownBlock)) ∧ w.heap.size ≤ k_)) (Kd.R_tight2 rfl HO448.out) (fun k_ hk => ⟨hk.2, fun hs_ => (hs_.1.1.1.2) hk.1⟩))) hkp (fun k_ hk_ hs_ => (hk_.2) hs_)) (fun k_ hk_ => ⟨hk_.1.1.1.2, hk_.1.1.2⟩)); have n3_ := Aside0.mk (Kd.S_mono (ok' := fun k_ => (some k_ ≠ (.slice Ao32 t440.length co32 : Value).ownBlock ∧ some k_ ≠ (.slice Ao45 t460.length co45 : Value).ownBlock)) hy0 (fun k_ hk_ => ⟨(Or.elim hk_ (fun hs_ => hs_.1.1.1.1.1.1.1) (fun hn_ => fun e_ => Nat.not_le.2 (Kd.S_lt (sK HO442) k_ e_.symm) hn_)), (Or.elim hk_ (fun hs_ => hs_.1.1.1.1.1.1.2) (fun hn_ => fun e_ => Nat.not_le.2 (Kd.S_lt (sK HO462) k_ e_.symm) hn_))⟩)); have n4_ := Aside0.mk (Kd.R_mono (ok' := fun k_ => some k_ ≠ (.slice Ao40 t443.length co40 : Value).ownBlock) (Kd.R_keptB ((Kd.R_mono (ok' := fun k_ => some k_ ≠ (.slice Ao40 t443.length co40 : Value).ownBlock ∧ ¬ ((((((((some k_ ≠ (.slice Ao32 t440.length co32 : Value).ownBlock ∧ some k_ ≠ (.slice Ao45 t460.length co45 : Value).ownBlock) ∧ some k_ ≠ (.slice Ao31 t437.length co31 : Value).ownBlock) ∧ some k_ ≠ (.slice Ao40 t443.length co40 : Value).ownBlock) ∧ some k_ ≠ (.slice Ao36 t446.length co36 : Value).ownBlock) ∧ some k_ ≠ (.slice Ao39 t452.length co39 : Value).ownBlock) ∧ some k_ ≠ (.slice Ao42 t456.length co42 : Value).ownBlock)) ∧ w.heap.size ≤ k_)) (Kd.R_tight2 rfl HO454.out) (fun k_ hk => ⟨hk.2, fun hs_ => (hs_.1.1.2) hk.1⟩))) hkp (fun k_ hk_ hs_ => (hk_.2) hs_)) (fun k_ hk_ => hk_.1.1)); have n5_ := Aside0.mk (Kd.R_mono (ok' := fun k_ => some k_ ≠ (.slice Ao31 t437.length co31 : Value).ownBlock ∧ some k_ ≠ (.slice Ao36 t446.length co36 : Value).ownBlock) (Kd.R_keptB ((Kd.R_mono (ok' := fun k_ => (some k_ ≠ (.slice Ao31 t437.length co31 : Value).ownBlock ∧ some k_ ≠ (.slice Ao36 t446.length co36 : Value).ownBlock) ∧ ¬ ((((((((some k_ ≠ (.slice Ao32 t440.length co32 : Value).ownBlock ∧ some k_ ≠ (.slice Ao45 t460.length co45 : Value).ownBlock) ∧ some k_ ≠ (.slice Ao31 t437.length co31 : Value).ownBlock) ∧ some k_ ≠ (.slice Ao40 t443.length co40 : Value).ownBlock) ∧ some k_ ≠ (.slice Ao36 t446.length co36 : Value).ownBlock) ∧ some k_ ≠ (.slice Ao39 t452.length co39 : Value).ownBlock) ∧ some k_ ≠ (.slice Ao42 t456.length co42 : Value).ownBlock)) ∧ w.heap.size ≤ k_)) (Kd.R_tight2 rfl HO458.out) (fun k_ hk => ⟨hk.2, fun hs_ => (hs_.1.2) hk.1⟩))) hkp (fun k_ hk_ hs_ => (hk_.2) hs_)) (fun k_ hk_ => ⟨hk_.1.1.1, hk_.1.1.2⟩)); have n6_ := Aside0.mk (hb); clear HO439; clear HO445; clear HO448; clear HO451; clear HO454; clear HO458; clear HB; clear HO442; clear HO462; have HO439 := n0_; have HO445 := n1_; have HO448 := n2_; have HO451 := n3_; have HO454 := n4_; have HO458 := n5_; have HB := n6_; clear n0_ n1_ n2_ n3_ n4_ n5_ n6_; (try clear hb); (try clear hkp); (try clear hy0)))
   (try simp only [Act.put, List.setIfInBounds_toArray, List.set_cons_zero, List.set_cons_succ])
   go_cut [75] (fun v75 wc => ∃ (kq : Nat) (x75_26 : Bool), v75 = .bool x75_26 ∧ Aside0 (laws_FnExactOpenIn.j0 kq l0 l1 a2 a3 a4 t443 t452 x75_26 = some r) ∧ Aside0 (kq ≤ k) ∧ Aside0 (Kd.R Kd.bool 4 wc w.heap.size (fun k_ => some k_ ≠ ((.slice Ao39 t452.length co39) : Value).ownBlock) (.slice Ao40 t443.length co40) t443) ∧ Aside0 (Kd.R Kd.bool 4 wc w.heap.size (fun k_ => some k_ ≠ ((.slice Ao40 t443.length co40) : Value).ownBlock) (.slice Ao39 t452.length co39) t452) ∧ Aside0 (Below w.heap.size w wc))
   case first =>
    have H := HC27.out
    clear HC27
    by_cases c49 : t466 < 0
    ·
     rw [if_pos c49] at H
     have c49b0 := decide_eq_true c49
     clear c49
     (first | rw [c49b0] | (simp only [i64_w, i32_w]; rw [c49b0]) | skip)
     have H' := Aside0.mk H
     clear H
     go_wp2
     go_meet
     case rel => exact ⟨_, (true), rS, H', ⟨by first | omega | exact Nat.le_refl _⟩, ⟨rK HO445⟩, ⟨rK HO454⟩, ⟨bA⟩⟩
    ·
     rw [if_neg c49] at H
     have c49b0 := decide_eq_false c49
     clear c49
     (first | rw [c49b0] | (simp only [i64_w, i32_w]; rw [c49b0]) | skip)
     obtain ⟨t468, A50, H⟩ := bindE H
     try dsimp only at H
     have H' := Aside0.mk H
     clear H
     go_wp2_with (first | (go_at_call 17; (with_reducible refine (laws_eqBoolS.calls k _ _ t452 _ _ t443 t468 _ ?side1 ?side2 ?side3 ?side4 A50.out).mono ?_); (case side1 => exact cO ⟨(Kd.R_reads' HO454.out).2.2⟩); (case side2 => exact (Kd.R_reads' HO454.out).2.1); (case side3 => exact cO ⟨(Kd.R_reads' HO445.out).2.2⟩); (case side4 => exact (Kd.R_reads' HO445.out).2.1); rintro e w' ⟨rfl, ⟨nd, rfl⟩⟩))
     go_meet
     case rel => exact ⟨_, (!t468), rS, H', ⟨by first | omega | exact Nat.le_refl _⟩, ⟨rK HO445⟩, ⟨rK HO454⟩, ⟨bA⟩⟩
   case rest =>
    clear HC27
    try clear c1
    try clear c2
    try clear p2
    try clear c3
    try clear c4
    try clear c7
    try clear c7b0
    try clear c9
    try clear c9b0
    try clear c11
    try clear c12
    try clear c13
    try clear c14
    try clear c15
    try clear c16
    try clear c17
    try clear c18
    try clear c19
    try clear c20
    try clear c21
    try clear c24
    try clear c49
    try clear c49b0
    obtain ⟨kq, x75_26, rfl, HA, HJ26, HO_12, HO_15, HB⟩ := hcut
    cases kq with
    | zero => exact absurd HA.out (by simp [laws_FnExactOpenIn.j0])
    | succ kj26 =>
     have H := HA.out
     clear HA
     simp only [laws_FnExactOpenIn.j0] at H
     have c51 := ifN' H
     replace H := ifT' H
     replace c51 := Bool.eq_false_iff.mpr c51
     subst c51
     obtain ⟨⟨t469, t470⟩, A52, H⟩ := bindE H
     try dsimp only at H
     obtain ⟨t471, A53, H⟩ := bindE H
     try dsimp only at H
     have c54 : ¬ (t471 < 0) := ifN' H
     replace H := ifT' H
     have c54b0 := decide_eq_false c54
     clear c54
     have c55 : t471 = t469 := ifN H
     replace H := ifT H
     have c55b0 : (t471 == t469) = true := beq_iff_eq.mpr c55
     have c55b1 : (t471 != t469) = false := bne_eq_false_iff_eq.mpr c55
     clear c55
     obtain ⟨t472, A56, H⟩ := bindE H
     try dsimp only at H
     obtain ⟨t475, A57, H⟩ := bindE H
     try dsimp only at H
     obtain ⟨t478, A58, H⟩ := bindE H
     try dsimp only at H
     obtain ⟨t481, A59, H⟩ := bindE H
     try dsimp only at H
     have c60 := ifN H
     replace H := ifT H
     subst c60
     obtain ⟨t482, A61, H⟩ := bindE H
     try dsimp only at H
     have c62 : ¬ (t482 < 0) := ifN' H
     replace H := ifT' H
     have c62b0 := decide_eq_false c62
     clear c62
     have c63 : t482 = t469 := ifN H
     replace H := ifT H
     have c63b0 : (t482 == t469) = true := beq_iff_eq.mpr c63
     have c63b1 : (t482 != t469) = false := bne_eq_false_iff_eq.mpr c63
     clear c63
     obtain rfl := Option.some.inj H
     go_wp2_with (first | ((with_reducible refine gate_callee (f := 22) rfl ?_); refine gL (some 78) Try.func22 #[.slice Ao39 t452.length co39, .int .i64 1] ?_; (with_reducible refine (laws_markBoolS.calls kj26 (fun k_ => some k_ = (.slice Ao39 t452.length co39 : Value).ownBlock) (.slice Ao39 t452.length co39) t452 1 t469 t470 w _ ?side1 ?side2 A52.out).mono ?_); (case side1 => repeat (first | (with_reducible first | exact HB.out | apply below_alloc | apply pw_below_drewN | apply below_drew1) | exact HB.out)); (case side2 => exact Kd.R_tight rfl HO_15.out); rintro e w64 ⟨rfl, hy0, hb, hkp⟩; refine ⟨_, rfl, ?_⟩; replace HO_12 := Aside0.mk (Kd.R_mono (ok' := fun k_ => some k_ ≠ (.slice Ao39 t452.length co39 : Value).ownBlock) (Kd.R_keptB (HO_12.out) hkp (fun k_ hk_ hs_ => (hk_) hs_)) (fun k_ hk_ => hk_.1)); replace HO_15 := Aside0.mk (Kd.R_reok rfl hy0 (fun k_ e_ => HO_15.out.1 k_ e_)); replace HB := Aside0.mk (hb); (try clear hb); (try clear hkp); (try clear hy0)) | ((with_reducible refine gate_callee (f := 23) rfl ?_); refine goesL_ (some 81) rfl rfl Try.func23 (by kernel_rfl) rfl #[.slice Ao39 t470.length co39, .int .i64 1] rfl (by (try simp only [List.map_toArray, List.map_cons, List.map_nil]); first | done | (rw [show t470.length = t452.length from (Kd.R_reads' HO_15.out).1.symm] <;> rfl) | rfl | (simp only [List.length_drop, List.length_take]; rfl)) ?_; (with_reducible refine (laws_heldBoolS.calls kj26 _ _ t470 1 t471 _ ?side1 ?side2 A53.out).mono ?_); (case side1 => exact cO ⟨(Kd.R_reads' HO_15.out).2.2⟩); (case side2 => rw [show t470.length = t452.length from (Kd.R_reads' HO_15.out).1.symm]; exact (Kd.R_reads' HO_15.out).2.1); rintro e w' ⟨rfl, ⟨nd, rfl⟩⟩; refine ⟨_, rfl, ?_⟩) | ((with_reducible refine gate_callee (f := 14) rfl ?_); refine gL (some 88) Try.func14 #[.slice A0 l0.length c0] ?_; (with_reducible refine (laws_toPathS.calls kj26 _ _ l0 t472 _ ?side1 ?side2 A56.out).mono ?_); (case side1 => exact cG HR0); (case side2 => exact HC0.out); rintro e w65 ⟨v473, rfl, ho0, hb⟩; refine ⟨_, rfl, ?_⟩; replace HO_12 := Aside0.mk (Kd.R_below (rK HO_12) hb); replace HO_15 := Aside0.mk (Kd.R_below (rK HO_15) hb); have HO474 := Aside0.mk (Kd.R_lower ho0 (below_size bA)); replace HB := Aside0.mk (below_step bA hb); (try clear hb); (try clear ho0)) | ((with_reducible refine gate_callee (f := 15) rfl ?_); refine gL (some 90) Try.func15 #[.slice A1 l1.length c1] ?_; (with_reducible refine (laws_toPartS.calls kj26 _ _ l1 t475 _ ?side1 ?side2 A57.out).mono ?_); (case side1 => exact cB HR1); (case side2 => exact HC1.out); rintro e w66 ⟨v476, rfl, ho0, hb⟩; refine ⟨_, rfl, ?_⟩; replace HO_12 := Aside0.mk (Kd.R_below (rK HO_12) hb); replace HO_15 := Aside0.mk (Kd.R_below (rK HO_15) hb); replace HO474 := Aside0.mk (Kd.R_below (rK HO474) hb); have HO477 := Aside0.mk (Kd.S_lower ho0 (below_size bA)); replace HB := Aside0.mk (below_step bA hb); (try clear hb); (try clear ho0); obtain ⟨Ao67, co67, eo67⟩ := Kd.R_slice HO474.out; subst eo67; obtain ⟨Ao68, co68, eo68⟩ := Kd.S_slice HO477.out; subst eo68) | ((with_reducible refine gate_callee (f := 16) rfl ?_); refine gL (some 94) Try.func16 #[.slice Ao67 t472.length co67, .slice Ao68 t475.length co68, .int .i64 a2, .int .i64 a3, .int .i64 a4] ?_; (with_reducible refine (impl_OpenIn.calls kj26 _ _ t472 _ _ t475 a2 a3 a4 t478 _ ?side1 ?side2 ?side3 ?side4 A58.out).mono ?_); (case side1 => exact cO ⟨(Kd.R_reads' HO474.out).2.2⟩); (case side2 => exact (Kd.R_reads' HO474.out).2.1); (case side3 => repeat (first | exact (Kd.S_reads' HO477.out).2.2 | (with_reducible refine Kd.C_alloc ?_ _) | (with_reducible refine Kd.C_drewN ?_ _) | (with_reducible refine Kd.C_drew ?_))); (case side4 => exact (Kd.S_reads' HO477.out).2.1); rintro e w69 ⟨v479, rfl, ho0, hb⟩; refine ⟨_, rfl, ?_⟩; replace HO474 := Aside0.mk (Kd.R_below (rK HO474) hb); replace HO477 := Aside0.mk (Kd.S_below (sK HO477) hb); have HO480 := Aside0.mk (Kd.R_lower (Kd.R_new' (Kd.R_new' ho0 (Kd.R_lt (rK HO_12))) (Kd.R_lt (rK HO_15))) (below_size bA)); replace HO_12 := Aside0.mk (Kd.R_elder' (rK HO_12) (Kd.R_base ho0) hb); replace HO_15 := Aside0.mk (Kd.R_elder' (rK HO_15) (Kd.R_base ho0) hb); replace HB := Aside0.mk (below_step bA hb); (try clear hb); (try clear ho0); obtain ⟨Ao70, co70, eo70⟩ := Kd.R_slice HO480.out; subst eo70) | ((with_reducible refine gate_callee (f := 17) rfl ?_); refine gL (some 97) Try.func17 #[.slice Ao70 t478.length co70, .slice Ao40 t443.length co40] ?_; (with_reducible refine (laws_eqBoolS.calls kj26 _ _ t478 _ _ t443 true _ ?side1 ?side2 ?side3 ?side4 A59.out).mono ?_); (case side1 => exact cO ⟨(Kd.R_reads' HO480.out).2.2⟩); (case side2 => exact (Kd.R_reads' HO480.out).2.1); (case side3 => exact cO ⟨(Kd.R_reads' HO_12.out).2.2⟩); (case side4 => exact (Kd.R_reads' HO_12.out).2.1); rintro e w' ⟨rfl, ⟨nd, rfl⟩⟩; refine ⟨_, rfl, ?_⟩) | ((with_reducible refine gate_callee (f := 23) rfl ?_); refine goesL_ (some 101) rfl rfl Try.func23 (by kernel_rfl) rfl #[.slice Ao39 t470.length co39, .int .i64 1] rfl (by (try simp only [List.map_toArray, List.map_cons, List.map_nil]); first | done | (rw [show t470.length = t452.length from (Kd.R_reads' HO_15.out).1.symm] <;> rfl) | rfl | (simp only [List.length_drop, List.length_take]; rfl)) ?_; (with_reducible refine (laws_heldBoolS.calls kj26 _ _ t470 1 t482 _ ?side1 ?side2 A61.out).mono ?_); (case side1 => exact cO ⟨(Kd.R_reads' HO_15.out).2.2⟩); (case side2 => rw [show t470.length = t452.length from (Kd.R_reads' HO_15.out).1.symm]; exact (Kd.R_reads' HO_15.out).2.1); rintro e w' ⟨rfl, ⟨nd, rfl⟩⟩; refine ⟨_, rfl, ?_⟩))
     go_ret
     exact ⟨rA, bA⟩

end Go.Proofs.Ytdkmmefmhfbgkaa.P
