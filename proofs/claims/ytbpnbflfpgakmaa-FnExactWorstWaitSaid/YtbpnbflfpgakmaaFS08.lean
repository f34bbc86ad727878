/- Printed by myprint.py (wip/tools) over the kit's print: what Go's functions compute, and that they do. Lean checks it. -/
import Derived.Test.YtbpnbflfpgakmaaF0
import Derived.Test.YtbpnbflfpgakmaaFS01
import Derived.Test.YtbpnbflfpgakmaaFS05
import Derived.Test.YtbpnbflfpgakmaaFS06
import Derived.Test.YtbpnbflfpgakmaaFS07
namespace Go.Proofs.Ytbpnbflfpgakmaa.P
open Go.RowKit Go.Proofs.YtbpnbflfpgakmaaW.PrintWords Go.Proofs.YtbpnbflfpgakmaaW.PrintLast Go.Proofs.YtbpnbflfpgakmaaW.PrintMore Go.Proofs.Ytbpnbflfpgakmaa.Sq
attribute [local go_sem] max2_int min2_int max_two min_two max_three min_three max_four min_four
set_option linter.unusedVariables false
set_option linter.unusedSimpArgs false

/-! ### spec_LeastGreen: function 53 -/
def spec_LeastGreen.l0 : Nat → List (S58) → List Int → Int → Option (Int)
  | 0, _, _, _ => none
  | k + 1, x0, x1, x5 => if x5 < (x1.length : Int) then (if 0 ≤ x5 then ((spec_FindPath.f k x0 (rd x1 x5)).bind fun t144 => (if t144 ≥ 0 then (if 0 ≤ t144 then (if t144 < (x0.length : Int) then (if ((rd_T58 x0 t144).f1) = 2 then (some 7) else (spec_LeastGreen.l0 k x0 x1 (wrap64 (x5 + 1)))) else (none)) else (none)) else (spec_LeastGreen.l0 k x0 x1 (wrap64 (x5 + 1))))) else (none)) else (some 5)
def spec_LeastGreen.f (k : Nat) (l0 : List (S58)) (l1 : List Int) : Option (Int) := spec_LeastGreen.l0 k l0 l1 0
theorem spec_LeastGreen.mono_l : ∀ k, (∀ y0 y1 y2, LeO (spec_LeastGreen.l0 k y0 y1 y2) (spec_LeastGreen.l0 (k + 1) y0 y1 y2))
  | 0 => fun _ _ _ r h => by simp [spec_LeastGreen.l0] at h
  | k + 1 => by
    have ih0 := spec_LeastGreen.mono_l k
    · intro y0 y1 y2
      unfold spec_LeastGreen.l0
      repeat' first | (with_reducible first | exact LeO.refl _ | exact LeO.none _ | refine LeO.ite ?_ ?_ | refine LeO.bind ?_ (fun _ => ?_) | exact ih0 _ _ _ | exact spec_FindPath.mono _ _ _) | exact LeO.none _ | refine LeO.ite ?_ ?_ | refine LeO.bind ?_ (fun _ => ?_) | exact ih0 _ _ _ | exact spec_FindPath.mono _ _ _
theorem spec_LeastGreen.mono : ∀ a0 a1 k, LeO (spec_LeastGreen.f k a0 a1) (spec_LeastGreen.f (k + 1) a0 a1) := by
  intro a0 a1 k
  have ih0 := spec_LeastGreen.mono_l k
  unfold spec_LeastGreen.f
  repeat' first | (with_reducible first | exact LeO.refl _ | exact LeO.none _ | refine LeO.ite ?_ ?_ | refine LeO.bind ?_ (fun _ => ?_) | exact ih0 _ _ _ | exact spec_FindPath.mono _ _ _) | exact LeO.none _ | refine LeO.ite ?_ ?_ | refine LeO.bind ?_ (fun _ => ?_) | exact ih0 _ _ _ | exact spec_FindPath.mono _ _ _
set_option maxHeartbeats 8000000 in
set_option maxRecDepth 100000 in
theorem spec_LeastGreen.calls (k : Nat) (A0 : Option Addr) (c0 : Nat) (l0 : List (S58)) (A1 : Option Addr) (c1 : Nat) (l1 : List Int) (r : Int) (w : World) (hr0 : Kd.C k58 w A0 l0.length l0) (hc0 : l0.length ≤ c0) (hr1 : Kd.C (Kd.int .i64) w A1 l1.length l1) (hc1 : l1.length ≤ c1) (h : spec_LeastGreen.f k l0 l1 = some r) :
    Calls Try.prog 53 #[.slice A0 l0.length c0, .slice A1 l1.length c1] w fun e w' => e = .returned (.int .i64 r) ∧ Drawn0 w w' := by
  have HR0 := Aside0.mk hr0
  have HC0 := Aside0.mk hc0
  clear hr0 hc0
  have HR1 := Aside0.mk hr1
  have HC1 := Aside0.mk hc1
  clear hr1 hc1
  have H : (spec_LeastGreen.l0 k l0 l1 0) = some r := h
  clear h
  have H' := Aside0.mk H
  clear H
  go_enter Try.func53, Try.ntmps53
  go_wp2
  go_loopg [5] k (fun kq v5 w' => ∃ (x5_1 : Int), v5 = .int .i64 x5_1 ∧ Aside0 (spec_LeastGreen.l0 kq l0 l1 x5_1 = some r) ∧ Aside0 (kq ≤ k) ∧ Drawn0 w w')
  case atStart => exact ⟨(0), rS, H', ⟨Nat.le_refl _⟩, by repeat (first | exact Drawn0.refl _ | apply Drawn0.step)⟩
  case round =>
    clear H'
    try clear c1
    try clear p2
    obtain ⟨x5_1, rfl, HA, HK1, ⟨m1, rfl⟩⟩ := hrel
    cases gk with
    | zero => exact absurd HA.out (by simp [spec_LeastGreen.l0])
    | succ k1 =>
      have H := HA.out
      clear HA
      simp only [spec_LeastGreen.l0] at H
      by_cases c3 : x5_1 < (l1.length : Int)
      · rw [if_pos c3] at H
        have c3b0 : decide (x5_1 < (l1.length : Int)) = true := decide_eq_true c3
        clear c3
        have c4 : 0 ≤ x5_1 := ifN H
        replace H := ifT H
        have c4b0 : decide (0 ≤ x5_1) = true := decide_eq_true c4
        clear c4
        obtain ⟨t144, A5, H⟩ := bindE H
        try dsimp only at H
        by_cases c6 : t144 ≥ 0
        · rw [if_pos c6] at H
          have c6b0 : decide (0 ≤ t144) = true := decide_eq_true c6
          clear c6
          have c7 : 0 ≤ t144 := ifN H
          replace H := ifT H
          have c7b0 : decide (0 ≤ t144) = true := decide_eq_true c7
          clear c7
          have c8 : t144 < (l0.length : Int) := ifN H
          replace H := ifT H
          have c8b0 : decide (t144 < (l0.length : Int)) = true := decide_eq_true c8
          clear c8
          by_cases c9 : ((rd_T58 l0 t144).f1) = 2
          · rw [if_pos c9] at H
            have c9b0 : (((rd_T58 l0 t144).f1) == 2) = true := beq_iff_eq.mpr c9
            have c9b1 : (((rd_T58 l0 t144).f1) != 2) = false := bne_eq_false_iff_eq.mpr c9
            clear c9
            obtain rfl := Option.some.inj H
            have p143 : 0 ≤ (x5_1 : Int) := dA
            have q143 : x5_1 < (l1.length : Int) := dA
            obtain ⟨ad143, e143, hx143_0⟩ := Kd.at_int HR1.out x5_1 p143 q143
            cases e143
            replace p143 := eq_true p143
            replace q143 := eq_true q143
            go_wp2_with (first | ((with_reducible refine gate_callee (f := 68) rfl ?_); refine gL (some 18) Try.func68 #[.slice A0 l0.length c0, .int .i64 (rd l1 x5_1)] ?_; (with_reducible refine (spec_FindPath.calls k1 _ _ l0 (rd l1 x5_1) t144 _ ?side1 ?side2 A5.out).mono ?_); (case side1 => exact cO HR0); (case side2 => exact HC0.out); rintro e w' ⟨rfl, ⟨nd, rfl⟩⟩; refine ⟨_, rfl, ?_⟩; have p145 : 0 ≤ (t144 : Int) := dA; have q145 : t144 < (l0.length : Int) := dA; obtain ⟨ad145, e145, hx145_0, hx145_1, hx145_2, hx145_3⟩ := at_T58 HR0.out t144 p145 q145; cases e145; replace p145 := eq_true p145; replace q145 := eq_true q145))
            go_ret
            exact ⟨by first | rfl | (simp; done) | (simp [*]; done), by repeat (first | exact Drawn0.refl _ | apply Drawn0.step)⟩
          · rw [if_neg c9] at H
            have c9b0 : (((rd_T58 l0 t144).f1) == 2) = false := beq_eq_false_iff_ne.mpr c9
            have c9b1 : (((rd_T58 l0 t144).f1) != 2) = true := bne_iff_ne.mpr c9
            have H' := Aside0.mk H
            clear H
            have p143 : 0 ≤ (x5_1 : Int) := dA
            have q143 : x5_1 < (l1.length : Int) := dA
            obtain ⟨ad143, e143, hx143_0⟩ := Kd.at_int HR1.out x5_1 p143 q143
            cases e143
            replace p143 := eq_true p143
            replace q143 := eq_true q143
            go_wp2_with (first | ((with_reducible refine gate_callee (f := 68) rfl ?_); refine gL (some 18) Try.func68 #[.slice A0 l0.length c0, .int .i64 (rd l1 x5_1)] ?_; (with_reducible refine (spec_FindPath.calls k1 _ _ l0 (rd l1 x5_1) t144 _ ?side1 ?side2 A5.out).mono ?_); (case side1 => exact cO HR0); (case side2 => exact HC0.out); rintro e w' ⟨rfl, ⟨nd, rfl⟩⟩; refine ⟨_, rfl, ?_⟩; have p145 : 0 ≤ (t144 : Int) := dA; have q145 : t144 < (l0.length : Int) := dA; obtain ⟨ad145, e145, hx145_0, hx145_1, hx145_2, hx145_3⟩ := at_T58 HR0.out t144 p145 q145; cases e145; replace p145 := eq_true p145; replace q145 := eq_true q145))
            go_roundg k1
            case measure => have := HK1.out; omega
            case rel => exact ⟨(wrap64 (x5_1 + 1)), rS, H', ⟨by have := HK1.out; omega⟩, by repeat (first | exact Drawn0.refl _ | apply Drawn0.step)⟩
        · rw [if_neg c6] at H
          have c6b0 : decide (0 ≤ t144) = false := decide_eq_false c6
          clear c6
          have H' := Aside0.mk H
          clear H
          have p143 : 0 ≤ (x5_1 : Int) := dA
          have q143 : x5_1 < (l1.length : Int) := dA
          obtain ⟨ad143, e143, hx143_0⟩ := Kd.at_int HR1.out x5_1 p143 q143
          cases e143
          replace p143 := eq_true p143
          replace q143 := eq_true q143
          go_wp2_with (first | ((with_reducible refine gate_callee (f := 68) rfl ?_); refine gL (some 18) Try.func68 #[.slice A0 l0.length c0, .int .i64 (rd l1 x5_1)] ?_; (with_reducible refine (spec_FindPath.calls k1 _ _ l0 (rd l1 x5_1) t144 _ ?side1 ?side2 A5.out).mono ?_); (case side1 => exact cO HR0); (case side2 => exact HC0.out); rintro e w' ⟨rfl, ⟨nd, rfl⟩⟩; refine ⟨_, rfl, ?_⟩))
          go_roundg k1
          case measure => have := HK1.out; omega
          case rel => exact ⟨(wrap64 (x5_1 + 1)), rS, H', ⟨by have := HK1.out; omega⟩, by repeat (first | exact Drawn0.refl _ | apply Drawn0.step)⟩
      · rw [if_neg c3] at H
        have c3b0 : decide (x5_1 < (l1.length : Int)) = false := decide_eq_false c3
        clear c3
        obtain rfl := Option.some.inj H
        go_wp2
        go_ret
        exact ⟨by first | rfl | (simp; done) | (simp [*]; done), by repeat (first | exact Drawn0.refl _ | apply Drawn0.step)⟩

/-! ### spec_l8Stages: function 55 -/
def spec_l8Stages.l0 : Nat → List (S51) → List (List Int) → Int → Option ((List (List Int)))
  | 0, _, _, _ => none
  | k + 1, x0, x3, x4 => if x4 < (x0.length : Int) then (if 0 ≤ x4 then (if x3.length < 5864062014805 then (spec_l8Stages.l0 k x0 (x3 ++ [(rd_T51 x0 x4).f0]) (wrap64 (x4 + 1))) else (none)) else (none)) else (some x3)
def spec_l8Stages.f (k : Nat) (l0 : List (S51)) : Option ((List (List Int))) := spec_l8Stages.l0 k l0 (([] : List (List Int))) 0
theorem spec_l8Stages.mono_l : ∀ k, (∀ y0 y1 y2, LeO (spec_l8Stages.l0 k y0 y1 y2) (spec_l8Stages.l0 (k + 1) y0 y1 y2))
  | 0 => fun _ _ _ r h => by simp [spec_l8Stages.l0] at h
  | k + 1 => by
    have ih0 := spec_l8Stages.mono_l k
    · intro y0 y1 y2
      unfold spec_l8Stages.l0
      repeat' first | (with_reducible first | exact LeO.refl _ | exact LeO.none _ | refine LeO.ite ?_ ?_ | refine LeO.bind ?_ (fun _ => ?_) | exact ih0 _ _ _) | exact LeO.none _ | refine LeO.ite ?_ ?_ | refine LeO.bind ?_ (fun _ => ?_) | exact ih0 _ _ _
theorem spec_l8Stages.mono : ∀ a0 k, LeO (spec_l8Stages.f k a0) (spec_l8Stages.f (k + 1) a0) := by
  intro a0 k
  have ih0 := spec_l8Stages.mono_l k
  unfold spec_l8Stages.f
  repeat' first | (with_reducible first | exact LeO.refl _ | exact LeO.none _ | refine LeO.ite ?_ ?_ | refine LeO.bind ?_ (fun _ => ?_) | exact ih0 _ _ _) | exact LeO.none _ | refine LeO.ite ?_ ?_ | refine LeO.bind ?_ (fun _ => ?_) | exact ih0 _ _ _
set_option maxHeartbeats 8000000 in
set_option maxRecDepth 100000 in
theorem spec_l8Stages.calls (k : Nat) (P0_ : Nat → Prop) (A0 : Option Addr) (c0 : Nat) (l0 : List (S51)) (r : List (List Int)) (w : World) (hs0 : Kd.V k51 51 w w.heap.size (fun k_ => P0_ k_) (.slice A0 l0.length c0) l0) (h : spec_l8Stages.f k l0 = some r) :
    Calls Try.prog 55 #[.slice A0 l0.length c0] w fun e w' => ∃ v0_ : Value, e = .returned (v0_) ∧ Kd.N (Kd.slice 3 (Kd.int .i64)) 41 w' w.heap.size (fun k_ => (P0_ k_ ∨ w.heap.size ≤ k_)) v0_ r ∧ Below w.heap.size w w' := by
  have HO0 := Aside0.mk (show Kd.V k51 51 w w.heap.size (fun k_ => (P0_ k_ ∨ w.heap.size ≤ k_)) (.slice A0 l0.length c0) l0 from Kd.V_mono hs0 (fun k_ hk => .inl hk))
  have HB := Aside0.mk (Below.refl w.heap.size w)
  have H : (spec_l8Stages.l0 k l0 (([] : List (List Int))) 0) = some r := h
  clear h
  obtain ⟨y153, hy153⟩ : ∃ y_ : List (List Int), y_ = (([] : List (List Int))) := ⟨_, rfl⟩
  replace H : (spec_l8Stages.l0 k l0 y153 0) = some r := by first | (rw [hy153]; with_reducible exact H) | (have H2_ := (Option.bind_some _ _).symm.trans H; rw [hy153]; with_reducible exact H2_) | (have H2_ := (Option.bind_some _ _).symm.trans H; with_reducible exact H2_) | with_reducible exact H | (rw [hy153]; exact H) | exact H
  have Ny153 := Aside0.mk hy153
  clear hy153
  have H' := Aside0.mk H
  clear H
  go_enter Try.func55, Try.ntmps55
  go_wp2_with (first | ((with_reducible refine gate_dst (N := 5) rfl ?_); refine Kd.N_lit (Kd.slice 3 (Kd.int .i64)) _ 41 ?hg (N' := 5) ?hd (xs := ([] : List (List Int))) (inner := []) (ok := (fun k_ => (P0_ k_ ∨ w.heap.size ≤ k_))) (okp := (fun k_ => (P0_ k_ ∨ w.heap.size ≤ k_))) ?hr ?hp (fun _ hk => hk) ((show ∀ k_, w.heap.size ≤ k_ → (fun k_ => (P0_ k_ ∨ w.heap.size ≤ k_)) k_ from fun k_ hk => (.inr (Nat.le_trans (below_size bA) hk))) _ (Nat.le_refl _)) (Below.refl _ _) (Nat.le_refl _) (by simp) ?_; (case hd => rfl); (case hg => rfl); (case hr => first | (go_simp; done) | (go_simp; rfl)); (case hp => exact (Reps.none _ _)); intro v154 w2 ho3 hb hg_ hnew_; clear hg_ hnew_; (first | rw [← Ny153.out] at ho3 | (simp only [Int.reduceToNat] at ho3; rw [← Ny153.out] at ho3)); have n0_ := Aside0.mk (Kd.V_elder' (by (with_reducible repeat (first | apply Kd.V_alloc | apply Kd.V_drewN | apply Kd.V_drew)); exact HO0.out) (Kd.N_base ho3) hb); have n1_ := Aside0.mk (Kd.N_lower ho3 (below_size bA)); have n2_ := Aside0.mk (below_step bA hb); clear HO0; clear HB; have HO0 := n0_; have HO155 := n1_; have HB := n2_; clear n0_ n1_ n2_; clear hb ho3))
  go_loopg [3, 4] k (fun kq v3 v4 w' => ∃ (x3_1 : List (List Int)) (x4_1 : Int), v4 = .int .i64 x4_1 ∧ Aside0 (spec_l8Stages.l0 kq l0 x3_1 x4_1 = some r) ∧ Aside0 (kq ≤ k) ∧ Aside0 (Kd.V k51 51 w' w.heap.size (fun k_ => (P0_ k_ ∨ w.heap.size ≤ k_) ∧ some k_ ≠ (v3 : Value).ownBlock) (.slice A0 l0.length c0) l0) ∧ Aside0 (Kd.N (Kd.slice 3 (Kd.int .i64)) 41 w' w.heap.size (fun k_ => (P0_ k_ ∨ w.heap.size ≤ k_)) v3 x3_1) ∧ Aside0 (Below w.heap.size w w'))
  case atStart => exact ⟨(y153), (0), rS, H', ⟨Nat.le_refl _⟩, ⟨by (with_reducible repeat (first | apply Kd.V_alloc | apply Kd.V_drewN | apply Kd.V_drew)); exact HO0.out⟩, ⟨by (with_reducible repeat (first | apply Kd.N_alloc | apply Kd.N_drewN | apply Kd.N_drew)); exact HO155.out⟩, ⟨bA⟩⟩
  case round =>
    clear H'
    try clear p2
    obtain ⟨x3_1, x4_1, rfl, HA, HK1, HO_0, HO_3, HB⟩ := hrel
    cases gk with
    | zero => exact absurd HA.out (by simp [spec_l8Stages.l0])
    | succ k1 =>
      have H := HA.out
      clear HA
      simp only [spec_l8Stages.l0] at H
      by_cases c4 : x4_1 < (l0.length : Int)
      · rw [if_pos c4] at H
        have c4b0 : decide (x4_1 < (l0.length : Int)) = true := decide_eq_true c4
        clear c4
        have c5 : 0 ≤ x4_1 := ifN H
        replace H := ifT H
        have c5b0 : decide (0 ≤ x4_1) = true := decide_eq_true c5
        clear c5
        have c6 : x3_1.length < 5864062014805 := ifN H
        replace H := ifT H
        have LMc6 := Aside0.mk c6
        clear c6
        obtain ⟨y157, hy157⟩ : ∃ y_ : List (List Int), y_ = (x3_1 ++ [(rd_T51 l0 x4_1).f0]) := ⟨_, rfl⟩
        replace H : (spec_l8Stages.l0 k1 l0 y157 (wrap64 (x4_1 + 1))) = some r := by first | (rw [hy157]; with_reducible exact H) | (have H2_ := (Option.bind_some _ _).symm.trans H; rw [hy157]; with_reducible exact H2_) | (have H2_ := (Option.bind_some _ _).symm.trans H; with_reducible exact H2_) | with_reducible exact H | (rw [hy157]; exact H) | exact H
        have Ny157 := Aside0.mk hy157
        clear hy157
        have H' := Aside0.mk H
        clear H
        have p156 : 0 ≤ (x4_1 : Int) := dA
        have q156 : x4_1 < (l0.length : Int) := dA
        obtain ⟨ad156, A156_0, c156_0, e156, hx156_0, hx156_1, hl156_0, hi156_0⟩ := at_T51 (Kd.V_reads' HO_0.out).2.2 x4_1 p156 q156
        cases e156
        obtain ⟨ce156, hce156, hMe156, hcc156⟩ := Kd.V_get HO_0.out z51 x4_1 p156 (by first | exact q156 | exact dA | (have e_ := (Kd.V_reads' HO_0.out).1; omega))
        obtain ⟨ua156_0, uc156_0, rfl, ul156_0, ge156_0⟩ := k51_openF hMe156
        have hv156_0 := hcc156 0 _ rfl
        rw [Nat.add_zero] at hv156_0
        replace hv156_0 := Option.some.inj (hv156_0.symm.trans hx156_0)
        injection hv156_0 with hva_ hvn_ hvc_
        rw [hva_] at ge156_0
        rw [hvc_] at ul156_0
        have HL156_0 := Aside0.mk (show Kd.V (Kd.int .i64) 3 _ w.heap.size _ _ ((rd_T51 l0 x4_1).f0) from Kd.V_mk ul156_0 ge156_0)
        clear hva_ hvn_ hvc_ ge156_0 ul156_0
        clear hcc156 hce156
        have HR156_0 := Aside0.mk hi156_0
        have HC156_0 := Aside0.mk hl156_0
        clear hi156_0 hl156_0
        replace p156 := eq_true p156
        replace q156 := eq_true q156
        go_wp2_with (first | ((with_reducible refine gate_builtin (b := .append) (xs := #[.tmp 12, .tmp 18]) rfl ?_); at_builtin; refine Kd.N_append (Kd.slice 3 (Kd.int .i64)) (w0 := w) w.heap.size rfl (.tmp 12) (.tmp 18) 55 41 (.slice none 0 0) 24 rfl Try.underlying55 info41 rfl (by decide) (by omega) u3 x3_1 ((rd_T51 l0 x4_1).f0) [.slice A156_0 ((rd_T51 l0 x4_1).f0).length c156_0] (fun k_ => (P0_ k_ ∨ w.heap.size ≤ k_)) (fun k_ => ((fun k_ => (P0_ k_ ∨ w.heap.size ≤ k_))) k_ ∧ some k_ ≠ (u3 : Value).ownBlock) rfl rfl ?aP (fun _ hk => hk) ?aF ?aO ?aB ?aS ?aL ?_; (case aP => exact (Kd.FK_slice_mk (Kd.V_reads' (Kd.V_mono (ok' := (fun k_ => ((fun k_ => (P0_ k_ ∨ w.heap.size ≤ k_))) k_ ∧ some k_ ≠ (u3 : Value).ownBlock)) (HL156_0.out) (fun k_ hk => ⟨hk.1, hk.2⟩))).2.1 (Kd.V_F (Kd.V_mono (ok' := (fun k_ => ((fun k_ => (P0_ k_ ∨ w.heap.size ≤ k_))) k_ ∧ some k_ ≠ (u3 : Value).ownBlock)) (HL156_0.out) (fun k_ hk => ⟨hk.1, hk.2⟩))))); (case aB => exact bA); (case aF => exact (fun k_ hk => (.inr (Nat.le_trans (below_size bA) hk)))); (case aO => exact (by (with_reducible repeat (first | apply Kd.N_alloc | apply Kd.N_drewN | apply Kd.N_drew)); exact HO_3.out)); (case aS => exact (below_size bA)); (case aL => have := LMc6.out; omega); intro v158 w7 ho hb hg hat; rw [← Ny157.out] at ho; have n0_ := Aside0.mk (Kd.V_afterv (ok := (fun k_ => (P0_ k_ ∨ w.heap.size ≤ k_))) (by (with_reducible repeat (first | apply Kd.V_alloc | apply Kd.V_drewN | apply Kd.V_drew)); exact HO_0.out) hg hat); have n1_ := Aside0.mk (Kd.V_afterv (ok := (fun k_ => (P0_ k_ ∨ w.heap.size ≤ k_))) (by (with_reducible repeat (first | apply Kd.V_alloc | apply Kd.V_drewN | apply Kd.V_drew)); exact HL156_0.out) hg hat); have n2_ := Aside0.mk (hb); have n3_ := Aside0.mk (ho); clear HO_0; clear HL156_0; clear HB; clear HO_3; have HO_0 := n0_; have HL156_0 := n1_; have HB := n2_; have HO159 := n3_; clear n0_ n1_ n2_ n3_; clear ho hb hg hat))
        go_roundg k1
        case measure => have := HK1.out; omega
        case rel => exact ⟨(y157), (wrap64 (x4_1 + 1)), rS, H', ⟨by have := HK1.out; omega⟩, ⟨by (with_reducible repeat (first | apply Kd.V_alloc | apply Kd.V_drewN | apply Kd.V_drew)); exact HO_0.out⟩, ⟨by (with_reducible repeat (first | apply Kd.N_alloc | apply Kd.N_drewN | apply Kd.N_drew)); exact HO159.out⟩, ⟨bA⟩⟩
      · rw [if_neg c4] at H
        have c4b0 : decide (x4_1 < (l0.length : Int)) = false := decide_eq_false c4
        clear c4
        obtain rfl := Option.some.inj H
        go_wp2
        go_ret
        exact ⟨_, by first | rfl | (simp [errW_none, errW_some] <;> rfl) | (simp [*, errW_none, errW_some] <;> rfl), by (with_reducible repeat (first | apply Kd.N_alloc | apply Kd.N_drewN | apply Kd.N_drew)); exact HO_3.out, bA⟩

/-! ### spec_IsPlan: function 17 -/
def spec_IsPlan.l0 : Nat → List (S58) → List (S51) → Int → Option (Bool)
  | 0, _, _, _ => none
  | k + 1, x0, x1, x5 => if x5 < (x1.length : Int) then (if 0 ≤ x5 then (if (((rd_T51 x1 x5).f0).length : Int) = 0 then (some false) else ((spec_IsTogether.f k x0 ((rd_T51 x1 x5).f0)).bind fun t167 => (if t167 = true then ((spec_LeastGreen.f k x0 ((rd_T51 x1 x5).f0)).bind fun t170 => ((spec_l1In.f ((rd_T51 x1 x5).f1) t170 60).bind fun t171 => (if t171 = true then (spec_IsPlan.l0 k x0 x1 (wrap64 (x5 + 1))) else (some false)))) else (some false)))) else (none)) else ((spec_l8Stages.f k x1).bind fun t161 => ((spec_Covers.f k x0 t161).bind fun t164 => (some t164)))
def spec_IsPlan.f (k : Nat) (l0 : List (S58)) (l1 : List (S51)) : Option (Bool) := (spec_l1In.f (l1.length : Int) 1 6).bind fun t160 => (if t160 = true then (spec_IsPlan.l0 k l0 l1 0) else (some false))
theorem spec_IsPlan.mono_l : ∀ k, (∀ y0 y1 y2, LeO (spec_IsPlan.l0 k y0 y1 y2) (spec_IsPlan.l0 (k + 1) y0 y1 y2))
  | 0 => fun _ _ _ r h => by simp [spec_IsPlan.l0] at h
  | k + 1 => by
    have ih0 := spec_IsPlan.mono_l k
    · intro y0 y1 y2
      unfold spec_IsPlan.l0
      repeat' first | (with_reducible first | exact LeO.refl _ | exact LeO.none _ | refine LeO.ite ?_ ?_ | refine LeO.bind ?_ (fun _ => ?_) | exact ih0 _ _ _ | exact spec_Covers.mono _ _ _ | exact spec_IsTogether.mono _ _ _ | exact spec_LeastGreen.mono _ _ _ | exact spec_l8Stages.mono _ _) | exact LeO.none _ | refine LeO.ite ?_ ?_ | refine LeO.bind ?_ (fun _ => ?_) | exact ih0 _ _ _ | exact spec_Covers.mono _ _ _ | exact spec_IsTogether.mono _ _ _ | exact spec_LeastGreen.mono _ _ _ | exact spec_l8Stages.mono _ _
theorem spec_IsPlan.mono : ∀ a0 a1 k, LeO (spec_IsPlan.f k a0 a1) (spec_IsPlan.f (k + 1) a0 a1) := by
  intro a0 a1 k
  have ih0 := spec_IsPlan.mono_l k
  unfold spec_IsPlan.f
  repeat' first | (with_reducible first | exact LeO.refl _ | exact LeO.none _ | refine LeO.ite ?_ ?_ | refine LeO.bind ?_ (fun _ => ?_) | exact ih0 _ _ _ | exact spec_Covers.mono _ _ _ | exact spec_IsTogether.mono _ _ _ | exact spec_LeastGreen.mono _ _ _ | exact spec_l8Stages.mono _ _) | exact LeO.none _ | refine LeO.ite ?_ ?_ | refine LeO.bind ?_ (fun _ => ?_) | exact ih0 _ _ _ | exact spec_Covers.mono _ _ _ | exact spec_IsTogether.mono _ _ _ | exact spec_LeastGreen.mono _ _ _ | exact spec_l8Stages.mono _ _
def spec_IsPlan.T6 : Bool × List (List Nat × List Nat) := (true, [([], []), ([], []), ([0, 1], [0, 1]), ([2], [2]), ([3], [3]), ([4], [4]), ([5], [5]), ([6], [6]), ([7], [7]), ([7], [7]), ([7], [7]), ([9, 10, 7], [7, 9, 10]), ([11, 7], [7, 11]), ([12, 7], [7, 12]), ([8, 13, 7, 7], [7, 8, 13]), ([14, 7], [7, 14]), ([7, 15], [7, 15]), ([16, 14], [16]), ([17], [17]), ([17], [17]), ([18, 19, 17], [17, 18, 19]), ([20, 17], [17, 20]), ([21, 17], [17, 21]), ([17], [17]), ([17], [17]), ([17], [17]), ([24, 25, 17], [17, 24, 25]), ([26, 17], [17, 26]), ([27, 17], [17, 27]), ([23, 28, 17, 17], [17, 23, 28]), ([22, 29, 29, 17], [17, 22, 29]), ([30, 17], [17, 30]), ([17, 31], [17, 31])])
def spec_IsPlan.B6 : List Nat := [0, 0, 3, 7, 15, 31, 63, 127, 255, 255, 255, 1791, 3839, 7935, 16383, 32767, 65535, 131071, 262143, 262143, 1048575, 2097151, 4194303, 262143, 262143, 262143, 50593791, 117702655, 251920383, 528744447, 1073741823, 2147483647, 4294967295]
theorem spec_IsPlan.tab6 : rtab .any (opsOf Try.f17 6) = spec_IsPlan.T6 := by kernel_rfl
theorem spec_IsPlan.bits6 : waitsOk spec_IsPlan.T6.2 spec_IsPlan.B6 = true := by kernel_rfl
set_option maxHeartbeats 8000000 in
set_option maxRecDepth 100000 in
theorem spec_IsPlan.calls (k : Nat) (A0 : Option Addr) (c0 : Nat) (l0 : List (S58)) (A1 : Option Addr) (c1 : Nat) (l1 : List (S51)) (r : Bool) (w : World) (hr0 : Kd.C k58 w A0 l0.length l0) (hc0 : l0.length ≤ c0) (hr1 : Kd.C k51 w A1 l1.length l1) (hc1 : l1.length ≤ c1) (h : spec_IsPlan.f k l0 l1 = some r) :
    Calls Try.prog 17 #[.slice A0 l0.length c0, .slice A1 l1.length c1] w fun e w' => e = .returned (.bool r) ∧ Below w.heap.size w w' := by
  have HR0 := Aside0.mk hr0
  have HC0 := Aside0.mk hc0
  clear hr0 hc0
  have HR1 := Aside0.mk hr1
  have HC1 := Aside0.mk hc1
  clear hr1 hc1
  have HB := Aside0.mk (Below.refl w.heap.size w)
  have H : ((spec_l1In.f (l1.length : Int) 1 6).bind fun t160 => (if t160 = true then (spec_IsPlan.l0 k l0 l1 0) else (some false))) = some r := h
  clear h
  obtain ⟨t160, A3, H⟩ := bindE H
  try dsimp only at H
  by_cases c4 : t160 = true
  · subst c4
    have H1 : (spec_IsPlan.l0 k l0 l1 0) = some r := by rw [if_pos rfl] at H; exact H
    clear H
    have H := H1
    clear H1
    have H' := Aside0.mk H
    clear H
    go_enter Try.func17, Try.ntmps17
    go_wp2_with (first | ((with_reducible refine gate_callee (f := 51) rfl ?_); refine gL (some 8) Try.func51 #[.int .i64 (l1.length : Int), .int .i64 1, .int .i64 6] ?_; (with_reducible refine (spec_l1In.calls (l1.length : Int) 1 6 true _ A3.out).mono ?_); rintro e w' ⟨rfl, ⟨nd, rfl⟩⟩; refine ⟨_, rfl, ?_⟩))
    go_loopg [5] k (fun kq v5 w' => ∃ (x5_1 : Int), v5 = .int .i64 x5_1 ∧ Aside0 (spec_IsPlan.l0 kq l0 l1 x5_1 = some r) ∧ Aside0 (kq ≤ k) ∧ Aside0 (Below w.heap.size w w'))
    case atStart => exact ⟨(0), rS, H', ⟨Nat.le_refl _⟩, ⟨bA⟩⟩
    case round =>
      clear H'
      try clear c1
      try clear p2
      try clear c4
      obtain ⟨x5_1, rfl, HA, HK1, HB⟩ := hrel
      cases gk with
      | zero => exact absurd HA.out (by simp [spec_IsPlan.l0])
      | succ k1 =>
        have H := HA.out
        clear HA
        simp only [spec_IsPlan.l0] at H
        by_cases c5 : x5_1 < (l1.length : Int)
        · rw [if_pos c5] at H
          have c5b0 : decide (x5_1 < (l1.length : Int)) = true := decide_eq_true c5
          clear c5
          have c6 : 0 ≤ x5_1 := ifN H
          replace H := ifT H
          have c6b0 : decide (0 ≤ x5_1) = true := decide_eq_true c6
          clear c6
          by_cases c7 : (((rd_T51 l1 x5_1).f0).length : Int) = 0
          · rw [if_pos c7] at H
            have c7b0 : ((((rd_T51 l1 x5_1).f0).length : Int) == 0) = true := beq_iff_eq.mpr c7
            have c7b1 : ((((rd_T51 l1 x5_1).f0).length : Int) != 0) = false := bne_eq_false_iff_eq.mpr c7
            clear c7
            obtain rfl := Option.some.inj H
            try go_wp2
            have HBo := HB
            replace HB := Aside0.mk (below_drew1 HB.out)
            have p165 : 0 ≤ (x5_1 : Int) := dA
            have q165 : x5_1 < (l1.length : Int) := dA
            obtain ⟨ad165, A165_0, c165_0, e165, hx165_0, hx165_1, hl165_0, hi165_0⟩ := at_T51 HR1.out x5_1 p165 q165
            have hw165_1 := hx165_1
            have hw165_0 := hx165_0
            cases e165
            replace hx165_0 := hC HB hx165_0
            replace hx165_1 := hC HB hx165_1
            have HR165_0 := Aside0.mk hi165_0
            have HC165_0 := Aside0.mk hl165_0
            clear hi165_0 hl165_0
            replace p165 := eq_true p165
            replace q165 := eq_true q165
            refine start_ (n := 33) (S := fun w' => w'.cell? (ad165.add ((x5_1).toNat * 2)) = some (.slice A165_0 ((rd_T51 l1 x5_1).f0).length c165_0) ∧ w'.cell? ⟨(ad165.add ((x5_1).toNat * 2)).block, (ad165.add ((x5_1).toNat * 2)).off + 1, none⟩ = some (.int .i64 ((rd_T51 l1 x5_1).f1))) (ds := []) (mb 33 0) (by kernel_rfl) rfl rfl ⟨(hC HB hw165_0), (hC HB hw165_1)⟩ (fun hHeld => ?_); refine with_tabW spec_IsPlan.tab6 spec_IsPlan.bits6 (fun HT_ HW_ => ?_)
            generalize wr.drew = w8 at HB HR165_0 hx165_0 hx165_1 hHeld ⊢
            refine pA (i := 0) (N := some 16) (mb 33 1) HT_ ?_
            refine pA (i := 1) (N := some 17) (mb 33 3) HT_ ?_
            refine pA (i := 2) (N := some 18) (mb 33 7) HT_ ?_
            refine pA (i := 3) (N := some 19) (mb 33 15) HT_ ?_
            refine tA2 (i := 4) (N := some 20) (mb 33 31) HT_ HW_ hHeld ?_
            refine pA (i := 5) (N := some 21) (mb 33 63) HT_ ?_
            refine pA (i := 6) (N := some 22) (mb 33 127) HT_ ?_
            refine pA (i := 7) (N := some 23) (mb 33 255) HT_ ?_
            refine pU (i := 8) (N := some 24) (mb 33 511) HT_ ?_
            refine pU (i := 9) (N := some 25) (mb 33 1023) HT_ ?_
            refine pU (i := 10) (N := some 26) (mb 33 2047) HT_ ?_
            refine pU (i := 11) (N := some 27) (mb 33 4095) HT_ ?_
            refine pU (i := 12) (N := some 28) (mb 33 8191) HT_ ?_
            refine pU (i := 13) (N := some 29) (mb 33 16383) HT_ ?_
            refine pU (i := 14) (N := some 30) (mb 33 32767) HT_ ?_
            refine pU (i := 15) (N := some 31) (mb 33 65535) HT_ ?_
            refine pA (i := 16) (N := some 32) (mb 33 131071) HT_ ?_
            refine pA (i := 17) (N := some 33) (mb 33 262143) HT_ ?_
            refine pU (i := 18) (N := some 34) (mb 33 524287) HT_ ?_
            refine pU (i := 19) (N := some 35) (mb 33 1048575) HT_ ?_
            refine pU (i := 20) (N := some 36) (mb 33 2097151) HT_ ?_
            refine pU (i := 21) (N := some 37) (mb 33 4194303) HT_ ?_
            refine pU (i := 22) (N := some 38) (mb 33 8388607) HT_ ?_
            refine pU (i := 23) (N := some 39) (mb 33 16777215) HT_ ?_
            refine pU (i := 24) (N := some 40) (mb 33 33554431) HT_ ?_
            refine pU (i := 25) (N := some 41) (mb 33 67108863) HT_ ?_
            refine pU (i := 26) (N := some 42) (mb 33 134217727) HT_ ?_
            refine pU (i := 27) (N := some 43) (mb 33 268435455) HT_ ?_
            refine pU (i := 28) (N := some 44) (mb 33 536870911) HT_ ?_
            refine pU (i := 29) (N := some 45) (mb 33 1073741823) HT_ ?_
            refine pU (i := 30) (N := some 46) (mb 33 2147483647) HT_ ?_
            refine pU (i := 31) (N := some 47) (mb 33 4294967295) HT_ ?_
            refine pA (i := 32) (N := some 48) (mb 33 8589934591) HT_ ?_
            refine eA HT_ ?_
            try go_wp2
            go_ret
            exact ⟨rA, bA⟩
          · rw [if_neg c7] at H
            have c7b0 : ((((rd_T51 l1 x5_1).f0).length : Int) == 0) = false := beq_eq_false_iff_ne.mpr c7
            have c7b1 : ((((rd_T51 l1 x5_1).f0).length : Int) != 0) = true := bne_iff_ne.mpr c7
            have c7b2 : ¬ (((rd_T51 l1 x5_1).f0) = []) := fun h_ => c7 (by rw [h_]; rfl)
            obtain ⟨t167, A9, H⟩ := bindE H
            try dsimp only at H
            by_cases c10 : t167 = true
            · subst c10
              have H1 : ((spec_LeastGreen.f k1 l0 ((rd_T51 l1 x5_1).f0)).bind fun t170 => ((spec_l1In.f ((rd_T51 l1 x5_1).f1) t170 60).bind fun t171 => (if t171 = true then (spec_IsPlan.l0 k1 l0 l1 (wrap64 (x5_1 + 1))) else (some false)))) = some r := by rw [if_pos rfl] at H; exact H
              clear H
              have H := H1
              clear H1
              obtain ⟨t170, A11, H⟩ := bindE H
              try dsimp only at H
              obtain ⟨t171, A12, H⟩ := bindE H
              try dsimp only at H
              by_cases c13 : t171 = true
              · subst c13
                have H1 : (spec_IsPlan.l0 k1 l0 l1 (wrap64 (x5_1 + 1))) = some r := by rw [if_pos rfl] at H; exact H
                clear H
                have H := H1
                clear H1
                have H' := Aside0.mk H
                clear H
                try go_wp2
                have HBo := HB
                replace HB := Aside0.mk (below_drew1 HB.out)
                have p165 : 0 ≤ (x5_1 : Int) := dA
                have q165 : x5_1 < (l1.length : Int) := dA
                obtain ⟨ad165, A165_0, c165_0, e165, hx165_0, hx165_1, hl165_0, hi165_0⟩ := at_T51 HR1.out x5_1 p165 q165
                have hw165_1 := hx165_1
                have hw165_0 := hx165_0
                cases e165
                replace hx165_0 := hC HB hx165_0
                replace hx165_1 := hC HB hx165_1
                have HR165_0 := Aside0.mk hi165_0
                have HC165_0 := Aside0.mk hl165_0
                clear hi165_0 hl165_0
                replace p165 := eq_true p165
                replace q165 := eq_true q165
                have p166 : 0 ≤ (x5_1 : Int) := dA
                have q166 : x5_1 < (l1.length : Int) := dA
                obtain ⟨ad166, A166_0, c166_0, e166, hx166_0, hx166_1, hl166_0, hi166_0⟩ := at_T51 HR1.out x5_1 p166 q166
                have hw166_1 := hx166_1
                have hw166_0 := hx166_0
                obtain rfl : ad165 = ad166 := (by injection e166)
                replace hx166_0 := hC HB hx166_0
                replace hx166_1 := hC HB hx166_1
                have HR166_0 := Aside0.mk hi166_0
                have HC166_0 := Aside0.mk hl166_0
                clear hi166_0 hl166_0
                replace p166 := eq_true p166
                replace q166 := eq_true q166
                have ea_ := Option.some.inj (hx165_0.symm.trans hx166_0)
                injection ea_ with ea_ en_ ec_
                subst ea_
                subst ec_
                clear en_
                have p168 : 0 ≤ (x5_1 : Int) := dA
                have q168 : x5_1 < (l1.length : Int) := dA
                obtain ⟨ad168, A168_0, c168_0, e168, hx168_0, hx168_1, hl168_0, hi168_0⟩ := at_T51 HR1.out x5_1 p168 q168
                have hw168_1 := hx168_1
                have hw168_0 := hx168_0
                obtain rfl : ad165 = ad168 := (by injection e168)
                replace hx168_0 := hC HB hx168_0
                replace hx168_1 := hC HB hx168_1
                have HR168_0 := Aside0.mk hi168_0
                have HC168_0 := Aside0.mk hl168_0
                clear hi168_0 hl168_0
                replace p168 := eq_true p168
                replace q168 := eq_true q168
                first | have ea_ := Option.some.inj (hw165_0.symm.trans hw168_0) | have ea_ := Option.some.inj (hx165_0.symm.trans hx168_0)
                injection ea_ with ea_ en_ ec_
                subst ea_
                subst ec_
                clear en_
                have p169 : 0 ≤ (x5_1 : Int) := dA
                have q169 : x5_1 < (l1.length : Int) := dA
                obtain ⟨ad169, A169_0, c169_0, e169, hx169_0, hx169_1, hl169_0, hi169_0⟩ := at_T51 HR1.out x5_1 p169 q169
                have hw169_1 := hx169_1
                have hw169_0 := hx169_0
                obtain rfl : ad165 = ad169 := (by injection e169)
                replace hx169_0 := hC HB hx169_0
                replace hx169_1 := hC HB hx169_1
                have HR169_0 := Aside0.mk hi169_0
                have HC169_0 := Aside0.mk hl169_0
                clear hi169_0 hl169_0
                replace p169 := eq_true p169
                replace q169 := eq_true q169
                first | have ea_ := Option.some.inj (hw165_0.symm.trans hw169_0) | have ea_ := Option.some.inj (hx165_0.symm.trans hx169_0)
                injection ea_ with ea_ en_ ec_
                subst ea_
                subst ec_
                clear en_
                refine start_ (n := 33) (S := fun w' => w'.cell? (ad165.add ((x5_1).toNat * 2)) = some (.slice A165_0 ((rd_T51 l1 x5_1).f0).length c165_0) ∧ w'.cell? ⟨(ad165.add ((x5_1).toNat * 2)).block, (ad165.add ((x5_1).toNat * 2)).off + 1, none⟩ = some (.int .i64 ((rd_T51 l1 x5_1).f1)) ∧ w'.cell? (ad165.add ((x5_1).toNat * 2)) = some (.slice A165_0 ((rd_T51 l1 x5_1).f0).length c165_0) ∧ w'.cell? ⟨(ad165.add ((x5_1).toNat * 2)).block, (ad165.add ((x5_1).toNat * 2)).off + 1, none⟩ = some (.int .i64 ((rd_T51 l1 x5_1).f1)) ∧ w'.cell? (ad165.add ((x5_1).toNat * 2)) = some (.slice A165_0 ((rd_T51 l1 x5_1).f0).length c165_0) ∧ w'.cell? ⟨(ad165.add ((x5_1).toNat * 2)).block, (ad165.add ((x5_1).toNat * 2)).off + 1, none⟩ = some (.int .i64 ((rd_T51 l1 x5_1).f1)) ∧ w'.cell? (ad165.add ((x5_1).toNat * 2)) = some (.slice A165_0 ((rd_T51 l1 x5_1).f0).length c165_0) ∧ w'.cell? ⟨(ad165.add ((x5_1).toNat * 2)).block, (ad165.add ((x5_1).toNat * 2)).off + 1, none⟩ = some (.int .i64 ((rd_T51 l1 x5_1).f1))) (ds := []) (mb 33 0) (by kernel_rfl) rfl rfl ⟨(hC HB hw165_0), (hC HB hw165_1), (hC HB hw166_0), (hC HB hw166_1), (hC HB hw168_0), (hC HB hw168_1), (hC HB hw169_0), (hC HB hw169_1)⟩ (fun hHeld => ?_); refine with_tabW spec_IsPlan.tab6 spec_IsPlan.bits6 (fun HT_ HW_ => ?_)
                generalize wr.drew = w14 at HB HR165_0 HR166_0 HR168_0 HR169_0 hx165_0 hx165_1 hx166_0 hx166_1 hx168_0 hx168_1 hx169_0 hx169_1 hHeld ⊢
                refine pA (i := 0) (N := some 16) (mb 33 1) HT_ ?_
                refine pA (i := 1) (N := some 17) (mb 33 3) HT_ ?_
                refine pA (i := 2) (N := some 18) (mb 33 7) HT_ ?_
                refine pA (i := 3) (N := some 19) (mb 33 15) HT_ ?_
                refine tA8 (i := 4) (N := some 20) (mb 33 31) HT_ HW_ hHeld ?_
                refine pA (i := 5) (N := some 21) (mb 33 63) HT_ ?_
                refine pA (i := 6) (N := some 22) (mb 33 127) HT_ ?_
                refine pA (i := 7) (N := some 23) (mb 33 255) HT_ ?_
                refine pA (i := 8) (N := some 24) (mb 33 511) HT_ ?_
                refine pA (i := 9) (N := some 25) (mb 33 1023) HT_ ?_
                refine pA (i := 10) (N := some 26) (mb 33 2047) HT_ ?_
                refine pA (i := 11) (N := some 27) (mb 33 4095) HT_ ?_
                refine pA (i := 12) (N := some 28) (mb 33 8191) HT_ ?_
                refine tA8 (i := 13) (N := some 29) (mb 33 16383) HT_ HW_ hHeld ?_
                refine oA (i := 14) (N := some 30) (mb 33 32767) HT_ (fun K hK => ?_)
                refine gA Try.func52 #[.slice A0 l0.length c0, .slice A165_0 ((rd_T51 l1 x5_1).f0).length c165_0] ?_
                with_reducible refine (spec_IsTogether.calls k1 _ _ l0 _ _ ((rd_T51 l1 x5_1).f0) true _ ?side1 ?side2 ?side3 ?side4 A9.out).mono ?_
                (case side1 => exact cB HR0)
                (case side2 => exact HC0.out)
                (case side3 => exact cB HR166_0)
                (case side4 => exact HC166_0.out)
                rintro e w15 ⟨rfl, hb⟩
                refine ⟨_, rfl, ?_⟩
                replace HB := Aside0.mk (below_step bA hb)
                (try clear hb)
                (try clear hb2)
                (try clear hk)
                (try clear hi)
                refine hK.out _ _ ⟨(hC HB hw165_0), (hC HB hw165_1), (hC HB hw166_0), (hC HB hw166_1), (hC HB hw168_0), (hC HB hw168_1), (hC HB hw169_0), (hC HB hw169_1)⟩ (fun hHeld => ?_)
                clear hK K
                refine nA ?_
                refine pA (i := 15) (N := some 31) (mb 33 65535) HT_ ?_
                refine pA (i := 16) (N := some 32) (mb 33 131071) HT_ ?_
                refine pA (i := 17) (N := some 33) (mb 33 262143) HT_ ?_
                refine pA (i := 18) (N := some 34) (mb 33 524287) HT_ ?_
                refine pA (i := 19) (N := some 35) (mb 33 1048575) HT_ ?_
                refine pA (i := 20) (N := some 36) (mb 33 2097151) HT_ ?_
                refine pA (i := 21) (N := some 37) (mb 33 4194303) HT_ ?_
                refine pA (i := 23) (N := some 39) (mb 33 12582911) HT_ ?_
                refine pA (i := 24) (N := some 40) (mb 33 29360127) HT_ ?_
                refine pA (i := 25) (N := some 41) (mb 33 62914559) HT_ ?_
                refine pA (i := 26) (N := some 42) (mb 33 130023423) HT_ ?_
                refine pA (i := 27) (N := some 43) (mb 33 264241151) HT_ ?_
                refine tA8 (i := 22) (N := some 38) (mb 33 268435455) HT_ HW_ hHeld ?_
                refine tA8 (i := 28) (N := some 44) (mb 33 536870911) HT_ HW_ hHeld ?_
                refine oA (i := 29) (N := some 45) (mb 33 1073741823) HT_ (fun K hK => ?_)
                refine gA Try.func53 #[.slice A0 l0.length c0, .slice A165_0 ((rd_T51 l1 x5_1).f0).length c165_0] ?_
                with_reducible refine (spec_LeastGreen.calls k1 _ _ l0 _ _ ((rd_T51 l1 x5_1).f0) t170 _ ?side1 ?side2 ?side3 ?side4 A11.out).mono ?_
                (case side1 => exact cB HR0)
                (case side2 => exact HC0.out)
                (case side3 => exact cB HR169_0)
                (case side4 => exact HC169_0.out)
                rintro e w' ⟨rfl, ⟨nd, rfl⟩⟩
                refine ⟨_, rfl, ?_⟩
                refine hK.out _ _ ⟨(hC HB hw165_0), (hC HB hw165_1), (hC HB hw166_0), (hC HB hw166_1), (hC HB hw168_0), (hC HB hw168_1), (hC HB hw169_0), (hC HB hw169_1)⟩ (fun hHeld => ?_)
                clear hK K
                refine nA ?_
                refine oA (i := 30) (N := some 46) (mb 33 2147483647) HT_ (fun K hK => ?_)
                refine gA Try.func51 #[.int .i64 ((rd_T51 l1 x5_1).f1), .int .i64 t170, .int .i64 60] ?_
                with_reducible refine (spec_l1In.calls ((rd_T51 l1 x5_1).f1) t170 60 true _ A12.out).mono ?_
                rintro e w' ⟨rfl, ⟨nd, rfl⟩⟩
                refine ⟨_, rfl, ?_⟩
                refine hK.out _ _ ⟨(hC HB hw165_0), (hC HB hw165_1), (hC HB hw166_0), (hC HB hw166_1), (hC HB hw168_0), (hC HB hw168_1), (hC HB hw169_0), (hC HB hw169_1)⟩ (fun hHeld => ?_)
                clear hK K
                refine nA ?_
                refine pA (i := 31) (N := some 47) (mb 33 4294967295) HT_ ?_
                refine pA (i := 32) (N := some 48) (mb 33 8589934591) HT_ ?_
                refine eA HT_ ?_
                try go_wp2
                go_roundg k1
                case measure => have := HK1.out; omega
                case rel => exact ⟨(wrap64 (x5_1 + 1)), rS, H', ⟨by have := HK1.out; omega⟩, ⟨bA⟩⟩
              · replace c13 := Bool.eq_false_iff.mpr c13
                subst c13
                have H1 : (some false) = some r := by rw [if_neg (show ¬ (false = true) by decide)] at H; exact H
                clear H
                have H := H1
                clear H1
                obtain rfl := Option.some.inj H
                try go_wp2
                have HBo := HB
                replace HB := Aside0.mk (below_drew1 HB.out)
                have p165 : 0 ≤ (x5_1 : Int) := dA
                have q165 : x5_1 < (l1.length : Int) := dA
                obtain ⟨ad165, A165_0, c165_0, e165, hx165_0, hx165_1, hl165_0, hi165_0⟩ := at_T51 HR1.out x5_1 p165 q165
                have hw165_1 := hx165_1
                have hw165_0 := hx165_0
                cases e165
                replace hx165_0 := hC HB hx165_0
                replace hx165_1 := hC HB hx165_1
                have HR165_0 := Aside0.mk hi165_0
                have HC165_0 := Aside0.mk hl165_0
                clear hi165_0 hl165_0
                replace p165 := eq_true p165
                replace q165 := eq_true q165
                have p166 : 0 ≤ (x5_1 : Int) := dA
                have q166 : x5_1 < (l1.length : Int) := dA
                obtain ⟨ad166, A166_0, c166_0, e166, hx166_0, hx166_1, hl166_0, hi166_0⟩ := at_T51 HR1.out x5_1 p166 q166
                have hw166_1 := hx166_1
                have hw166_0 := hx166_0
                obtain rfl : ad165 = ad166 := (by injection e166)
                replace hx166_0 := hC HB hx166_0
                replace hx166_1 := hC HB hx166_1
                have HR166_0 := Aside0.mk hi166_0
                have HC166_0 := Aside0.mk hl166_0
                clear hi166_0 hl166_0
                replace p166 := eq_true p166
                replace q166 := eq_true q166
                have ea_ := Option.some.inj (hx165_0.symm.trans hx166_0)
                injection ea_ with ea_ en_ ec_
                subst ea_
                subst ec_
                clear en_
                have p168 : 0 ≤ (x5_1 : Int) := dA
                have q168 : x5_1 < (l1.length : Int) := dA
                obtain ⟨ad168, A168_0, c168_0, e168, hx168_0, hx168_1, hl168_0, hi168_0⟩ := at_T51 HR1.out x5_1 p168 q168
                have hw168_1 := hx168_1
                have hw168_0 := hx168_0
                obtain rfl : ad165 = ad168 := (by injection e168)
                replace hx168_0 := hC HB hx168_0
                replace hx168_1 := hC HB hx168_1
                have HR168_0 := Aside0.mk hi168_0
                have HC168_0 := Aside0.mk hl168_0
                clear hi168_0 hl168_0
                replace p168 := eq_true p168
                replace q168 := eq_true q168
                first | have ea_ := Option.some.inj (hw165_0.symm.trans hw168_0) | have ea_ := Option.some.inj (hx165_0.symm.trans hx168_0)
                injection ea_ with ea_ en_ ec_
                subst ea_
                subst ec_
                clear en_
                have p169 : 0 ≤ (x5_1 : Int) := dA
                have q169 : x5_1 < (l1.length : Int) := dA
                obtain ⟨ad169, A169_0, c169_0, e169, hx169_0, hx169_1, hl169_0, hi169_0⟩ := at_T51 HR1.out x5_1 p169 q169
                have hw169_1 := hx169_1
                have hw169_0 := hx169_0
                obtain rfl : ad165 = ad169 := (by injection e169)
                replace hx169_0 := hC HB hx169_0
                replace hx169_1 := hC HB hx169_1
                have HR169_0 := Aside0.mk hi169_0
                have HC169_0 := Aside0.mk hl169_0
                clear hi169_0 hl169_0
                replace p169 := eq_true p169
                replace q169 := eq_true q169
                first | have ea_ := Option.some.inj (hw165_0.symm.trans hw169_0) | have ea_ := Option.some.inj (hx165_0.symm.trans hx169_0)
                injection ea_ with ea_ en_ ec_
                subst ea_
                subst ec_
                clear en_
                refine start_ (n := 33) (S := fun w' => w'.cell? (ad165.add ((x5_1).toNat * 2)) = some (.slice A165_0 ((rd_T51 l1 x5_1).f0).length c165_0) ∧ w'.cell? ⟨(ad165.add ((x5_1).toNat * 2)).block, (ad165.add ((x5_1).toNat * 2)).off + 1, none⟩ = some (.int .i64 ((rd_T51 l1 x5_1).f1)) ∧ w'.cell? (ad165.add ((x5_1).toNat * 2)) = some (.slice A165_0 ((rd_T51 l1 x5_1).f0).length c165_0) ∧ w'.cell? ⟨(ad165.add ((x5_1).toNat * 2)).block, (ad165.add ((x5_1).toNat * 2)).off + 1, none⟩ = some (.int .i64 ((rd_T51 l1 x5_1).f1)) ∧ w'.cell? (ad165.add ((x5_1).toNat * 2)) = some (.slice A165_0 ((rd_T51 l1 x5_1).f0).length c165_0) ∧ w'.cell? ⟨(ad165.add ((x5_1).toNat * 2)).block, (ad165.add ((x5_1).toNat * 2)).off + 1, none⟩ = some (.int .i64 ((rd_T51 l1 x5_1).f1)) ∧ w'.cell? (ad165.add ((x5_1).toNat * 2)) = some (.slice A165_0 ((rd_T51 l1 x5_1).f0).length c165_0) ∧ w'.cell? ⟨(ad165.add ((x5_1).toNat * 2)).block, (ad165.add ((x5_1).toNat * 2)).off + 1, none⟩ = some (.int .i64 ((rd_T51 l1 x5_1).f1))) (ds := []) (mb 33 0) (by kernel_rfl) rfl rfl ⟨(hC HB hw165_0), (hC HB hw165_1), (hC HB hw166_0), (hC HB hw166_1), (hC HB hw168_0), (hC HB hw168_1), (hC HB hw169_0), (hC HB hw169_1)⟩ (fun hHeld => ?_); refine with_tabW spec_IsPlan.tab6 spec_IsPlan.bits6 (fun HT_ HW_ => ?_)
                generalize wr.drew = w16 at HB HR165_0 HR166_0 HR168_0 HR169_0 hx165_0 hx165_1 hx166_0 hx166_1 hx168_0 hx168_1 hx169_0 hx169_1 hHeld ⊢
                refine pA (i := 0) (N := some 16) (mb 33 1) HT_ ?_
                refine pA (i := 1) (N := some 17) (mb 33 3) HT_ ?_
                refine pA (i := 2) (N := some 18) (mb 33 7) HT_ ?_
                refine pA (i := 3) (N := some 19) (mb 33 15) HT_ ?_
                refine tA8 (i := 4) (N := some 20) (mb 33 31) HT_ HW_ hHeld ?_
                refine pA (i := 5) (N := some 21) (mb 33 63) HT_ ?_
                refine pA (i := 6) (N := some 22) (mb 33 127) HT_ ?_
                refine pA (i := 7) (N := some 23) (mb 33 255) HT_ ?_
                refine pA (i := 8) (N := some 24) (mb 33 511) HT_ ?_
                refine pA (i := 9) (N := some 25) (mb 33 1023) HT_ ?_
                refine pA (i := 10) (N := some 26) (mb 33 2047) HT_ ?_
                refine pA (i := 11) (N := some 27) (mb 33 4095) HT_ ?_
                refine pA (i := 12) (N := some 28) (mb 33 8191) HT_ ?_
                refine tA8 (i := 13) (N := some 29) (mb 33 16383) HT_ HW_ hHeld ?_
                refine oA (i := 14) (N := some 30) (mb 33 32767) HT_ (fun K hK => ?_)
                refine gA Try.func52 #[.slice A0 l0.length c0, .slice A165_0 ((rd_T51 l1 x5_1).f0).length c165_0] ?_
                with_reducible refine (spec_IsTogether.calls k1 _ _ l0 _ _ ((rd_T51 l1 x5_1).f0) true _ ?side1 ?side2 ?side3 ?side4 A9.out).mono ?_
                (case side1 => exact cB HR0)
                (case side2 => exact HC0.out)
                (case side3 => exact cB HR166_0)
                (case side4 => exact HC166_0.out)
                rintro e w17 ⟨rfl, hb⟩
                refine ⟨_, rfl, ?_⟩
                replace HB := Aside0.mk (below_step bA hb)
                (try clear hb)
                (try clear hb2)
                (try clear hk)
                (try clear hi)
                refine hK.out _ _ ⟨(hC HB hw165_0), (hC HB hw165_1), (hC HB hw166_0), (hC HB hw166_1), (hC HB hw168_0), (hC HB hw168_1), (hC HB hw169_0), (hC HB hw169_1)⟩ (fun hHeld => ?_)
                clear hK K
                refine nA ?_
                refine pA (i := 15) (N := some 31) (mb 33 65535) HT_ ?_
                refine pA (i := 16) (N := some 32) (mb 33 131071) HT_ ?_
                refine pA (i := 17) (N := some 33) (mb 33 262143) HT_ ?_
                refine pA (i := 18) (N := some 34) (mb 33 524287) HT_ ?_
                refine pA (i := 19) (N := some 35) (mb 33 1048575) HT_ ?_
                refine pA (i := 20) (N := some 36) (mb 33 2097151) HT_ ?_
                refine pA (i := 21) (N := some 37) (mb 33 4194303) HT_ ?_
                refine pA (i := 23) (N := some 39) (mb 33 12582911) HT_ ?_
                refine pA (i := 24) (N := some 40) (mb 33 29360127) HT_ ?_
                refine pA (i := 25) (N := some 41) (mb 33 62914559) HT_ ?_
                refine pA (i := 26) (N := some 42) (mb 33 130023423) HT_ ?_
                refine pA (i := 27) (N := some 43) (mb 33 264241151) HT_ ?_
                refine tA8 (i := 22) (N := some 38) (mb 33 268435455) HT_ HW_ hHeld ?_
                refine tA8 (i := 28) (N := some 44) (mb 33 536870911) HT_ HW_ hHeld ?_
                refine oA (i := 29) (N := some 45) (mb 33 1073741823) HT_ (fun K hK => ?_)
                refine gA Try.func53 #[.slice A0 l0.length c0, .slice A165_0 ((rd_T51 l1 x5_1).f0).length c165_0] ?_
                with_reducible refine (spec_LeastGreen.calls k1 _ _ l0 _ _ ((rd_T51 l1 x5_1).f0) t170 _ ?side1 ?side2 ?side3 ?side4 A11.out).mono ?_
                (case side1 => exact cB HR0)
                (case side2 => exact HC0.out)
                (case side3 => exact cB HR169_0)
                (case side4 => exact HC169_0.out)
                rintro e w' ⟨rfl, ⟨nd, rfl⟩⟩
                refine ⟨_, rfl, ?_⟩
                refine hK.out _ _ ⟨(hC HB hw165_0), (hC HB hw165_1), (hC HB hw166_0), (hC HB hw166_1), (hC HB hw168_0), (hC HB hw168_1), (hC HB hw169_0), (hC HB hw169_1)⟩ (fun hHeld => ?_)
                clear hK K
                refine nA ?_
                refine oA (i := 30) (N := some 46) (mb 33 2147483647) HT_ (fun K hK => ?_)
                refine gA Try.func51 #[.int .i64 ((rd_T51 l1 x5_1).f1), .int .i64 t170, .int .i64 60] ?_
                with_reducible refine (spec_l1In.calls ((rd_T51 l1 x5_1).f1) t170 60 false _ A12.out).mono ?_
                rintro e w' ⟨rfl, ⟨nd, rfl⟩⟩
                refine ⟨_, rfl, ?_⟩
                refine hK.out _ _ ⟨(hC HB hw165_0), (hC HB hw165_1), (hC HB hw166_0), (hC HB hw166_1), (hC HB hw168_0), (hC HB hw168_1), (hC HB hw169_0), (hC HB hw169_1)⟩ (fun hHeld => ?_)
                clear hK K
                refine nA ?_
                refine pA (i := 31) (N := some 47) (mb 33 4294967295) HT_ ?_
                refine pA (i := 32) (N := some 48) (mb 33 8589934591) HT_ ?_
                refine eA HT_ ?_
                try go_wp2
                go_ret
                exact ⟨rA, bA⟩
            · replace c10 := Bool.eq_false_iff.mpr c10
              subst c10
              have H1 : (some false) = some r := by rw [if_neg (show ¬ (false = true) by decide)] at H; exact H
              clear H
              have H := H1
              clear H1
              obtain rfl := Option.some.inj H
              try go_wp2
              have HBo := HB
              replace HB := Aside0.mk (below_drew1 HB.out)
              have p165 : 0 ≤ (x5_1 : Int) := dA
              have q165 : x5_1 < (l1.length : Int) := dA
              obtain ⟨ad165, A165_0, c165_0, e165, hx165_0, hx165_1, hl165_0, hi165_0⟩ := at_T51 HR1.out x5_1 p165 q165
              have hw165_1 := hx165_1
              have hw165_0 := hx165_0
              cases e165
              replace hx165_0 := hC HB hx165_0
              replace hx165_1 := hC HB hx165_1
              have HR165_0 := Aside0.mk hi165_0
              have HC165_0 := Aside0.mk hl165_0
              clear hi165_0 hl165_0
              replace p165 := eq_true p165
              replace q165 := eq_true q165
              have p166 : 0 ≤ (x5_1 : Int) := dA
              have q166 : x5_1 < (l1.length : Int) := dA
              obtain ⟨ad166, A166_0, c166_0, e166, hx166_0, hx166_1, hl166_0, hi166_0⟩ := at_T51 HR1.out x5_1 p166 q166
              have hw166_1 := hx166_1
              have hw166_0 := hx166_0
              obtain rfl : ad165 = ad166 := (by injection e166)
              replace hx166_0 := hC HB hx166_0
              replace hx166_1 := hC HB hx166_1
              have HR166_0 := Aside0.mk hi166_0
              have HC166_0 := Aside0.mk hl166_0
              clear hi166_0 hl166_0
              replace p166 := eq_true p166
              replace q166 := eq_true q166
              have ea_ := Option.some.inj (hx165_0.symm.trans hx166_0)
              injection ea_ with ea_ en_ ec_
              subst ea_
              subst ec_
              clear en_
              refine start_ (n := 33) (S := fun w' => w'.cell? (ad165.add ((x5_1).toNat * 2)) = some (.slice A165_0 ((rd_T51 l1 x5_1).f0).length c165_0) ∧ w'.cell? ⟨(ad165.add ((x5_1).toNat * 2)).block, (ad165.add ((x5_1).toNat * 2)).off + 1, none⟩ = some (.int .i64 ((rd_T51 l1 x5_1).f1)) ∧ w'.cell? (ad165.add ((x5_1).toNat * 2)) = some (.slice A165_0 ((rd_T51 l1 x5_1).f0).length c165_0) ∧ w'.cell? ⟨(ad165.add ((x5_1).toNat * 2)).block, (ad165.add ((x5_1).toNat * 2)).off + 1, none⟩ = some (.int .i64 ((rd_T51 l1 x5_1).f1))) (ds := []) (mb 33 0) (by kernel_rfl) rfl rfl ⟨(hC HB hw165_0), (hC HB hw165_1), (hC HB hw166_0), (hC HB hw166_1)⟩ (fun hHeld => ?_); refine with_tabW spec_IsPlan.tab6 spec_IsPlan.bits6 (fun HT_ HW_ => ?_)
              generalize wr.drew = w18 at HB HR165_0 HR166_0 hx165_0 hx165_1 hx166_0 hx166_1 hHeld ⊢
              refine pA (i := 0) (N := some 16) (mb 33 1) HT_ ?_
              refine pA (i := 1) (N := some 17) (mb 33 3) HT_ ?_
              refine pA (i := 2) (N := some 18) (mb 33 7) HT_ ?_
              refine pA (i := 3) (N := some 19) (mb 33 15) HT_ ?_
              refine tA4 (i := 4) (N := some 20) (mb 33 31) HT_ HW_ hHeld ?_
              refine pA (i := 5) (N := some 21) (mb 33 63) HT_ ?_
              refine pA (i := 6) (N := some 22) (mb 33 127) HT_ ?_
              refine pA (i := 7) (N := some 23) (mb 33 255) HT_ ?_
              refine pA (i := 8) (N := some 24) (mb 33 511) HT_ ?_
              refine pA (i := 9) (N := some 25) (mb 33 1023) HT_ ?_
              refine pA (i := 10) (N := some 26) (mb 33 2047) HT_ ?_
              refine pA (i := 11) (N := some 27) (mb 33 4095) HT_ ?_
              refine pA (i := 12) (N := some 28) (mb 33 8191) HT_ ?_
              refine tA4 (i := 13) (N := some 29) (mb 33 16383) HT_ HW_ hHeld ?_
              refine oA (i := 14) (N := some 30) (mb 33 32767) HT_ (fun K hK => ?_)
              refine gA Try.func52 #[.slice A0 l0.length c0, .slice A165_0 ((rd_T51 l1 x5_1).f0).length c165_0] ?_
              with_reducible refine (spec_IsTogether.calls k1 _ _ l0 _ _ ((rd_T51 l1 x5_1).f0) false _ ?side1 ?side2 ?side3 ?side4 A9.out).mono ?_
              (case side1 => exact cB HR0)
              (case side2 => exact HC0.out)
              (case side3 => exact cB HR166_0)
              (case side4 => exact HC166_0.out)
              rintro e w19 ⟨rfl, hb⟩
              refine ⟨_, rfl, ?_⟩
              replace HB := Aside0.mk (below_step bA hb)
              (try clear hb)
              (try clear hb2)
              (try clear hk)
              (try clear hi)
              refine hK.out _ _ ⟨(hC HB hw165_0), (hC HB hw165_1), (hC HB hw166_0), (hC HB hw166_1)⟩ (fun hHeld => ?_)
              clear hK K
              refine nA ?_
              refine pA (i := 15) (N := some 31) (mb 33 65535) HT_ ?_
              refine pA (i := 16) (N := some 32) (mb 33 131071) HT_ ?_
              refine pA (i := 17) (N := some 33) (mb 33 262143) HT_ ?_
              refine pU (i := 18) (N := some 34) (mb 33 524287) HT_ ?_
              refine pU (i := 19) (N := some 35) (mb 33 1048575) HT_ ?_
              refine pU (i := 20) (N := some 36) (mb 33 2097151) HT_ ?_
              refine pU (i := 21) (N := some 37) (mb 33 4194303) HT_ ?_
              refine pU (i := 22) (N := some 38) (mb 33 8388607) HT_ ?_
              refine pU (i := 23) (N := some 39) (mb 33 16777215) HT_ ?_
              refine pU (i := 24) (N := some 40) (mb 33 33554431) HT_ ?_
              refine pU (i := 25) (N := some 41) (mb 33 67108863) HT_ ?_
              refine pU (i := 26) (N := some 42) (mb 33 134217727) HT_ ?_
              refine pU (i := 27) (N := some 43) (mb 33 268435455) HT_ ?_
              refine pU (i := 28) (N := some 44) (mb 33 536870911) HT_ ?_
              refine pU (i := 29) (N := some 45) (mb 33 1073741823) HT_ ?_
              refine pU (i := 30) (N := some 46) (mb 33 2147483647) HT_ ?_
              refine pU (i := 31) (N := some 47) (mb 33 4294967295) HT_ ?_
              refine pA (i := 32) (N := some 48) (mb 33 8589934591) HT_ ?_
              refine eA HT_ ?_
              try go_wp2
              go_ret
              exact ⟨rA, bA⟩
        · rw [if_neg c5] at H
          have c5b0 : decide (x5_1 < (l1.length : Int)) = false := decide_eq_false c5
          clear c5
          obtain ⟨t161, A20, H⟩ := bindE H
          try dsimp only at H
          obtain ⟨t164, A21, H⟩ := bindE H
          try dsimp only at H
          obtain rfl := Option.some.inj H
          go_wp2_with (first | ((with_reducible refine gate_callee (f := 55) rfl ?_); refine gL (some 51) Try.func55 #[.slice A1 l1.length c1] ?_; (with_reducible refine (spec_l8Stages.calls k1 (fun k_ => k_ < w.heap.size) _ _ l1 t161 _ ?side1 A20.out).mono ?_); (case side1 => exact Kd.V_mk HC1.out (Kd.F_below (Kd.C_F k51_heap HR1.out) bA)); rintro e w22 ⟨v162, rfl, ho0, hb⟩; refine ⟨_, rfl, ?_⟩; have HO163 := Aside0.mk (Kd.N_lower (Kd.N_mono (ok' := fun k_ => True) ho0 (fun k_ hk_ => trivial)) (below_size bA)); replace HB := Aside0.mk (below_step bA hb); (try clear hb); (try clear hb2); (try clear hk); (try clear hi); (try clear ho0); obtain ⟨Ao23, co23, eo23⟩ := Kd.N_slice HO163.out; subst eo23) | ((with_reducible refine gate_callee (f := 54) rfl ?_); refine gL (some 52) Try.func54 #[.slice A0 l0.length c0, .slice Ao23 t161.length co23] ?_; (with_reducible refine (spec_Covers.calls k1 _ _ l0 _ _ t161 t164 _ ?side1 ?side2 ?side3 ?side4 A21.out).mono ?_); (case side1 => exact cB HR0); (case side2 => exact HC0.out); (case side3 => repeat (first | exact (Kd.N_reads' HO163.out).2.2 | (with_reducible refine Kd.C_alloc ?_ _) | (with_reducible refine Kd.C_drewN ?_ _) | (with_reducible refine Kd.C_drew ?_))); (case side4 => exact (Kd.N_reads' HO163.out).2.1); rintro e w24 ⟨rfl, hb⟩; refine ⟨_, rfl, ?_⟩; have n0_ := Aside0.mk (Kd.N_below (by (with_reducible repeat (first | apply Kd.N_alloc | apply Kd.N_drewN | apply Kd.N_drew)); exact HO163.out) hb); have n1_ := Aside0.mk (below_step bA hb); clear HO163; clear HB; have HO163 := n0_; have HB := n1_; clear n0_ n1_; (try clear hb); (try clear hb2); (try clear hk); (try clear hi)))
          go_ret
          exact ⟨rA, bA⟩
  · replace c4 := Bool.eq_false_iff.mpr c4
    subst c4
    have H1 : (some false) = some r := by rw [if_neg (show ¬ (false = true) by decide)] at H; exact H
    clear H
    have H := H1
    clear H1
    obtain rfl := Option.some.inj H
    go_enter Try.func17, Try.ntmps17
    go_wp2_with (first | ((with_reducible refine gate_callee (f := 51) rfl ?_); refine gL (some 8) Try.func51 #[.int .i64 (l1.length : Int), .int .i64 1, .int .i64 6] ?_; (with_reducible refine (spec_l1In.calls (l1.length : Int) 1 6 false _ A3.out).mono ?_); rintro e w' ⟨rfl, ⟨nd, rfl⟩⟩; refine ⟨_, rfl, ?_⟩))
    go_ret
    exact ⟨rA, bA⟩

/-! ### spec_l8Long: function 64 -/
def spec_l8Long.f (k : Nat) (l0 : List (S58)) (l1 : List (S51)) (a2 : Int) : Option (Int) := if 0 ≤ a2 then (if a2 < (l1.length : Int) then (if (l1.length : Int) = 0 then (none) else (if 0 ≤ (Int.tmod (wrap64 (a2 + 1)) (l1.length : Int)) then (if (Int.tmod (wrap64 (a2 + 1)) (l1.length : Int)) < (l1.length : Int) then ((spec_ClearBetween.f k l0 ((rd_T51 l1 a2).f0) ((rd_T51 l1 (Int.tmod (wrap64 (a2 + 1)) (l1.length : Int))).f0)).bind fun t339 => (some (wrap64 (((rd_T51 l1 a2).f1) + t339)))) else (none)) else (none))) else (none)) else (none)
theorem spec_l8Long.mono : ∀ a0 a1 a2 k, LeO (spec_l8Long.f k a0 a1 a2) (spec_l8Long.f (k + 1) a0 a1 a2) := by
  intro a0 a1 a2 k
  unfold spec_l8Long.f
  repeat' first | (with_reducible first | exact LeO.refl _ | exact LeO.none _ | refine LeO.ite ?_ ?_ | refine LeO.bind ?_ (fun _ => ?_) | exact spec_ClearBetween.mono _ _ _ _) | exact LeO.none _ | refine LeO.ite ?_ ?_ | refine LeO.bind ?_ (fun _ => ?_) | exact spec_ClearBetween.mono _ _ _ _
def spec_l8Long.T1 : Bool × List (List Nat × List Nat) := (true, [([], []), ([], []), ([0, 1], [0, 1]), ([2], [2]), ([3], [3]), ([], []), ([], []), ([], []), ([6, 7], [6, 7]), ([8], [8]), ([9], [9]), ([], []), ([], []), ([12], [12]), ([], []), ([14], [14]), ([13, 15], [13, 15]), ([11, 16], [11, 16]), ([17], [17]), ([18], [18]), ([5, 10, 19], [5, 10, 19]), ([4, 20], [4, 20]), ([21, 20, 0, 1, 2, 3, 4, 5, 6, 7, 8, 9, 10, 11, 12, 13, 14, 15, 16, 17, 18, 19, 20, 21], [21])])
def spec_l8Long.B1 : List Nat := [0, 0, 3, 7, 15, 0, 0, 0, 192, 448, 960, 0, 0, 4096, 0, 16384, 61440, 129024, 260096, 522240, 1048544, 2097151, 4194303]
theorem spec_l8Long.tab1 : rtab .any (opsOf Try.f64 1) = spec_l8Long.T1 := by kernel_rfl
theorem spec_l8Long.bits1 : waitsOk spec_l8Long.T1.2 spec_l8Long.B1 = true := by kernel_rfl
set_option maxHeartbeats 8000000 in
set_option maxRecDepth 100000 in
theorem spec_l8Long.calls (k : Nat) (A0 : Option Addr) (c0 : Nat) (l0 : List (S58)) (A1 : Option Addr) (c1 : Nat) (l1 : List (S51)) (a2 : Int) (r : Int) (w : World) (hr0 : Kd.C k58 w A0 l0.length l0) (hc0 : l0.length ≤ c0) (hr1 : Kd.C k51 w A1 l1.length l1) (hc1 : l1.length ≤ c1) (h : spec_l8Long.f k l0 l1 a2 = some r) :
    Calls Try.prog 64 #[.slice A0 l0.length c0, .slice A1 l1.length c1, .int .i64 a2] w fun e w' => e = .returned (.int .i64 r) ∧ Below w.heap.size w w' := by
  have HR0 := Aside0.mk hr0
  have HC0 := Aside0.mk hc0
  clear hr0 hc0
  have HR1 := Aside0.mk hr1
  have HC1 := Aside0.mk hc1
  clear hr1 hc1
  have HB := Aside0.mk (Below.refl w.heap.size w)
  have H : (if 0 ≤ a2 then (if a2 < (l1.length : Int) then (if (l1.length : Int) = 0 then (none) else (if 0 ≤ (Int.tmod (wrap64 (a2 + 1)) (l1.length : Int)) then (if (Int.tmod (wrap64 (a2 + 1)) (l1.length : Int)) < (l1.length : Int) then ((spec_ClearBetween.f k l0 ((rd_T51 l1 a2).f0) ((rd_T51 l1 (Int.tmod (wrap64 (a2 + 1)) (l1.length : Int))).f0)).bind fun t339 => (some (wrap64 (((rd_T51 l1 a2).f1) + t339)))) else (none)) else (none))) else (none)) else (none)) = some r := h
  clear h
  have c4 : 0 ≤ a2 := ifN H
  replace H := ifT H
  have c4b0 : decide (0 ≤ a2) = true := decide_eq_true c4
  clear c4
  have c5 : a2 < (l1.length : Int) := ifN H
  replace H := ifT H
  have c5b0 : decide (a2 < (l1.length : Int)) = true := decide_eq_true c5
  clear c5
  have c6 : ¬ ((l1.length : Int) = 0) := ifN' H
  replace H := ifT' H
  have c6b0 : ((l1.length : Int) == 0) = false := beq_eq_false_iff_ne.mpr c6
  have c6b1 : ((l1.length : Int) != 0) = true := bne_iff_ne.mpr c6
  have c6b2 : ¬ (l1 = []) := fun h_ => c6 (by rw [h_]; rfl)
  obtain ⟨ji7, hji7⟩ : ∃ j_ : Int, (Int.tmod (wrap64 (a2 + 1)) (l1.length : Int)) = j_ := ⟨_, rfl⟩
  replace H : (if 0 ≤ (ji7) then (if (ji7) < (l1.length : Int) then ((spec_ClearBetween.f k l0 ((rd_T51 l1 a2).f0) ((rd_T51 l1 (ji7)).f0)).bind fun t339 => (some (wrap64 (((rd_T51 l1 a2).f1) + t339)))) else (none)) else (none)) = some r := by first | (rw [hji7] at H; exact H) | (simp only [hji7] at H ⊢; exact H)
  have c8 : 0 ≤ (ji7) := ifN H
  replace H := ifT H
  have c8b0 : decide (0 ≤ (ji7)) = true := decide_eq_true c8
  clear c8
  have c9 : (ji7) < (l1.length : Int) := ifN H
  replace H := ifT H
  have c9b0 : decide ((ji7) < (l1.length : Int)) = true := decide_eq_true c9
  clear c9
  obtain ⟨t339, A10, H⟩ := bindE H
  try dsimp only at H
  obtain rfl := Option.some.inj H
  go_enter Try.func64, Try.ntmps64
  try go_wp2
  have HBo := HB
  replace HB := Aside0.mk (below_drew1 HB.out)
  have p336 : 0 ≤ (a2 : Int) := dA
  have q336 : a2 < (l1.length : Int) := dA
  obtain ⟨ad336, A336_0, c336_0, e336, hx336_0, hx336_1, hl336_0, hi336_0⟩ := at_T51 HR1.out a2 p336 q336
  have hw336_1 := hx336_1
  have hw336_0 := hx336_0
  cases e336
  replace hx336_0 := hC HB hx336_0
  replace hx336_1 := hC HB hx336_1
  have HR336_0 := Aside0.mk hi336_0
  have HC336_0 := Aside0.mk hl336_0
  clear hi336_0 hl336_0
  replace p336 := eq_true p336
  replace q336 := eq_true q336
  have p337 : 0 ≤ (a2 : Int) := dA
  have q337 : a2 < (l1.length : Int) := dA
  obtain ⟨ad337, A337_0, c337_0, e337, hx337_0, hx337_1, hl337_0, hi337_0⟩ := at_T51 HR1.out a2 p337 q337
  have hw337_1 := hx337_1
  have hw337_0 := hx337_0
  obtain rfl : ad336 = ad337 := (by injection e337)
  replace hx337_0 := hC HB hx337_0
  replace hx337_1 := hC HB hx337_1
  have HR337_0 := Aside0.mk hi337_0
  have HC337_0 := Aside0.mk hl337_0
  clear hi337_0 hl337_0
  replace p337 := eq_true p337
  replace q337 := eq_true q337
  have ea_ := Option.some.inj (hx336_0.symm.trans hx337_0)
  injection ea_ with ea_ en_ ec_
  subst ea_
  subst ec_
  clear en_
  have p338 : 0 ≤ ((ji7) : Int) := dA
  have q338 : (ji7) < (l1.length : Int) := dA
  obtain ⟨ad338, A338_0, c338_0, e338, hx338_0, hx338_1, hl338_0, hi338_0⟩ := at_T51 HR1.out (ji7) p338 q338
  have hw338_1 := hx338_1
  have hw338_0 := hx338_0
  obtain rfl : ad336 = ad338 := (by injection e338)
  replace hx338_0 := hC HB hx338_0
  replace hx338_1 := hC HB hx338_1
  have HR338_0 := Aside0.mk hi338_0
  have HC338_0 := Aside0.mk hl338_0
  clear hi338_0 hl338_0
  replace p338 := eq_true p338
  replace q338 := eq_true q338
  refine start_ (n := 23) (S := fun w' => w'.cell? (ad336.add ((a2).toNat * 2)) = some (.slice A336_0 ((rd_T51 l1 a2).f0).length c336_0) ∧ w'.cell? ⟨(ad336.add ((a2).toNat * 2)).block, (ad336.add ((a2).toNat * 2)).off + 1, none⟩ = some (.int .i64 ((rd_T51 l1 a2).f1)) ∧ w'.cell? (ad336.add ((a2).toNat * 2)) = some (.slice A336_0 ((rd_T51 l1 a2).f0).length c336_0) ∧ w'.cell? ⟨(ad336.add ((a2).toNat * 2)).block, (ad336.add ((a2).toNat * 2)).off + 1, none⟩ = some (.int .i64 ((rd_T51 l1 a2).f1)) ∧ w'.cell? (ad336.add (((ji7)).toNat * 2)) = some (.slice A338_0 ((rd_T51 l1 (ji7)).f0).length c338_0) ∧ w'.cell? ⟨(ad336.add (((ji7)).toNat * 2)).block, (ad336.add (((ji7)).toNat * 2)).off + 1, none⟩ = some (.int .i64 ((rd_T51 l1 (ji7)).f1))) (ds := []) (mb 23 0) (by kernel_rfl) rfl rfl ⟨(hC HB hw336_0), (hC HB hw336_1), (hC HB hw337_0), (hC HB hw337_1), (hC HB hw338_0), (hC HB hw338_1)⟩ (fun hHeld => ?_); refine with_tabW spec_l8Long.tab1 spec_l8Long.bits1 (fun HT_ HW_ => ?_)
  generalize w.drew = w11 at HB HR336_0 HR337_0 HR338_0 hx336_0 hx336_1 hx337_0 hx337_1 hx338_0 hx338_1 hHeld ⊢
  refine pA (i := 0) (N := some 7) (mb 23 1) HT_ ?_
  refine pA (i := 1) (N := some 8) (mb 23 3) HT_ ?_
  refine pA (i := 2) (N := some 9) (mb 23 7) HT_ ?_
  refine pA (i := 3) (N := some 10) (mb 23 15) HT_ ?_
  refine pA (i := 5) (N := some 12) (mb 23 47) HT_ ?_
  refine pA (i := 6) (N := some 13) (mb 23 111) HT_ ?_
  refine pA (i := 7) (N := some 14) (mb 23 239) HT_ ?_
  refine pA (i := 8) (N := some 15) (mb 23 495) HT_ ?_
  refine pA (i := 9) (N := some 16) (mb 23 1007) HT_ ?_
  refine pA (i := 11) (N := some 18) (mb 23 3055) HT_ ?_
  refine pA (i := 12) (N := some 19) (mb 23 7151) HT_ ?_
  refine pA (i := 13) (N := some 20) (mb 23 15343) HT_ ?_
  refine pA (i := 14) (N := some 21) (mb 23 31727) HT_ ?_
  refine pA (i := 15) (N := some 22) (mb 23 64495) HT_ ?_
  refine pA (i := 16) (N := some 23) (mb 23 130031) HT_ ?_
  refine pA (i := 17) (N := some 24) (mb 23 261103) HT_ ?_
  refine pA (i := 18) (N := some 25) (mb 23 523247) HT_ ?_
  refine tA6 (i := 4) (N := some 11) (mb 23 523263) HT_ HW_ hHeld ?_
  refine tA6 (i := 10) (N := some 17) (mb 23 524287) HT_ HW_ hHeld ?_
  refine tA6 (i := 19) (N := some 26) (mb 23 1048575) HT_ HW_ hHeld ?_
  refine oA (i := 20) (N := some 27) (mb 23 2097151) HT_ (fun K hK => ?_)
  refine goes_ Try.func66 (by kernel_rfl) rfl #[.slice A0 l0.length c0, .slice A336_0 ((rd_T51 l1 a2).f0).length c336_0, .slice A338_0 ((rd_T51 l1 (ji7)).f0).length c338_0] (by rfl) rfl rfl (by (try simp only [List.map_toArray, List.map_cons, List.map_nil]); first | done | (simp only [hji7]; rfl) | rfl | (simp only [List.length_drop, List.length_take]; rfl)) ?_
  with_reducible refine (spec_ClearBetween.calls k _ _ l0 _ _ ((rd_T51 l1 a2).f0) _ _ ((rd_T51 l1 (ji7)).f0) t339 _ ?side1 ?side2 ?side3 ?side4 ?side5 ?side6 A10.out).mono ?_
  (case side1 => exact cB HR0)
  (case side2 => exact HC0.out)
  (case side3 => exact cB HR337_0)
  (case side4 => exact HC337_0.out)
  (case side5 => exact cB HR338_0)
  (case side6 => exact HC338_0.out)
  rintro e w12 ⟨rfl, hb⟩
  refine ⟨_, rfl, ?_⟩
  replace HB := Aside0.mk (below_step bA hb)
  (try clear hb)
  (try clear hb2)
  (try clear hk)
  (try clear hi)
  refine hK.out _ _ ⟨(hC HB hw336_0), (hC HB hw336_1), (hC HB hw337_0), (hC HB hw337_1), (hC HB hw338_0), (hC HB hw338_1)⟩ (fun hHeld => ?_)
  clear hK K
  refine nA ?_
  refine pA (i := 21) (N := some 28) (mb 23 4194303) HT_ ?_
  refine pA (i := 22) (N := some 6) (mb 23 8388607) HT_ ?_
  refine eA HT_ ?_
  try go_wp2
  go_ret
  exact ⟨by first | rfl | (simp [errW_none, errW_some] <;> rfl) | (simp only [← hji7]; first | rfl | (simp [errW_none, errW_some] <;> rfl)) | (simp [*, errW_none, errW_some] <;> rfl), bA⟩

/-! ### spec_Cycle: function 23 -/
def spec_Cycle.l0 : Nat → List (S58) → List (S51) → Int → Int → Option (Int)
  | 0, _, _, _, _ => none
  | k + 1, x0, x1, x5, x6 => if x6 < (x1.length : Int) then ((spec_IsPlan.f k x0 x1).bind fun t340 => (if t340 = true then ((spec_l8Long.f k x0 x1 x6).bind fun t341 => (spec_Cycle.l0 k x0 x1 (wrap64 (x5 + t341)) (wrap64 (x6 + 1)))) else (some x5))) else (some x5)
def spec_Cycle.f (k : Nat) (l0 : List (S58)) (l1 : List (S51)) : Option (Int) := spec_Cycle.l0 k l0 l1 0 0
theorem spec_Cycle.mono_l : ∀ k, (∀ y0 y1 y2 y3, LeO (spec_Cycle.l0 k y0 y1 y2 y3) (spec_Cycle.l0 (k + 1) y0 y1 y2 y3))
  | 0 => fun _ _ _ _ r h => by simp [spec_Cycle.l0] at h
  | k + 1 => by
    have ih0 := spec_Cycle.mono_l k
    · intro y0 y1 y2 y3
      unfold spec_Cycle.l0
      repeat' first | (with_reducible first | exact LeO.refl _ | exact LeO.none _ | refine LeO.ite ?_ ?_ | refine LeO.bind ?_ (fun _ => ?_) | exact ih0 _ _ _ _ | exact spec_IsPlan.mono _ _ _ | exact spec_l8Long.mono _ _ _ _) | exact LeO.none _ | refine LeO.ite ?_ ?_ | refine LeO.bind ?_ (fun _ => ?_) | exact ih0 _ _ _ _ | exact spec_IsPlan.mono _ _ _ | exact spec_l8Long.mono _ _ _ _
theorem spec_Cycle.mono : ∀ a0 a1 k, LeO (spec_Cycle.f k a0 a1) (spec_Cycle.f (k + 1) a0 a1) := by
  intro a0 a1 k
  have ih0 := spec_Cycle.mono_l k
  unfold spec_Cycle.f
  repeat' first | (with_reducible first | exact LeO.refl _ | exact LeO.none _ | refine LeO.ite ?_ ?_ | refine LeO.bind ?_ (fun _ => ?_) | exact ih0 _ _ _ _ | exact spec_IsPlan.mono _ _ _ | exact spec_l8Long.mono _ _ _ _) | exact LeO.none _ | refine LeO.ite ?_ ?_ | refine LeO.bind ?_ (fun _ => ?_) | exact ih0 _ _ _ _ | exact spec_IsPlan.mono _ _ _ | exact spec_l8Long.mono _ _ _ _
set_option maxHeartbeats 8000000 in
set_option maxRecDepth 100000 in
theorem spec_Cycle.calls (k : Nat) (A0 : Option Addr) (c0 : Nat) (l0 : List (S58)) (A1 : Option Addr) (c1 : Nat) (l1 : List (S51)) (r : Int) (w : World) (hr0 : Kd.C k58 w A0 l0.length l0) (hc0 : l0.length ≤ c0) (hr1 : Kd.C k51 w A1 l1.length l1) (hc1 : l1.length ≤ c1) (h : spec_Cycle.f k l0 l1 = some r) :
    Calls Try.prog 23 #[.slice A0 l0.length c0, .slice A1 l1.length c1] w fun e w' => e = .returned (.int .i64 r) ∧ Below w.heap.size w w' := by
  have HR0 := Aside0.mk hr0
  have HC0 := Aside0.mk hc0
  clear hr0 hc0
  have HR1 := Aside0.mk hr1
  have HC1 := Aside0.mk hc1
  clear hr1 hc1
  have HB := Aside0.mk (Below.refl w.heap.size w)
  have H : (spec_Cycle.l0 k l0 l1 0 0) = some r := h
  clear h
  have H' := Aside0.mk H
  clear H
  go_enter Try.func23, Try.ntmps23
  go_wp2
  go_loopg [5, 6] k (fun kq v5 v6 w' => ∃ (x5_1 : Int) (x6_1 : Int), v5 = .int .i64 x5_1 ∧ v6 = .int .i64 x6_1 ∧ Aside0 (spec_Cycle.l0 kq l0 l1 x5_1 x6_1 = some r) ∧ Aside0 (kq ≤ k) ∧ Aside0 (Below w.heap.size w w'))
  case atStart => exact ⟨(0), (0), rS, rS, H', ⟨Nat.le_refl _⟩, ⟨bA⟩⟩
  case round =>
    clear H'
    try clear c1
    try clear c2
    try clear p2
    obtain ⟨x5_1, x6_1, rfl, rfl, HA, HK1, HB⟩ := hrel
    cases gk with
    | zero => exact absurd HA.out (by simp [spec_Cycle.l0])
    | succ k1 =>
      have H := HA.out
      clear HA
      simp only [spec_Cycle.l0] at H
      by_cases c3 : x6_1 < (l1.length : Int)
      · rw [if_pos c3] at H
        have c3b0 : decide (x6_1 < (l1.length : Int)) = true := decide_eq_true c3
        clear c3
        obtain ⟨t340, A4, H⟩ := bindE H
        try dsimp only at H
        by_cases c5 : t340 = true
        · subst c5
          have H1 : ((spec_l8Long.f k1 l0 l1 x6_1).bind fun t341 => (spec_Cycle.l0 k1 l0 l1 (wrap64 (x5_1 + t341)) (wrap64 (x6_1 + 1)))) = some r := by rw [if_pos rfl] at H; exact H
          clear H
          have H := H1
          clear H1
          obtain ⟨t341, A6, H⟩ := bindE H
          try dsimp only at H
          have H' := Aside0.mk H
          clear H
          go_wp2_with (first | (go_at_call 17; (with_reducible refine (spec_IsPlan.calls k1 _ _ l0 _ _ l1 true _ ?side1 ?side2 ?side3 ?side4 A4.out).mono ?_); (case side1 => exact cB HR0); (case side2 => exact HC0.out); (case side3 => exact cB HR1); (case side4 => exact HC1.out); rintro e w7 ⟨rfl, hb⟩; replace HB := Aside0.mk (below_step bA hb); (try clear hb); (try clear hb2); (try clear hk); (try clear hi)) | ((with_reducible refine gate_callee (f := 64) rfl ?_); refine gL (some 22) Try.func64 #[.slice A0 l0.length c0, .slice A1 l1.length c1, .int .i64 x6_1] ?_; (with_reducible refine (spec_l8Long.calls k1 _ _ l0 _ _ l1 x6_1 t341 _ ?side1 ?side2 ?side3 ?side4 A6.out).mono ?_); (case side1 => exact cB HR0); (case side2 => exact HC0.out); (case side3 => exact cB HR1); (case side4 => exact HC1.out); rintro e w8 ⟨rfl, hb⟩; refine ⟨_, rfl, ?_⟩; replace HB := Aside0.mk (below_step bA hb); (try clear hb); (try clear hb2); (try clear hk); (try clear hi)))
          go_roundg k1
          case measure => have := HK1.out; omega
          case rel => exact ⟨(wrap64 (x5_1 + t341)), (wrap64 (x6_1 + 1)), rS, rS, H', ⟨by have := HK1.out; omega⟩, ⟨bA⟩⟩
        · replace c5 := Bool.eq_false_iff.mpr c5
          subst c5
          have H1 : (some x5_1) = some r := by rw [if_neg (show ¬ (false = true) by decide)] at H; exact H
          clear H
          have H := H1
          clear H1
          obtain rfl := Option.some.inj H
          go_wp2_with (first | (go_at_call 17; (with_reducible refine (spec_IsPlan.calls k1 _ _ l0 _ _ l1 false _ ?side1 ?side2 ?side3 ?side4 A4.out).mono ?_); (case side1 => exact cB HR0); (case side2 => exact HC0.out); (case side3 => exact cB HR1); (case side4 => exact HC1.out); rintro e w9 ⟨rfl, hb⟩; replace HB := Aside0.mk (below_step bA hb); (try clear hb); (try clear hb2); (try clear hk); (try clear hi)))
          go_ret
          exact ⟨rA, bA⟩
      · rw [if_neg c3] at H
        have c3b0 : decide (x6_1 < (l1.length : Int)) = false := decide_eq_false c3
        clear c3
        obtain rfl := Option.some.inj H
        go_wp2
        go_ret
        exact ⟨rA, bA⟩

/-! ### spec_StartOf: function 25 -/
mutual
def spec_StartOf.j0 : Nat → List (S58) → List (S51) → Int → Bool → Option (Int)
  | 0, _, _, _, _ => none
  | k + 1, x0, x1, x2, x20 => if x20 = true then (some (-1)) else (spec_StartOf.l0 k x0 x1 x2 0 0)
def spec_StartOf.l0 : Nat → List (S58) → List (S51) → Int → Int → Int → Option (Int)
  | 0, _, _, _, _, _ => none
  | k + 1, x0, x1, x2, x7, x8 => if x8 < x2 then ((spec_l8Long.f k x0 x1 x8).bind fun t409 => (spec_StartOf.l0 k x0 x1 x2 (wrap64 (x7 + t409)) (wrap64 (x8 + 1)))) else (some x7)
end
def spec_StartOf.f (k : Nat) (l0 : List (S58)) (l1 : List (S51)) (a2 : Int) : Option (Int) := (spec_IsPlan.f k l0 l1).bind fun t407 => (if t407 = true then ((spec_l1In.f a2 0 (wrap64 ((l1.length : Int) - 1))).bind fun t408 => (spec_StartOf.j0 k l0 l1 a2 (!t408))) else (spec_StartOf.j0 k l0 l1 a2 true))
theorem spec_StartOf.mono_l : ∀ k, (∀ y0 y1 y2 y3, LeO (spec_StartOf.j0 k y0 y1 y2 y3) (spec_StartOf.j0 (k + 1) y0 y1 y2 y3)) ∧ (∀ y0 y1 y2 y3 y4, LeO (spec_StartOf.l0 k y0 y1 y2 y3 y4) (spec_StartOf.l0 (k + 1) y0 y1 y2 y3 y4))
  | 0 => ⟨fun _ _ _ _ r h => by simp [spec_StartOf.j0] at h, fun _ _ _ _ _ r h => by simp [spec_StartOf.l0] at h⟩
  | k + 1 => by
    obtain ⟨ih0, ih1⟩ := spec_StartOf.mono_l k
    refine ⟨?_, ?_⟩
    · intro y0 y1 y2 y3
      unfold spec_StartOf.j0
      repeat' first | (with_reducible first | exact LeO.refl _ | exact LeO.none _ | refine LeO.ite ?_ ?_ | refine LeO.bind ?_ (fun _ => ?_) | exact ih0 _ _ _ _ | exact ih1 _ _ _ _ _ | exact spec_IsPlan.mono _ _ _ | exact spec_l8Long.mono _ _ _ _) | exact LeO.none _ | refine LeO.ite ?_ ?_ | refine LeO.bind ?_ (fun _ => ?_) | exact ih0 _ _ _ _ | exact ih1 _ _ _ _ _ | exact spec_IsPlan.mono _ _ _ | exact spec_l8Long.mono _ _ _ _
    · intro y0 y1 y2 y3 y4
      unfold spec_StartOf.l0
      repeat' first | (with_reducible first | exact LeO.refl _ | exact LeO.none _ | refine LeO.ite ?_ ?_ | refine LeO.bind ?_ (fun _ => ?_) | exact ih0 _ _ _ _ | exact ih1 _ _ _ _ _ | exact spec_IsPlan.mono _ _ _ | exact spec_l8Long.mono _ _ _ _) | exact LeO.none _ | refine LeO.ite ?_ ?_ | refine LeO.bind ?_ (fun _ => ?_) | exact ih0 _ _ _ _ | exact ih1 _ _ _ _ _ | exact spec_IsPlan.mono _ _ _ | exact spec_l8Long.mono _ _ _ _
theorem spec_StartOf.mono : ∀ a0 a1 a2 k, LeO (spec_StartOf.f k a0 a1 a2) (spec_StartOf.f (k + 1) a0 a1 a2) := by
  intro a0 a1 a2 k
  obtain ⟨ih0, ih1⟩ := spec_StartOf.mono_l k
  unfold spec_StartOf.f
  repeat' first | (with_reducible first | exact LeO.refl _ | exact LeO.none _ | refine LeO.ite ?_ ?_ | refine LeO.bind ?_ (fun _ => ?_) | exact ih0 _ _ _ _ | exact ih1 _ _ _ _ _ | exact spec_IsPlan.mono _ _ _ | exact spec_l8Long.mono _ _ _ _) | exact LeO.none _ | refine LeO.ite ?_ ?_ | refine LeO.bind ?_ (fun _ => ?_) | exact ih0 _ _ _ _ | exact ih1 _ _ _ _ _ | exact spec_IsPlan.mono _ _ _ | exact spec_l8Long.mono _ _ _ _
set_option maxHeartbeats 8000000 in
set_option maxRecDepth 100000 in
theorem spec_StartOf.calls (k : Nat) (A0 : Option Addr) (c0 : Nat) (l0 : List (S58)) (A1 : Option Addr) (c1 : Nat) (l1 : List (S51)) (a2 : Int) (r : Int) (w : World) (hr0 : Kd.C k58 w A0 l0.length l0) (hc0 : l0.length ≤ c0) (hr1 : Kd.C k51 w A1 l1.length l1) (hc1 : l1.length ≤ c1) (h : spec_StartOf.f k l0 l1 a2 = some r) :
    Calls Try.prog 25 #[.slice A0 l0.length c0, .slice A1 l1.length c1, .int .i64 a2] w fun e w' => e = .returned (.int .i64 r) ∧ Below w.heap.size w w' := by
  have HR0 := Aside0.mk hr0
  have HC0 := Aside0.mk hc0
  clear hr0 hc0
  have HR1 := Aside0.mk hr1
  have HC1 := Aside0.mk hc1
  clear hr1 hc1
  have HB := Aside0.mk (Below.refl w.heap.size w)
  have H : ((spec_IsPlan.f k l0 l1).bind fun t407 => (if t407 = true then ((spec_l1In.f a2 0 (wrap64 ((l1.length : Int) - 1))).bind fun t408 => (spec_StartOf.j0 k l0 l1 a2 (!t408))) else (spec_StartOf.j0 k l0 l1 a2 true))) = some r := h
  clear h
  have HC4 := Aside0.mk H
  clear H
  go_enter Try.func25, Try.ntmps25
  go_upto_region 1 with (fail)
  go_cut [20] (fun v20 wc => ∃ (kq : Nat) (x20_3 : Bool), v20 = .bool x20_3 ∧ Aside0 (spec_StartOf.j0 kq l0 l1 a2 x20_3 = some r) ∧ Aside0 (kq ≤ k) ∧ Aside0 (Below w.heap.size w wc))
  case first =>
    have H := HC4.out
    clear HC4
    obtain ⟨t407, A5, H⟩ := bindE H
    try dsimp only at H
    by_cases c6 : t407 = true
    · subst c6
      have H1 : ((spec_l1In.f a2 0 (wrap64 ((l1.length : Int) - 1))).bind fun t408 => (spec_StartOf.j0 k l0 l1 a2 (!t408))) = some r := by rw [if_pos rfl] at H; exact H
      clear H
      have H := H1
      clear H1
      obtain ⟨t408, A7, H⟩ := bindE H
      try dsimp only at H
      have H' := Aside0.mk H
      clear H
      go_wp2_with (first | ((with_reducible refine gate_callee (f := 17) rfl ?_); refine gL (some 11) Try.func17 #[.slice A0 l0.length c0, .slice A1 l1.length c1] ?_; (with_reducible refine (spec_IsPlan.calls k _ _ l0 _ _ l1 true _ ?side1 ?side2 ?side3 ?side4 A5.out).mono ?_); (case side1 => exact cB HR0); (case side2 => exact HC0.out); (case side3 => exact cB HR1); (case side4 => exact HC1.out); rintro e w8 ⟨rfl, hb⟩; refine ⟨_, rfl, ?_⟩; replace HB := Aside0.mk (below_step bA hb); (try clear hb); (try clear hb2); (try clear hk); (try clear hi)) | (go_at_call 51; (with_reducible refine (spec_l1In.calls a2 0 (wrap64 ((l1.length : Int) - 1)) t408 _ A7.out).mono ?_); rintro e w' ⟨rfl, ⟨nd, rfl⟩⟩))
      go_meet
      case rel => exact ⟨_, (!t408), rS, H', ⟨by first | omega | exact Nat.le_refl _⟩, ⟨bA⟩⟩
    · replace c6 := Bool.eq_false_iff.mpr c6
      subst c6
      have H1 : (spec_StartOf.j0 k l0 l1 a2 true) = some r := by rw [if_neg (show ¬ (false = true) by decide)] at H; exact H
      clear H
      have H := H1
      clear H1
      have H' := Aside0.mk H
      clear H
      go_wp2_with (first | ((with_reducible refine gate_callee (f := 17) rfl ?_); refine gL (some 11) Try.func17 #[.slice A0 l0.length c0, .slice A1 l1.length c1] ?_; (with_reducible refine (spec_IsPlan.calls k _ _ l0 _ _ l1 false _ ?side1 ?side2 ?side3 ?side4 A5.out).mono ?_); (case side1 => exact cB HR0); (case side2 => exact HC0.out); (case side3 => exact cB HR1); (case side4 => exact HC1.out); rintro e w9 ⟨rfl, hb⟩; refine ⟨_, rfl, ?_⟩; replace HB := Aside0.mk (below_step bA hb); (try clear hb); (try clear hb2); (try clear hk); (try clear hi)))
      go_meet
      case rel => exact ⟨_, (true), rS, H', ⟨by first | omega | exact Nat.le_refl _⟩, ⟨bA⟩⟩
  case rest =>
    clear HC4
    try clear c1
    try clear c2
    try clear p2
    try clear c6
    try clear p6
    obtain ⟨kq, x20_3, rfl, HA, HJ3, HB⟩ := hcut
    cases kq with
    | zero => exact absurd HA.out (by simp [spec_StartOf.j0])
    | succ kj3 =>
      have H := HA.out
      clear HA
      simp only [spec_StartOf.j0] at H
      by_cases c10 : x20_3 = true
      · subst c10
        have H1 : (some (-1)) = some r := by rw [if_pos rfl] at H; exact H
        clear H
        have H := H1
        clear H1
        obtain rfl := Option.some.inj H
        go_wp2
        go_ret
        exact ⟨rA, bA⟩
      · replace c10 := Bool.eq_false_iff.mpr c10
        subst c10
        have H1 : (spec_StartOf.l0 kj3 l0 l1 a2 0 0) = some r := by rw [if_neg (show ¬ (false = true) by decide)] at H; exact H
        clear H
        have H := H1
        clear H1
        have H' := Aside0.mk H
        clear H
        go_wp2
        go_loopg [7, 8] kj3 (fun kq v7 v8 w' => ∃ (x7_2 : Int) (x8_2 : Int), v7 = .int .i64 x7_2 ∧ v8 = .int .i64 x8_2 ∧ Aside0 (spec_StartOf.l0 kq l0 l1 a2 x7_2 x8_2 = some r) ∧ Aside0 (kq ≤ kj3) ∧ Aside0 (Below w.heap.size w w'))
        case atStart => exact ⟨(0), (0), rS, rS, H', ⟨Nat.le_refl _⟩, ⟨bA⟩⟩
        case round =>
          clear H'
          try clear c1
          try clear c2
          try clear p2
          try clear c6
          try clear p6
          try clear c10
          try clear p2
          try clear p6
          obtain ⟨x7_2, x8_2, rfl, rfl, HA, HK2, HB⟩ := hrel
          cases gk with
          | zero => exact absurd HA.out (by simp [spec_StartOf.l0])
          | succ k2 =>
            have H := HA.out
            clear HA
            simp only [spec_StartOf.l0] at H
            by_cases c11 : x8_2 < a2
            · rw [if_pos c11] at H
              have c11b0 : decide (x8_2 < a2) = true := decide_eq_true c11
              clear c11
              obtain ⟨t409, A12, H⟩ := bindE H
              try dsimp only at H
              have H' := Aside0.mk H
              clear H
              go_wp2_with (first | ((with_reducible refine gate_callee (f := 64) rfl ?_); refine gL (some 30) Try.func64 #[.slice A0 l0.length c0, .slice A1 l1.length c1, .int .i64 x8_2] ?_; (with_reducible refine (spec_l8Long.calls k2 _ _ l0 _ _ l1 x8_2 t409 _ ?side1 ?side2 ?side3 ?side4 A12.out).mono ?_); (case side1 => exact cB HR0); (case side2 => exact HC0.out); (case side3 => exact cB HR1); (case side4 => exact HC1.out); rintro e w13 ⟨rfl, hb⟩; refine ⟨_, rfl, ?_⟩; replace HB := Aside0.mk (below_step bA hb); (try clear hb); (try clear hb2); (try clear hk); (try clear hi)))
              go_roundg k2
              case measure => have := HJ3.out; have := HK2.out; omega
              case rel => exact ⟨(wrap64 (x7_2 + t409)), (wrap64 (x8_2 + 1)), rS, rS, H', ⟨by have := HJ3.out; have := HK2.out; omega⟩, ⟨bA⟩⟩
            · rw [if_neg c11] at H
              have c11b0 : decide (x8_2 < a2) = false := decide_eq_false c11
              clear c11
              obtain rfl := Option.some.inj H
              go_wp2
              go_ret
              exact ⟨rA, bA⟩

end Go.Proofs.Ytbpnbflfpgakmaa.P
