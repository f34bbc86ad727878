/- Printed by myprint.py (wip/tools) over the kit's print: what Go's functions compute, and that they do. Lean checks it. -/
import Derived.Test.YtbpnbflfpgakmaaF0
import Derived.Test.YtbpnbflfpgakmaaFI01
import Derived.Test.YtbpnbflfpgakmaaFI05
import Derived.Test.YtbpnbflfpgakmaaFI06
import Derived.Test.YtbpnbflfpgakmaaFI07
namespace Go.Proofs.Ytbpnbflfpgakmaa.P
open Go.RowKit Go.Proofs.YtbpnbflfpgakmaaW.PrintWords Go.Proofs.YtbpnbflfpgakmaaW.PrintLast Go.Proofs.YtbpnbflfpgakmaaW.PrintMore Go.Proofs.Ytbpnbflfpgakmaa.Sq
attribute [local go_sem] max2_int min2_int max_two min_two max_three min_three max_four min_four
set_option linter.unusedVariables false
set_option linter.unusedSimpArgs false

/-! ### impl_LeastGreen: function 60 -/
def impl_LeastGreen.l0 : Nat → List (S58) → List Int → Int → Int → Option (Int)
  | 0, _, _, _, _ => none
  | k + 1, x0, x8, x9, x10 => if x10 < x9 then (if 0 ≤ x10 then (if x10 < (x8.length : Int) then ((impl_FindPath.f x0 (rd x8 x10)).bind fun t245 => (if t245 ≥ 0 then (if 0 ≤ t245 then (if t245 < (x0.length : Int) then (if ((rd_T58 x0 t245).f1) = 2 then (some 7) else (impl_LeastGreen.l0 k x0 x8 x9 (wrap64 (x10 + 1)))) else (none)) else (none)) else (impl_LeastGreen.l0 k x0 x8 x9 (wrap64 (x10 + 1))))) else (none)) else (none)) else (some 5)
def impl_LeastGreen.f (k : Nat) (l0 : List (S58)) (l1 : List Int) : Option (Int) := impl_LeastGreen.l0 k l0 l1 (l1.length : Int) 0
theorem impl_LeastGreen.mono_l : ∀ k, (∀ y0 y1 y2 y3, LeO (impl_LeastGreen.l0 k y0 y1 y2 y3) (impl_LeastGreen.l0 (k + 1) y0 y1 y2 y3))
  | 0 => fun _ _ _ _ r h => by simp [impl_LeastGreen.l0] at h
  | k + 1 => by
    have ih0 := impl_LeastGreen.mono_l k
    · intro y0 y1 y2 y3
      unfold impl_LeastGreen.l0
      repeat' first | (with_reducible first | exact LeO.refl _ | exact LeO.none _ | refine LeO.ite ?_ ?_ | refine LeO.bind ?_ (fun _ => ?_) | exact ih0 _ _ _ _) | exact LeO.none _ | refine LeO.ite ?_ ?_ | refine LeO.bind ?_ (fun _ => ?_) | exact ih0 _ _ _ _
theorem impl_LeastGreen.mono : ∀ a0 a1 k, LeO (impl_LeastGreen.f k a0 a1) (impl_LeastGreen.f (k + 1) a0 a1) := by
  intro a0 a1 k
  have ih0 := impl_LeastGreen.mono_l k
  unfold impl_LeastGreen.f
  repeat' first | (with_reducible first | exact LeO.refl _ | exact LeO.none _ | refine LeO.ite ?_ ?_ | refine LeO.bind ?_ (fun _ => ?_) | exact ih0 _ _ _ _) | exact LeO.none _ | refine LeO.ite ?_ ?_ | refine LeO.bind ?_ (fun _ => ?_) | exact ih0 _ _ _ _
set_option maxHeartbeats 8000000 in
set_option maxRecDepth 100000 in
theorem impl_LeastGreen.calls (k : Nat) (A0 : Option Addr) (c0 : Nat) (l0 : List (S58)) (A1 : Option Addr) (c1 : Nat) (l1 : List Int) (r : Int) (w : World) (hr0 : Kd.C k58 w A0 l0.length l0) (hc0 : l0.length ≤ c0) (hr1 : Kd.C (Kd.int .i64) w A1 l1.length l1) (hc1 : l1.length ≤ c1) (h : impl_LeastGreen.f k l0 l1 = some r) :
    Calls Try.prog 60 #[.slice A0 l0.length c0, .slice A1 l1.length c1] w fun e w' => e = .returned (.int .i64 r) ∧ Below w.heap.size w w' := by
  have HR0 := Aside0.mk hr0
  have HC0 := Aside0.mk hc0
  clear hr0 hc0
  have HR1 := Aside0.mk hr1
  have HC1 := Aside0.mk hc1
  clear hr1 hc1
  have HB := Aside0.mk (Below.refl w.heap.size w)
  have H : (impl_LeastGreen.l0 k l0 l1 (l1.length : Int) 0) = some r := h
  clear h
  have H' := Aside0.mk H
  clear H
  go_enter Try.func60, Try.ntmps60
  go_wp2
  go_loopg [10] k (fun kq v10 w' => ∃ (x10_1 : Int), v10 = .int .i64 x10_1 ∧ Aside0 (impl_LeastGreen.l0 kq l0 l1 (l1.length : Int) x10_1 = some r) ∧ Aside0 (kq ≤ k) ∧ Aside0 (Below w.heap.size w w'))
  case atStart => exact ⟨(0), rS, H', ⟨Nat.le_refl _⟩, ⟨bA⟩⟩
  case round =>
    clear H'
    try clear c1
    try clear p2
    obtain ⟨x10_1, rfl, HA, HK1, HB⟩ := hrel
    cases gk with
    | zero => exact absurd HA.out (by simp [impl_LeastGreen.l0])
    | succ k1 =>
      have H := HA.out
      clear HA
      simp only [impl_LeastGreen.l0] at H
      by_cases c3 : x10_1 < (l1.length : Int)
      · rw [if_pos c3] at H
        have c3b0 : decide (x10_1 < (l1.length : Int)) = true := decide_eq_true c3
        clear c3
        have c4 : 0 ≤ x10_1 := ifN H
        replace H := ifT H
        have c4b0 : decide (0 ≤ x10_1) = true := decide_eq_true c4
        clear c4
        have c5 : x10_1 < (l1.length : Int) := ifN H
        replace H := ifT H
        have c5b0 : decide (x10_1 < (l1.length : Int)) = true := decide_eq_true c5
        clear c5
        obtain ⟨t245, A6, H⟩ := bindE H
        try dsimp only at H
        by_cases c7 : t245 ≥ 0
        · rw [if_pos c7] at H
          have c7b0 : decide (0 ≤ t245) = true := decide_eq_true c7
          clear c7
          have c8 : 0 ≤ t245 := ifN H
          replace H := ifT H
          have c8b0 : decide (0 ≤ t245) = true := decide_eq_true c8
          clear c8
          have c9 : t245 < (l0.length : Int) := ifN H
          replace H := ifT H
          have c9b0 : decide (t245 < (l0.length : Int)) = true := decide_eq_true c9
          clear c9
          by_cases c10 : ((rd_T58 l0 t245).f1) = 2
          · rw [if_pos c10] at H
            have c10b0 : (((rd_T58 l0 t245).f1) == 2) = true := beq_iff_eq.mpr c10
            have c10b1 : (((rd_T58 l0 t245).f1) != 2) = false := bne_eq_false_iff_eq.mpr c10
            clear c10
            obtain rfl := Option.some.inj H
            have p244 : 0 ≤ (x10_1 : Int) := dA
            have q244 : x10_1 < (l1.length : Int) := dA
            obtain ⟨ad244, e244, hx244_0⟩ := Kd.at_int HR1.out x10_1 p244 q244
            cases e244
            replace hx244_0 := hC HB hx244_0
            replace p244 := eq_true p244
            replace q244 := eq_true q244
            go_wp2_with (first | ((with_reducible refine gate_callee (f := 70) rfl ?_); refine gL (some 16) Try.func70 #[.slice A0 l0.length c0, .int .i64 (rd l1 x10_1)] ?_; (with_reducible refine (impl_FindPath.calls _ _ l0 (rd l1 x10_1) t245 _ ?side1 ?side2 A6.out).mono ?_); (case side1 => exact cB HR0); (case side2 => exact HC0.out); rintro e w11 ⟨rfl, hb⟩; refine ⟨_, rfl, ?_⟩; replace HB := Aside0.mk (below_step bA hb); (try clear hb); (try clear hb2); (try clear hk); (try clear hi); have p246 : 0 ≤ (t245 : Int) := dA; have q246 : t245 < (l0.length : Int) := dA; obtain ⟨ad246, e246, hx246_0, hx246_1, hx246_2, hx246_3⟩ := at_T58 HR0.out t245 p246 q246; cases e246; replace hx246_0 := hC HB hx246_0; replace hx246_1 := hC HB hx246_1; replace hx246_2 := hC HB hx246_2; replace hx246_3 := hC HB hx246_3; replace p246 := eq_true p246; replace q246 := eq_true q246))
            go_ret
            exact ⟨rA, bA⟩
          · rw [if_neg c10] at H
            have c10b0 : (((rd_T58 l0 t245).f1) == 2) = false := beq_eq_false_iff_ne.mpr c10
            have c10b1 : (((rd_T58 l0 t245).f1) != 2) = true := bne_iff_ne.mpr c10
            have H' := Aside0.mk H
            clear H
            have p244 : 0 ≤ (x10_1 : Int) := dA
            have q244 : x10_1 < (l1.length : Int) := dA
            obtain ⟨ad244, e244, hx244_0⟩ := Kd.at_int HR1.out x10_1 p244 q244
            cases e244
            replace hx244_0 := hC HB hx244_0
            replace p244 := eq_true p244
            replace q244 := eq_true q244
            go_wp2_with (first | ((with_reducible refine gate_callee (f := 70) rfl ?_); refine gL (some 16) Try.func70 #[.slice A0 l0.length c0, .int .i64 (rd l1 x10_1)] ?_; (with_reducible refine (impl_FindPath.calls _ _ l0 (rd l1 x10_1) t245 _ ?side1 ?side2 A6.out).mono ?_); (case side1 => exact cB HR0); (case side2 => exact HC0.out); rintro e w12 ⟨rfl, hb⟩; refine ⟨_, rfl, ?_⟩; replace HB := Aside0.mk (below_step bA hb); (try clear hb); (try clear hb2); (try clear hk); (try clear hi); have p246 : 0 ≤ (t245 : Int) := dA; have q246 : t245 < (l0.length : Int) := dA; obtain ⟨ad246, e246, hx246_0, hx246_1, hx246_2, hx246_3⟩ := at_T58 HR0.out t245 p246 q246; cases e246; replace hx246_0 := hC HB hx246_0; replace hx246_1 := hC HB hx246_1; replace hx246_2 := hC HB hx246_2; replace hx246_3 := hC HB hx246_3; replace p246 := eq_true p246; replace q246 := eq_true q246))
            go_roundg k1
            case measure => have := HK1.out; omega
            case rel => exact ⟨(wrap64 (x10_1 + 1)), rS, H', ⟨by have := HK1.out; omega⟩, ⟨bA⟩⟩
        · rw [if_neg c7] at H
          have c7b0 : decide (0 ≤ t245) = false := decide_eq_false c7
          clear c7
          have H' := Aside0.mk H
          clear H
          have p244 : 0 ≤ (x10_1 : Int) := dA
          have q244 : x10_1 < (l1.length : Int) := dA
          obtain ⟨ad244, e244, hx244_0⟩ := Kd.at_int HR1.out x10_1 p244 q244
          cases e244
          replace hx244_0 := hC HB hx244_0
          replace p244 := eq_true p244
          replace q244 := eq_true q244
          go_wp2_with (first | ((with_reducible refine gate_callee (f := 70) rfl ?_); refine gL (some 16) Try.func70 #[.slice A0 l0.length c0, .int .i64 (rd l1 x10_1)] ?_; (with_reducible refine (impl_FindPath.calls _ _ l0 (rd l1 x10_1) t245 _ ?side1 ?side2 A6.out).mono ?_); (case side1 => exact cB HR0); (case side2 => exact HC0.out); rintro e w13 ⟨rfl, hb⟩; refine ⟨_, rfl, ?_⟩; replace HB := Aside0.mk (below_step bA hb); (try clear hb); (try clear hb2); (try clear hk); (try clear hi)))
          go_roundg k1
          case measure => have := HK1.out; omega
          case rel => exact ⟨(wrap64 (x10_1 + 1)), rS, H', ⟨by have := HK1.out; omega⟩, ⟨bA⟩⟩
      · rw [if_neg c3] at H
        have c3b0 : decide (x10_1 < (l1.length : Int)) = false := decide_eq_false c3
        clear c3
        obtain rfl := Option.some.inj H
        go_wp2
        go_ret
        exact ⟨rA, bA⟩

/-! ### impl_IsPlan: function 20 -/
def impl_IsPlan.l0 : Nat → List (S58) → List (List Int) → List (S51) → Int → Int → Option (Bool)
  | 0, _, _, _, _, _ => none
  | k + 1, x0, x5, x13, x14, x15 => if x15 < x14 then (if 0 ≤ x15 then (if x15 < (x13.length : Int) then (if (((rd_T51 x13 x15).f0).length : Int) = 0 then (some false) else ((impl_IsTogether.f k x0 ((rd_T51 x13 x15).f0)).bind fun t260 => (if t260 = true then ((impl_LeastGreen.f k x0 ((rd_T51 x13 x15).f0)).bind fun t261 => ((impl_InRange.f ((rd_T51 x13 x15).f1) t261 60).bind fun t262 => (if t262 = true then (if x5.length < 5864062014805 then (impl_IsPlan.l0 k x0 (x5 ++ [(rd_T51 x13 x15).f0]) x13 x14 (wrap64 (x15 + 1))) else (none)) else (some false)))) else (some false)))) else (none)) else (none)) else ((impl_Covers.f k x0 x5).bind fun t257 => (some t257))
def impl_IsPlan.f (k : Nat) (l0 : List (S58)) (l1 : List (S51)) : Option (Bool) := (impl_InRange.f (l1.length : Int) 1 6).bind fun t253 => (if t253 = true then (impl_IsPlan.l0 k l0 (([] : List (List Int))) l1 (l1.length : Int) 0) else (some false))
theorem impl_IsPlan.mono_l : ∀ k, (∀ y0 y1 y2 y3 y4, LeO (impl_IsPlan.l0 k y0 y1 y2 y3 y4) (impl_IsPlan.l0 (k + 1) y0 y1 y2 y3 y4))
  | 0 => fun _ _ _ _ _ r h => by simp [impl_IsPlan.l0] at h
  | k + 1 => by
    have ih0 := impl_IsPlan.mono_l k
    · intro y0 y1 y2 y3 y4
      unfold impl_IsPlan.l0
      repeat' first | (with_reducible first | exact LeO.refl _ | exact LeO.none _ | refine LeO.ite ?_ ?_ | refine LeO.bind ?_ (fun _ => ?_) | exact ih0 _ _ _ _ _ | exact impl_Covers.mono _ _ _ | exact impl_IsTogether.mono _ _ _ | exact impl_LeastGreen.mono _ _ _) | exact LeO.none _ | refine LeO.ite ?_ ?_ | refine LeO.bind ?_ (fun _ => ?_) | exact ih0 _ _ _ _ _ | exact impl_Covers.mono _ _ _ | exact impl_IsTogether.mono _ _ _ | exact impl_LeastGreen.mono _ _ _
theorem impl_IsPlan.mono : ∀ a0 a1 k, LeO (impl_IsPlan.f k a0 a1) (impl_IsPlan.f (k + 1) a0 a1) := by
  intro a0 a1 k
  have ih0 := impl_IsPlan.mono_l k
  unfold impl_IsPlan.f
  repeat' first | (with_reducible first | exact LeO.refl _ | exact LeO.none _ | refine LeO.ite ?_ ?_ | refine LeO.bind ?_ (fun _ => ?_) | exact ih0 _ _ _ _ _ | exact impl_Covers.mono _ _ _ | exact impl_IsTogether.mono _ _ _ | exact impl_LeastGreen.mono _ _ _) | exact LeO.none _ | refine LeO.ite ?_ ?_ | refine LeO.bind ?_ (fun _ => ?_) | exact ih0 _ _ _ _ _ | exact impl_Covers.mono _ _ _ | exact impl_IsTogether.mono _ _ _ | exact impl_LeastGreen.mono _ _ _
def impl_IsPlan.T7 : Bool × List (List Nat × List Nat) := (true, [([], []), ([0], [0]), ([1], [1]), ([2], [2]), ([3], [3]), ([4], [4]), ([4], [4]), ([6, 4], [4, 6]), ([5, 7, 4, 4], [4, 5, 7]), ([8, 4], [4, 8]), ([4, 9], [4, 9]), ([10, 8], [10]), ([11], [11]), ([12, 11], [11, 12]), ([11], [11]), ([11], [11]), ([15, 11], [11, 15]), ([14, 16, 11, 11], [11, 14, 16]), ([13, 17, 17, 11], [11, 13, 17]), ([18, 11], [11, 18]), ([11, 19], [11, 19])])
def impl_IsPlan.B7 : List Nat := [0, 1, 3, 7, 15, 31, 31, 95, 255, 511, 1023, 2047, 4095, 8191, 4095, 4095, 36863, 118783, 262143, 524287, 1048575]
theorem impl_IsPlan.tab7 : rtab .any (opsOf Try.f20 7) = impl_IsPlan.T7 := by kernel_rfl
theorem impl_IsPlan.bits7 : waitsOk impl_IsPlan.T7.2 impl_IsPlan.B7 = true := by kernel_rfl
set_option maxHeartbeats 8000000 in
set_option maxRecDepth 100000 in
theorem impl_IsPlan.calls (k : Nat) (A0 : Option Addr) (c0 : Nat) (l0 : List (S58)) (P1_ : Nat → Prop) (A1 : Option Addr) (c1 : Nat) (l1 : List (S51)) (r : Bool) (w : World) (hr0 : Kd.C k58 w A0 l0.length l0) (hc0 : l0.length ≤ c0) (hs1 : Kd.V k51 51 w w.heap.size (fun k_ => P1_ k_) (.slice A1 l1.length c1) l1) (h : impl_IsPlan.f k l0 l1 = some r) :
    Calls Try.prog 20 #[.slice A0 l0.length c0, .slice A1 l1.length c1] w fun e w' => e = .returned (.bool r) ∧ Below w.heap.size w w' := by
  have hu51 := Try.underlying51
  have HR0 := Aside0.mk hr0
  have HC0 := Aside0.mk hc0
  clear hr0 hc0
  have HO1 := Aside0.mk (show Kd.V k51 51 w w.heap.size (fun k_ => (P1_ k_ ∨ w.heap.size ≤ k_)) (.slice A1 l1.length c1) l1 from Kd.V_mono hs1 (fun k_ hk => .inl hk))
  have HB := Aside0.mk (Below.refl w.heap.size w)
  have H : ((impl_InRange.f (l1.length : Int) 1 6).bind fun t253 => (if t253 = true then (impl_IsPlan.l0 k l0 (([] : List (List Int))) l1 (l1.length : Int) 0) else (some false))) = some r := h
  clear h
  obtain ⟨t253, A3, H⟩ := bindE H
  try dsimp only at H
  by_cases c4 : t253 = true
  · subst c4
    have H1 : (impl_IsPlan.l0 k l0 (([] : List (List Int))) l1 (l1.length : Int) 0) = some r := by rw [if_pos rfl] at H; exact H
    clear H
    have H := H1
    clear H1
    obtain ⟨y254, hy254⟩ : ∃ y_ : List (List Int), y_ = (([] : List (List Int))) := ⟨_, rfl⟩
    replace H : (impl_IsPlan.l0 k l0 y254 l1 (l1.length : Int) 0) = some r := by first | (rw [hy254]; with_reducible exact H) | (have H2_ := (Option.bind_some _ _).symm.trans H; rw [hy254]; with_reducible exact H2_) | (have H2_ := (Option.bind_some _ _).symm.trans H; with_reducible exact H2_) | with_reducible exact H | (rw [hy254]; exact H) | exact H
    have Ny254 := Aside0.mk hy254
    clear hy254
    have H' := Aside0.mk H
    clear H
    go_enter Try.func20, Try.ntmps20
    go_wp2_with (first | ((with_reducible refine gate_callee (f := 58) rfl ?_); refine gL (some 10) Try.func58 #[.int .i64 (l1.length : Int), .int .i64 1, .int .i64 6] ?_; (with_reducible refine (impl_InRange.calls (l1.length : Int) 1 6 true _ A3.out).mono ?_); rintro e w' ⟨rfl, ⟨nd, rfl⟩⟩; refine ⟨_, rfl, ?_⟩) | ((with_reducible refine gate_dst (N := 12) rfl ?_); refine Kd.N_lit (Kd.slice 3 (Kd.int .i64)) _ 41 ?hg (N' := 12) ?hd (xs := ([] : List (List Int))) (inner := []) (ok := (fun k_ => (P1_ k_ ∨ w.heap.size ≤ k_))) (okp := (fun k_ => (P1_ k_ ∨ w.heap.size ≤ k_))) ?hr ?hp (fun _ hk => hk) ((show ∀ k_, w.heap.size ≤ k_ → (fun k_ => (P1_ k_ ∨ w.heap.size ≤ k_)) k_ from fun k_ hk => (.inr (Nat.le_trans (below_size bA) hk))) _ (Nat.le_refl _)) (Below.refl _ _) (Nat.le_refl _) (by simp) ?_; (case hd => rfl); (case hg => rfl); (case hr => first | (go_simp; done) | (go_simp; rfl)); (case hp => exact (Reps.none _ _)); intro v255 w5 ho6 hb hg_ hnew_; clear hg_ hnew_; (first | rw [← Ny254.out] at ho6 | (simp only [Int.reduceToNat] at ho6; rw [← Ny254.out] at ho6)); have n0_ := Aside0.mk (Kd.V_elder' (by (with_reducible repeat (first | apply Kd.V_alloc | apply Kd.V_drewN | apply Kd.V_drew)); exact HO1.out) (Kd.N_base ho6) hb); have n1_ := Aside0.mk (Kd.N_lower ho6 (below_size bA)); have n2_ := Aside0.mk (below_step bA hb); clear HO1; clear HB; have HO1 := n0_; have HO256 := n1_; have HB := n2_; clear n0_ n1_ n2_; clear hb ho6))
    go_loopg [5, 15] k (fun kq v5 v15 w' => ∃ (x5_1 : List (List Int)) (x15_1 : Int), v15 = .int .i64 x15_1 ∧ Aside0 (impl_IsPlan.l0 kq l0 x5_1 l1 (l1.length : Int) x15_1 = some r) ∧ Aside0 (kq ≤ k) ∧ Aside0 (Kd.N (Kd.slice 3 (Kd.int .i64)) 41 w' w.heap.size (fun k_ => (P1_ k_ ∨ w.heap.size ≤ k_)) v5 x5_1) ∧ Aside0 (Kd.V k51 51 w' w.heap.size (fun k_ => (P1_ k_ ∨ w.heap.size ≤ k_) ∧ some k_ ≠ (v5 : Value).ownBlock) (.slice A1 l1.length c1) l1) ∧ Aside0 (Below w.heap.size w w'))
    case atStart => exact ⟨(y254), (0), rS, H', ⟨Nat.le_refl _⟩, ⟨by (with_reducible repeat (first | apply Kd.N_alloc | apply Kd.N_drewN | apply Kd.N_drew)); exact HO256.out⟩, ⟨by (with_reducible repeat (first | apply Kd.V_alloc | apply Kd.V_drewN | apply Kd.V_drew)); exact HO1.out⟩, ⟨bA⟩⟩
    case round =>
      clear H'
      try clear c1
      try clear c2
      try clear p2
      try clear c4
      try clear c5
      obtain ⟨x5_1, x15_1, rfl, HA, HK1, HO_5, HO_13, HB⟩ := hrel
      cases gk with
      | zero => exact absurd HA.out (by simp [impl_IsPlan.l0])
      | succ k1 =>
        have H := HA.out
        clear HA
        simp only [impl_IsPlan.l0] at H
        by_cases c7 : x15_1 < (l1.length : Int)
        · rw [if_pos c7] at H
          have c7b0 : decide (x15_1 < (l1.length : Int)) = true := decide_eq_true c7
          clear c7
          have c8 : 0 ≤ x15_1 := ifN H
          replace H := ifT H
          have c8b0 : decide (0 ≤ x15_1) = true := decide_eq_true c8
          clear c8
          have c9 : x15_1 < (l1.length : Int) := ifN H
          replace H := ifT H
          have c9b0 : decide (x15_1 < (l1.length : Int)) = true := decide_eq_true c9
          clear c9
          by_cases c10 : (((rd_T51 l1 x15_1).f0).length : Int) = 0
          · rw [if_pos c10] at H
            have c10b0 : ((((rd_T51 l1 x15_1).f0).length : Int) == 0) = true := beq_iff_eq.mpr c10
            have c10b1 : ((((rd_T51 l1 x15_1).f0).length : Int) != 0) = false := bne_eq_false_iff_eq.mpr c10
            clear c10
            obtain rfl := Option.some.inj H
            have p258 : 0 ≤ (x15_1 : Int) := dA
            have q258 : x15_1 < (l1.length : Int) := dA
            obtain ⟨ad258, A258_0, c258_0, e258, hx258_0, hx258_1, hl258_0, hi258_0⟩ := at_T51 (Kd.V_reads' HO_13.out).2.2 x15_1 p258 q258
            cases e258
            obtain ⟨ce258, hce258, hMe258, hcc258⟩ := Kd.V_get HO_13.out z51 x15_1 p258 (by first | exact q258 | exact dA | (have e_ := (Kd.V_reads' HO_13.out).1; omega))
            obtain ⟨ua258_0, uc258_0, rfl, ul258_0, ge258_0⟩ := k51_openF hMe258
            have hv258_0 := hcc258 0 _ rfl
            rw [Nat.add_zero] at hv258_0
            replace hv258_0 := Option.some.inj (hv258_0.symm.trans hx258_0)
            injection hv258_0 with hva_ hvn_ hvc_
            rw [hva_] at ge258_0
            rw [hvc_] at ul258_0
            have HL258_0 := Aside0.mk (show Kd.V (Kd.int .i64) 3 _ w.heap.size _ _ ((rd_T51 l1 x15_1).f0) from Kd.V_mk ul258_0 ge258_0)
            clear hva_ hvn_ hvc_ ge258_0 ul258_0
            clear hcc258 hce258
            have HR258_0 := Aside0.mk hi258_0
            have HC258_0 := Aside0.mk hl258_0
            clear hi258_0 hl258_0
            replace p258 := eq_true p258
            replace q258 := eq_true q258
            try go_wp2_with (first | ((with_reducible refine gate_dst (N := 7) rfl ?_); refine bE (N := 7) (cs := #[.slice none 0 0, .int .i64 0]) (t := 51) ?_; intro gb259 hg w11 hbox hb; have n0_ := Aside0.mk (Kd.N_below (Kd.N_elderB (by (with_reducible repeat (first | apply Kd.N_alloc | apply Kd.N_drewN | apply Kd.N_drew)); exact HO_5.out) gb259 (Nat.le_of_eq hg.symm)) hb); have n1_ := Aside0.mk (Kd.V_below (Kd.V_elderB (by (with_reducible repeat (first | apply Kd.V_alloc | apply Kd.V_drewN | apply Kd.V_drew)); exact HO_13.out) gb259 (Nat.le_of_eq hg.symm)) hb); have n2_ := Aside0.mk (Kd.V_below (Kd.V_elderB (by (with_reducible repeat (first | apply Kd.V_alloc | apply Kd.V_drewN | apply Kd.V_drew)); exact HL258_0.out) gb259 (Nat.le_of_eq hg.symm)) hb); have n3_ := Aside0.mk (Kd.C_below (by repeat (first | (with_reducible exact HR258_0.out) | (with_reducible refine Kd.C_alloc ?_ _) | (with_reducible refine Kd.C_drewN ?_ _) | (with_reducible refine Kd.C_drew ?_) | exact HR258_0.out)) hb); have n4_ := Aside0.mk (below_step bA hb); have n5_ := Aside0.mk (hbox); have n6_ := Aside0.mk ((by rw [hg]; exact (below_size bA) : w.heap.size ≤ gb259)); have n7_ := Aside0.mk ((by rw [hg]; exact (below_size bA) : w.heap.size ≤ gb259)); clear HO_5; clear HO_13; clear HL258_0; clear HR258_0; clear HB; have HO_5 := n0_; have HO_13 := n1_; have HL258_0 := n2_; have HR258_0 := n3_; have HB := n4_; have BK259 := n5_; have GW259 := n6_; have GE259 := n7_; clear n0_ n1_ n2_ n3_ n4_ n5_ n6_ n7_; clear hb hbox hg; obtain ⟨hcz12_0, hcz12_1, hfz12_0, hfz12_1⟩ := blkc2 BK259))
            have n0_ : Aside0 (Kd.N (Kd.slice 3 (Kd.int .i64)) 41 ((w11.setCell ⟨gb259, 0, none⟩ (.slice A258_0 ((rd_T51 l1 x15_1).f0).length c258_0)).setCell ⟨gb259, 1, none⟩ (.int .i64 ((rd_T51 l1 x15_1).f1))) w.heap.size (fun k_ => (P1_ k_ ∨ w.heap.size ≤ k_) ∧ k_ ≠ gb259) u5 x5_1) := ⟨by (with_reducible repeat (first | apply Kd.N_alloc | apply Kd.N_drewN | apply Kd.N_drew)); exact Kd.N_mono (Kd.N_far (p := ⟨gb259, 1, none⟩) (Kd.N_far (p := ⟨gb259, 0, none⟩) (Kd.N_mono HO_5.out (fun k_ hk => (⟨hk, hk.2⟩ : _ ∧ k_ ≠ gb259))) (fun _ hk => hk.2) (.slice A258_0 ((rd_T51 l1 x15_1).f0).length c258_0)) (fun _ hk => hk.2) (.int .i64 ((rd_T51 l1 x15_1).f1))) (fun _ hk => ⟨hk.1.1, hk.1.2⟩)⟩
            have n1_ : Aside0 (Kd.V k51 51 ((w11.setCell ⟨gb259, 0, none⟩ (.slice A258_0 ((rd_T51 l1 x15_1).f0).length c258_0)).setCell ⟨gb259, 1, none⟩ (.int .i64 ((rd_T51 l1 x15_1).f1))) w.heap.size (fun k_ => (P1_ k_ ∨ w.heap.size ≤ k_) ∧ some k_ ≠ (u5 : Value).ownBlock ∧ k_ ≠ gb259) (.slice (some ad258) l1.length c1) l1) := ⟨by (with_reducible repeat (first | apply Kd.V_alloc | apply Kd.V_drewN | apply Kd.V_drew)); exact Kd.V_mono (Kd.V_far (p := ⟨gb259, 1, none⟩) (Kd.V_far (p := ⟨gb259, 0, none⟩) (Kd.V_mono HO_13.out (fun k_ hk => (⟨hk, hk.2⟩ : _ ∧ k_ ≠ gb259))) (fun _ hk => hk.2) (.slice A258_0 ((rd_T51 l1 x15_1).f0).length c258_0)) (fun _ hk => hk.2) (.int .i64 ((rd_T51 l1 x15_1).f1))) (fun _ hk => ⟨hk.1.1.1, ⟨hk.1.1.2, hk.1.2⟩⟩)⟩
            have n2_ : Aside0 (Kd.V (Kd.int .i64) 3 ((w11.setCell ⟨gb259, 0, none⟩ (.slice A258_0 ((rd_T51 l1 x15_1).f0).length c258_0)).setCell ⟨gb259, 1, none⟩ (.int .i64 ((rd_T51 l1 x15_1).f1))) w.heap.size (fun k_ => (P1_ k_ ∨ w.heap.size ≤ k_) ∧ some k_ ≠ (u5 : Value).ownBlock ∧ k_ ≠ gb259) (.slice A258_0 ((rd_T51 l1 x15_1).f0).length c258_0) ((rd_T51 l1 x15_1).f0)) := ⟨by (with_reducible repeat (first | apply Kd.V_alloc | apply Kd.V_drewN | apply Kd.V_drew)); exact Kd.V_mono (Kd.V_far (p := ⟨gb259, 1, none⟩) (Kd.V_far (p := ⟨gb259, 0, none⟩) (Kd.V_mono HL258_0.out (fun k_ hk => (⟨hk, hk.2⟩ : _ ∧ k_ ≠ gb259))) (fun _ hk => hk.2) (.slice A258_0 ((rd_T51 l1 x15_1).f0).length c258_0)) (fun _ hk => hk.2) (.int .i64 ((rd_T51 l1 x15_1).f1))) (fun _ hk => ⟨hk.1.1.1, ⟨hk.1.1.2, hk.1.2⟩⟩)⟩
            have n3_ : Aside0 (((w11.setCell ⟨gb259, 0, none⟩ (.slice A258_0 ((rd_T51 l1 x15_1).f0).length c258_0)).setCell ⟨gb259, 1, none⟩ (.int .i64 ((rd_T51 l1 x15_1).f1))).heap[gb259]? = some (.cells #[.slice A258_0 ((rd_T51 l1 x15_1).f0).length c258_0, .int .i64 ((rd_T51 l1 x15_1).f1)] 51 (0, 0))) := ⟨by (with_reducible repeat (first | refine blk_drewN ?_ _ | refine blk_drew ?_ | refine blk_alloc ?_ _)); refine blk_put (cs := #[.slice A258_0 ((rd_T51 l1 x15_1).f0).length c258_0, .int .i64 0]) ?_ 1 _ rfl; (with_reducible repeat (first | refine blk_drewN ?_ _ | refine blk_drew ?_ | refine blk_alloc ?_ _)); refine blk_put (cs := #[.slice none 0 0, .int .i64 0]) ?_ 0 _ rfl; (with_reducible repeat (first | refine blk_drewN ?_ _ | refine blk_drew ?_ | refine blk_alloc ?_ _)); exact BK259.out⟩
            have n4_ : Aside0 (Below w.heap.size w ((w11.setCell ⟨gb259, 0, none⟩ (.slice A258_0 ((rd_T51 l1 x15_1).f0).length c258_0)).setCell ⟨gb259, 1, none⟩ (.int .i64 ((rd_T51 l1 x15_1).f1)))) := ⟨bG⟩
            (try clear HO_5)
            (try clear HO_13)
            (try clear HL258_0)
            (try clear BK259)
            (try clear HB)
            generalize ((w11.setCell ⟨gb259, 0, none⟩ (.slice A258_0 ((rd_T51 l1 x15_1).f0).length c258_0)).setCell ⟨gb259, 1, none⟩ (.int .i64 ((rd_T51 l1 x15_1).f1))) = w13 at n0_ n1_ n2_ n3_ n4_ ⊢
            have HO_5 := n0_
            have HO_13 := n1_
            have HL258_0 := n2_
            have BK259 := n3_
            have HB := n4_
            clear n0_ n1_ n2_ n3_ n4_
            replace HO_5 := Aside0.mk (Kd.N_drew HO_5.out)
            replace HO_13 := Aside0.mk (Kd.V_drew HO_13.out)
            replace HL258_0 := Aside0.mk (Kd.V_drew HL258_0.out)
            replace BK259 := Aside0.mk (blk_drew BK259.out)
            have HBo := HB
            replace HB := Aside0.mk (below_drew1 HB.out)
            refine start_ (n := 21) (S := fun w' => w'.cell? ⟨gb259, 0, none⟩ = some (.slice A258_0 ((rd_T51 l1 x15_1).f0).length c258_0) ∧ w'.cell? ⟨gb259, 1, none⟩ = some (.int .i64 ((rd_T51 l1 x15_1).f1))) (ds := []) (mb 21 0) (by kernel_rfl) rfl rfl ⟨(blk_cell BK259.out 0).trans rfl, (blk_cell BK259.out 1).trans rfl⟩ (fun hHeld => ?_); refine with_tabW impl_IsPlan.tab7 impl_IsPlan.bits7 (fun HT_ HW_ => ?_)
            generalize w13.drew = w14 at HO_5 HO_13 HL258_0 BK259 HB hHeld ⊢
            refine pA (i := 0) (N := some 19) (mb 21 1) HT_ ?_
            refine tA2 (i := 1) (N := some 20) (mb 21 3) HT_ HW_ hHeld ?_
            refine pA (i := 2) (N := some 21) (mb 21 7) HT_ ?_
            refine pA (i := 3) (N := some 22) (mb 21 15) HT_ ?_
            refine pA (i := 4) (N := some 23) (mb 21 31) HT_ ?_
            refine pU (i := 5) (N := some 24) (mb 21 63) HT_ ?_
            refine pU (i := 6) (N := some 25) (mb 21 127) HT_ ?_
            refine pU (i := 7) (N := some 26) (mb 21 255) HT_ ?_
            refine pU (i := 8) (N := some 27) (mb 21 511) HT_ ?_
            refine pU (i := 9) (N := some 28) (mb 21 1023) HT_ ?_
            refine pA (i := 10) (N := some 29) (mb 21 2047) HT_ ?_
            refine pA (i := 11) (N := some 30) (mb 21 4095) HT_ ?_
            refine pU (i := 12) (N := some 31) (mb 21 8191) HT_ ?_
            refine pU (i := 13) (N := some 32) (mb 21 16383) HT_ ?_
            refine pU (i := 14) (N := some 33) (mb 21 32767) HT_ ?_
            refine pU (i := 15) (N := some 34) (mb 21 65535) HT_ ?_
            refine pU (i := 16) (N := some 35) (mb 21 131071) HT_ ?_
            refine pU (i := 17) (N := some 36) (mb 21 262143) HT_ ?_
            refine pU (i := 18) (N := some 37) (mb 21 524287) HT_ ?_
            refine pU (i := 19) (N := some 38) (mb 21 1048575) HT_ ?_
            refine pA (i := 20) (N := some 39) (mb 21 2097151) HT_ ?_
            refine eA HT_ ?_
            try go_wp2
            go_ret
            exact ⟨rA, bG⟩
          · rw [if_neg c10] at H
            have c10b0 : ((((rd_T51 l1 x15_1).f0).length : Int) == 0) = false := beq_eq_false_iff_ne.mpr c10
            have c10b1 : ((((rd_T51 l1 x15_1).f0).length : Int) != 0) = true := bne_iff_ne.mpr c10
            have c10b2 : ¬ (((rd_T51 l1 x15_1).f0) = []) := fun h_ => c10 (by rw [h_]; rfl)
            obtain ⟨t260, A15, H⟩ := bindE H
            try dsimp only at H
            by_cases c16 : t260 = true
            · subst c16
              have H1 : ((impl_LeastGreen.f k1 l0 ((rd_T51 l1 x15_1).f0)).bind fun t261 => ((impl_InRange.f ((rd_T51 l1 x15_1).f1) t261 60).bind fun t262 => (if t262 = true then (if x5_1.length < 5864062014805 then (impl_IsPlan.l0 k1 l0 (x5_1 ++ [(rd_T51 l1 x15_1).f0]) l1 (l1.length : Int) (wrap64 (x15_1 + 1))) else (none)) else (some false)))) = some r := by rw [if_pos rfl] at H; exact H
              clear H
              have H := H1
              clear H1
              obtain ⟨t261, A17, H⟩ := bindE H
              try dsimp only at H
              obtain ⟨t262, A18, H⟩ := bindE H
              try dsimp only at H
              by_cases c19 : t262 = true
              · subst c19
                have H1 : (if x5_1.length < 5864062014805 then (impl_IsPlan.l0 k1 l0 (x5_1 ++ [(rd_T51 l1 x15_1).f0]) l1 (l1.length : Int) (wrap64 (x15_1 + 1))) else (none)) = some r := by rw [if_pos rfl] at H; exact H
                clear H
                have H := H1
                clear H1
                have c20 : x5_1.length < 5864062014805 := ifN H
                replace H := ifT H
                have LMc20 := Aside0.mk c20
                clear c20
                obtain ⟨y263, hy263⟩ : ∃ y_ : List (List Int), y_ = (x5_1 ++ [(rd_T51 l1 x15_1).f0]) := ⟨_, rfl⟩
                replace H : (impl_IsPlan.l0 k1 l0 y263 l1 (l1.length : Int) (wrap64 (x15_1 + 1))) = some r := by first | (rw [hy263]; with_reducible exact H) | (have H2_ := (Option.bind_some _ _).symm.trans H; rw [hy263]; with_reducible exact H2_) | (have H2_ := (Option.bind_some _ _).symm.trans H; with_reducible exact H2_) | with_reducible exact H | (rw [hy263]; exact H) | exact H
                have Ny263 := Aside0.mk hy263
                clear hy263
                have H' := Aside0.mk H
                clear H
                have p258 : 0 ≤ (x15_1 : Int) := dA
                have q258 : x15_1 < (l1.length : Int) := dA
                obtain ⟨ad258, A258_0, c258_0, e258, hx258_0, hx258_1, hl258_0, hi258_0⟩ := at_T51 (Kd.V_reads' HO_13.out).2.2 x15_1 p258 q258
                cases e258
                obtain ⟨ce258, hce258, hMe258, hcc258⟩ := Kd.V_get HO_13.out z51 x15_1 p258 (by first | exact q258 | exact dA | (have e_ := (Kd.V_reads' HO_13.out).1; omega))
                obtain ⟨ua258_0, uc258_0, rfl, ul258_0, ge258_0⟩ := k51_openF hMe258
                have hv258_0 := hcc258 0 _ rfl
                rw [Nat.add_zero] at hv258_0
                replace hv258_0 := Option.some.inj (hv258_0.symm.trans hx258_0)
                injection hv258_0 with hva_ hvn_ hvc_
                rw [hva_] at ge258_0
                rw [hvc_] at ul258_0
                have HL258_0 := Aside0.mk (show Kd.V (Kd.int .i64) 3 _ w.heap.size _ _ ((rd_T51 l1 x15_1).f0) from Kd.V_mk ul258_0 ge258_0)
                clear hva_ hvn_ hvc_ ge258_0 ul258_0
                clear hcc258 hce258
                have HR258_0 := Aside0.mk hi258_0
                have HC258_0 := Aside0.mk hl258_0
                clear hi258_0 hl258_0
                replace p258 := eq_true p258
                replace q258 := eq_true q258
                try go_wp2_with (first | ((with_reducible refine gate_dst (N := 7) rfl ?_); refine bE (N := 7) (cs := #[.slice none 0 0, .int .i64 0]) (t := 51) ?_; intro gb259 hg w21 hbox hb; have n0_ := Aside0.mk (Kd.N_below (Kd.N_elderB (by (with_reducible repeat (first | apply Kd.N_alloc | apply Kd.N_drewN | apply Kd.N_drew)); exact HO_5.out) gb259 (Nat.le_of_eq hg.symm)) hb); have n1_ := Aside0.mk (Kd.V_below (Kd.V_elderB (by (with_reducible repeat (first | apply Kd.V_alloc | apply Kd.V_drewN | apply Kd.V_drew)); exact HO_13.out) gb259 (Nat.le_of_eq hg.symm)) hb); have n2_ := Aside0.mk (Kd.V_below (Kd.V_elderB (by (with_reducible repeat (first | apply Kd.V_alloc | apply Kd.V_drewN | apply Kd.V_drew)); exact HL258_0.out) gb259 (Nat.le_of_eq hg.symm)) hb); have n3_ := Aside0.mk (Kd.C_below (by repeat (first | (with_reducible exact HR258_0.out) | (with_reducible refine Kd.C_alloc ?_ _) | (with_reducible refine Kd.C_drewN ?_ _) | (with_reducible refine Kd.C_drew ?_) | exact HR258_0.out)) hb); have n4_ := Aside0.mk (below_step bA hb); have n5_ := Aside0.mk (hbox); have n6_ := Aside0.mk ((by rw [hg]; exact (below_size bA) : w.heap.size ≤ gb259)); have n7_ := Aside0.mk ((by rw [hg]; exact (below_size bA) : w.heap.size ≤ gb259)); clear HO_5; clear HO_13; clear HL258_0; clear HR258_0; clear HB; have HO_5 := n0_; have HO_13 := n1_; have HL258_0 := n2_; have HR258_0 := n3_; have HB := n4_; have BK259 := n5_; have GW259 := n6_; have GE259 := n7_; clear n0_ n1_ n2_ n3_ n4_ n5_ n6_ n7_; clear hb hbox hg; obtain ⟨hcz22_0, hcz22_1, hfz22_0, hfz22_1⟩ := blkc2 BK259))
                have n0_ : Aside0 (Kd.N (Kd.slice 3 (Kd.int .i64)) 41 ((w21.setCell ⟨gb259, 0, none⟩ (.slice A258_0 ((rd_T51 l1 x15_1).f0).length c258_0)).setCell ⟨gb259, 1, none⟩ (.int .i64 ((rd_T51 l1 x15_1).f1))) w.heap.size (fun k_ => (P1_ k_ ∨ w.heap.size ≤ k_) ∧ k_ ≠ gb259) u5 x5_1) := ⟨by (with_reducible repeat (first | apply Kd.N_alloc | apply Kd.N_drewN | apply Kd.N_drew)); exact Kd.N_mono (Kd.N_far (p := ⟨gb259, 1, none⟩) (Kd.N_far (p := ⟨gb259, 0, none⟩) (Kd.N_mono HO_5.out (fun k_ hk => (⟨hk, hk.2⟩ : _ ∧ k_ ≠ gb259))) (fun _ hk => hk.2) (.slice A258_0 ((rd_T51 l1 x15_1).f0).length c258_0)) (fun _ hk => hk.2) (.int .i64 ((rd_T51 l1 x15_1).f1))) (fun _ hk => ⟨hk.1.1, hk.1.2⟩)⟩
                have n1_ : Aside0 (Kd.V k51 51 ((w21.setCell ⟨gb259, 0, none⟩ (.slice A258_0 ((rd_T51 l1 x15_1).f0).length c258_0)).setCell ⟨gb259, 1, none⟩ (.int .i64 ((rd_T51 l1 x15_1).f1))) w.heap.size (fun k_ => (P1_ k_ ∨ w.heap.size ≤ k_) ∧ some k_ ≠ (u5 : Value).ownBlock ∧ k_ ≠ gb259) (.slice (some ad258) l1.length c1) l1) := ⟨by (with_reducible repeat (first | apply Kd.V_alloc | apply Kd.V_drewN | apply Kd.V_drew)); exact Kd.V_mono (Kd.V_far (p := ⟨gb259, 1, none⟩) (Kd.V_far (p := ⟨gb259, 0, none⟩) (Kd.V_mono HO_13.out (fun k_ hk => (⟨hk, hk.2⟩ : _ ∧ k_ ≠ gb259))) (fun _ hk => hk.2) (.slice A258_0 ((rd_T51 l1 x15_1).f0).length c258_0)) (fun _ hk => hk.2) (.int .i64 ((rd_T51 l1 x15_1).f1))) (fun _ hk => ⟨hk.1.1.1, ⟨hk.1.1.2, hk.1.2⟩⟩)⟩
                have n2_ : Aside0 (Kd.V (Kd.int .i64) 3 ((w21.setCell ⟨gb259, 0, none⟩ (.slice A258_0 ((rd_T51 l1 x15_1).f0).length c258_0)).setCell ⟨gb259, 1, none⟩ (.int .i64 ((rd_T51 l1 x15_1).f1))) w.heap.size (fun k_ => (P1_ k_ ∨ w.heap.size ≤ k_) ∧ some k_ ≠ (u5 : Value).ownBlock ∧ k_ ≠ gb259) (.slice A258_0 ((rd_T51 l1 x15_1).f0).length c258_0) ((rd_T51 l1 x15_1).f0)) := ⟨by (with_reducible repeat (first | apply Kd.V_alloc | apply Kd.V_drewN | apply Kd.V_drew)); exact Kd.V_mono (Kd.V_far (p := ⟨gb259, 1, none⟩) (Kd.V_far (p := ⟨gb259, 0, none⟩) (Kd.V_mono HL258_0.out (fun k_ hk => (⟨hk, hk.2⟩ : _ ∧ k_ ≠ gb259))) (fun _ hk => hk.2) (.slice A258_0 ((rd_T51 l1 x15_1).f0).length c258_0)) (fun _ hk => hk.2) (.int .i64 ((rd_T51 l1 x15_1).f1))) (fun _ hk => ⟨hk.1.1.1, ⟨hk.1.1.2, hk.1.2⟩⟩)⟩
                have n3_ : Aside0 (((w21.setCell ⟨gb259, 0, none⟩ (.slice A258_0 ((rd_T51 l1 x15_1).f0).length c258_0)).setCell ⟨gb259, 1, none⟩ (.int .i64 ((rd_T51 l1 x15_1).f1))).heap[gb259]? = some (.cells #[.slice A258_0 ((rd_T51 l1 x15_1).f0).length c258_0, .int .i64 ((rd_T51 l1 x15_1).f1)] 51 (0, 0))) := ⟨by (with_reducible repeat (first | refine blk_drewN ?_ _ | refine blk_drew ?_ | refine blk_alloc ?_ _)); refine blk_put (cs := #[.slice A258_0 ((rd_T51 l1 x15_1).f0).length c258_0, .int .i64 0]) ?_ 1 _ rfl; (with_reducible repeat (first | refine blk_drewN ?_ _ | refine blk_drew ?_ | refine blk_alloc ?_ _)); refine blk_put (cs := #[.slice none 0 0, .int .i64 0]) ?_ 0 _ rfl; (with_reducible repeat (first | refine blk_drewN ?_ _ | refine blk_drew ?_ | refine blk_alloc ?_ _)); exact BK259.out⟩
                have n4_ : Aside0 (Below w.heap.size w ((w21.setCell ⟨gb259, 0, none⟩ (.slice A258_0 ((rd_T51 l1 x15_1).f0).length c258_0)).setCell ⟨gb259, 1, none⟩ (.int .i64 ((rd_T51 l1 x15_1).f1)))) := ⟨bG⟩
                (try clear HO_5)
                (try clear HO_13)
                (try clear HL258_0)
                (try clear BK259)
                (try clear HB)
                generalize ((w21.setCell ⟨gb259, 0, none⟩ (.slice A258_0 ((rd_T51 l1 x15_1).f0).length c258_0)).setCell ⟨gb259, 1, none⟩ (.int .i64 ((rd_T51 l1 x15_1).f1))) = w23 at n0_ n1_ n2_ n3_ n4_ ⊢
                have HO_5 := n0_
                have HO_13 := n1_
                have HL258_0 := n2_
                have BK259 := n3_
                have HB := n4_
                clear n0_ n1_ n2_ n3_ n4_
                replace HO_5 := Aside0.mk (Kd.N_drew HO_5.out)
                replace HO_13 := Aside0.mk (Kd.V_drew HO_13.out)
                replace HL258_0 := Aside0.mk (Kd.V_drew HL258_0.out)
                replace BK259 := Aside0.mk (blk_drew BK259.out)
                have HBo := HB
                replace HB := Aside0.mk (below_drew1 HB.out)
                refine start_ (n := 21) (S := fun w' => w'.cell? ⟨gb259, 0, none⟩ = some (.slice A258_0 ((rd_T51 l1 x15_1).f0).length c258_0) ∧ w'.cell? ⟨gb259, 1, none⟩ = some (.int .i64 ((rd_T51 l1 x15_1).f1))) (ds := []) (mb 21 0) (by kernel_rfl) rfl rfl ⟨(blk_cell BK259.out 0).trans rfl, (blk_cell BK259.out 1).trans rfl⟩ (fun hHeld => ?_); refine with_tabW impl_IsPlan.tab7 impl_IsPlan.bits7 (fun HT_ HW_ => ?_)
                generalize w23.drew = w24 at HO_5 HO_13 HL258_0 BK259 HB hHeld ⊢
                refine pA (i := 0) (N := some 19) (mb 21 1) HT_ ?_
                refine tA2 (i := 1) (N := some 20) (mb 21 3) HT_ HW_ hHeld ?_
                refine pA (i := 2) (N := some 21) (mb 21 7) HT_ ?_
                refine pA (i := 3) (N := some 22) (mb 21 15) HT_ ?_
                refine pA (i := 4) (N := some 23) (mb 21 31) HT_ ?_
                refine pA (i := 5) (N := some 24) (mb 21 63) HT_ ?_
                refine pA (i := 6) (N := some 25) (mb 21 127) HT_ ?_
                refine tA2 (i := 7) (N := some 26) (mb 21 255) HT_ HW_ hHeld ?_
                refine oA (i := 8) (N := some 27) (mb 21 511) HT_ (fun K hK => ?_)
                refine gA Try.func59 #[.slice A0 l0.length c0, .slice A258_0 ((rd_T51 l1 x15_1).f0).length c258_0] ?_
                with_reducible refine (impl_IsTogether.calls k1 _ _ l0 _ _ ((rd_T51 l1 x15_1).f0) true _ ?side1 ?side2 ?side3 ?side4 A15.out).mono ?_
                (case side1 => exact cB HR0)
                (case side2 => exact HC0.out)
                (case side3 => repeat (first | exact ((Kd.V_reads' (by (with_reducible repeat (first | apply Kd.V_alloc | apply Kd.V_drewN | apply Kd.V_drew)); exact HL258_0.out)).2.2) | (with_reducible refine Kd.C_alloc ?_ _) | (with_reducible refine Kd.C_drewN ?_ _) | (with_reducible refine Kd.C_drew ?_)))
                (case side4 => exact HC258_0.out)
                rintro e w25 ⟨rfl, hb⟩
                refine ⟨_, rfl, ?_⟩
                replace HO_5 := Aside0.mk (Kd.N_below (by (with_reducible repeat (first | apply Kd.N_alloc | apply Kd.N_drewN | apply Kd.N_drew)); exact HO_5.out) hb)
                replace HO_13 := Aside0.mk (Kd.V_below (by (with_reducible repeat (first | apply Kd.V_alloc | apply Kd.V_drewN | apply Kd.V_drew)); exact HO_13.out) hb)
                replace HL258_0 := Aside0.mk (Kd.V_below (by (with_reducible repeat (first | apply Kd.V_alloc | apply Kd.V_drewN | apply Kd.V_drew)); exact HL258_0.out) hb)
                replace BK259 := Aside0.mk (blk_below (g := gb259) (bK BK259) hb)
                replace HB := Aside0.mk (below_step bG hb)
                (try clear hb)
                (try clear hb2)
                (try clear hk)
                (try clear hi)
                refine hK.out _ _ ⟨(blk_cell BK259.out 0).trans rfl, (blk_cell BK259.out 1).trans rfl⟩ (fun hHeld => ?_)
                clear hK K
                refine nA ?_
                refine pA (i := 9) (N := some 28) (mb 21 1023) HT_ ?_
                refine pA (i := 10) (N := some 29) (mb 21 2047) HT_ ?_
                refine pA (i := 11) (N := some 30) (mb 21 4095) HT_ ?_
                refine pA (i := 12) (N := some 31) (mb 21 8191) HT_ ?_
                refine pA (i := 14) (N := some 33) (mb 21 24575) HT_ ?_
                refine pA (i := 15) (N := some 34) (mb 21 57343) HT_ ?_
                refine tA2 (i := 13) (N := some 32) (mb 21 65535) HT_ HW_ hHeld ?_
                refine tA2 (i := 16) (N := some 35) (mb 21 131071) HT_ HW_ hHeld ?_
                refine oA (i := 17) (N := some 36) (mb 21 262143) HT_ (fun K hK => ?_)
                refine gA Try.func60 #[.slice A0 l0.length c0, .slice A258_0 ((rd_T51 l1 x15_1).f0).length c258_0] ?_
                with_reducible refine (impl_LeastGreen.calls k1 _ _ l0 _ _ ((rd_T51 l1 x15_1).f0) t261 _ ?side1 ?side2 ?side3 ?side4 A17.out).mono ?_
                (case side1 => exact cB HR0)
                (case side2 => exact HC0.out)
                (case side3 => repeat (first | exact ((Kd.V_reads' (by (with_reducible repeat (first | apply Kd.V_alloc | apply Kd.V_drewN | apply Kd.V_drew)); exact HL258_0.out)).2.2) | (with_reducible refine Kd.C_alloc ?_ _) | (with_reducible refine Kd.C_drewN ?_ _) | (with_reducible refine Kd.C_drew ?_)))
                (case side4 => exact HC258_0.out)
                rintro e w26 ⟨rfl, hb⟩
                refine ⟨_, rfl, ?_⟩
                replace HO_5 := Aside0.mk (Kd.N_below (by (with_reducible repeat (first | apply Kd.N_alloc | apply Kd.N_drewN | apply Kd.N_drew)); exact HO_5.out) hb)
                replace HO_13 := Aside0.mk (Kd.V_below (by (with_reducible repeat (first | apply Kd.V_alloc | apply Kd.V_drewN | apply Kd.V_drew)); exact HO_13.out) hb)
                replace HL258_0 := Aside0.mk (Kd.V_below (by (with_reducible repeat (first | apply Kd.V_alloc | apply Kd.V_drewN | apply Kd.V_drew)); exact HL258_0.out) hb)
                replace BK259 := Aside0.mk (blk_below (g := gb259) (bK BK259) hb)
                replace HB := Aside0.mk (below_step bG hb)
                (try clear hb)
                (try clear hb2)
                (try clear hk)
                (try clear hi)
                refine hK.out _ _ ⟨(blk_cell BK259.out 0).trans rfl, (blk_cell BK259.out 1).trans rfl⟩ (fun hHeld => ?_)
                clear hK K
                refine nA ?_
                refine oA (i := 18) (N := some 37) (mb 21 524287) HT_ (fun K hK => ?_)
                refine gA Try.func58 #[.int .i64 ((rd_T51 l1 x15_1).f1), .int .i64 t261, .int .i64 60] ?_
                with_reducible refine (impl_InRange.calls ((rd_T51 l1 x15_1).f1) t261 60 true _ A18.out).mono ?_
                rintro e w' ⟨rfl, ⟨nd, rfl⟩⟩
                refine ⟨_, rfl, ?_⟩
                refine hK.out _ _ ⟨(blk_cell BK259.out 0).trans rfl, (blk_cell BK259.out 1).trans rfl⟩ (fun hHeld => ?_)
                clear hK K
                refine nA ?_
                refine pA (i := 19) (N := some 38) (mb 21 1048575) HT_ ?_
                refine pA (i := 20) (N := some 39) (mb 21 2097151) HT_ ?_
                refine eA HT_ ?_
                obtain ⟨hcz27_0, hcz27_1, hfz27_0, hfz27_1⟩ := blkc2 BK259
                try go_wp2_with (first | ((with_reducible refine gate_builtin (b := .append) (xs := #[.tmp 40, .tmp 43]) rfl ?_); at_builtin; refine Kd.N_append (Kd.slice 3 (Kd.int .i64)) (w0 := w) w.heap.size rfl (.tmp 40) (.tmp 43) 55 41 (.slice none 0 0) 24 rfl Try.underlying55 info41 rfl (by decide) (by omega) u5 x5_1 ((rd_T51 l1 x15_1).f0) [.slice A258_0 ((rd_T51 l1 x15_1).f0).length c258_0] (fun k_ => (P1_ k_ ∨ w.heap.size ≤ k_) ∧ k_ ≠ gb259) (fun k_ => ((fun k_ => (P1_ k_ ∨ w.heap.size ≤ k_) ∧ k_ ≠ gb259)) k_ ∧ some k_ ≠ (u5 : Value).ownBlock) rfl rfl ?aP (fun _ hk => hk) ?aF ?aO ?aB ?aS ?aL ?_; (case aP => first | exact (Kd.FK_slice_mk (Kd.V_reads' (Kd.V_mono (ok' := (fun k_ => ((fun k_ => (P1_ k_ ∨ w.heap.size ≤ k_) ∧ k_ ≠ gb259)) k_ ∧ some k_ ≠ (u5 : Value).ownBlock)) (HL258_0.out) (fun k_ hk => ⟨⟨hk.1, hk.2.2⟩, hk.2.1⟩))).2.1 (Kd.V_F (Kd.V_mono (ok' := (fun k_ => ((fun k_ => (P1_ k_ ∨ w.heap.size ≤ k_) ∧ k_ ≠ gb259)) k_ ∧ some k_ ≠ (u5 : Value).ownBlock)) (HL258_0.out) (fun k_ hk => ⟨⟨hk.1, hk.2.2⟩, hk.2.1⟩)))) | exact (Kd.FK_slice_mk (Kd.V_reads' (Kd.V_mono (ok' := (fun k_ => ((fun k_ => (P1_ k_ ∨ w.heap.size ≤ k_) ∧ k_ ≠ gb259)) k_ ∧ some k_ ≠ (u5 : Value).ownBlock)) (HL258_0.out) (fun k_ hk => by first | exact ⟨⟨hk.1, hk.2.2⟩, hk.2.1⟩ | exact ⟨⟨hk.1.1, hk.2⟩, hk.1.2⟩ | exact ⟨⟨hk.1.1, hk.1.2⟩, hk.2⟩ | exact ⟨hk.1.1, hk.2, hk.1.2⟩ | exact hk.1 | simp_all))).2.1 (Kd.V_F (Kd.V_mono (ok' := (fun k_ => ((fun k_ => (P1_ k_ ∨ w.heap.size ≤ k_) ∧ k_ ≠ gb259)) k_ ∧ some k_ ≠ (u5 : Value).ownBlock)) (by (with_reducible repeat (first | apply Kd.V_alloc | apply Kd.V_drewN | apply Kd.V_drew)); exact HL258_0.out) (fun k_ hk => by first | exact ⟨⟨hk.1, hk.2.2⟩, hk.2.1⟩ | exact ⟨⟨hk.1.1, hk.2⟩, hk.1.2⟩ | exact ⟨⟨hk.1.1, hk.1.2⟩, hk.2⟩ | exact ⟨hk.1.1, hk.2, hk.1.2⟩ | exact hk.1 | simp_all))))); (case aB => exact bG); (case aF => exact (fun k_ hk => ⟨(.inr (Nat.le_trans (below_size bG) hk)), Kd.freshB (g := gb259) (o := .cells #[.slice A258_0 ((rd_T51 l1 x15_1).f0).length c258_0, .int .i64 ((rd_T51 l1 x15_1).f1)] 51 (0, 0)) (bK BK259) k_ hk⟩)); (case aO => exact (by (with_reducible repeat (first | apply Kd.N_alloc | apply Kd.N_drewN | apply Kd.N_drew)); exact HO_5.out)); (case aS => exact (below_size bG)); (case aL => have := LMc20.out; omega); intro v264 w28 ho hb hg hat; rw [← Ny263.out] at ho; have n0_ := Aside0.mk (Kd.V_afterv (ok := (fun k_ => (P1_ k_ ∨ w.heap.size ≤ k_) ∧ k_ ≠ gb259)) (by (with_reducible repeat (first | apply Kd.V_alloc | apply Kd.V_drewN | apply Kd.V_drew)); exact Kd.V_mono HO_13.out (fun _ hk => ⟨⟨hk.1, hk.2.2⟩, hk.2.1⟩)) hg hat); have n1_ := Aside0.mk (Kd.V_afterv (ok := (fun k_ => (P1_ k_ ∨ w.heap.size ≤ k_) ∧ k_ ≠ gb259)) (by (with_reducible repeat (first | apply Kd.V_alloc | apply Kd.V_drewN | apply Kd.V_drew)); exact Kd.V_mono HL258_0.out (fun _ hk => ⟨⟨hk.1, hk.2.2⟩, hk.2.1⟩)) hg hat); have n2_ := Aside0.mk (blk_grown (g := gb259) (o := .cells #[.slice A258_0 ((rd_T51 l1 x15_1).f0).length c258_0, .int .i64 ((rd_T51 l1 x15_1).f1)] 51 (0, 0)) (bK BK259) hg (Kd.N_ne HO_5.out BK259.out (by decide))); have n3_ := Aside0.mk (hb); have n4_ := Aside0.mk (ho); clear HO_13; clear HL258_0; clear BK259; clear HB; clear HO_5; have HO_13 := n0_; have HL258_0 := n1_; have BK259 := n2_; have HB := n3_; have HO265 := n4_; clear n0_ n1_ n2_ n3_ n4_; clear ho hb hg hat))
                go_roundg k1
                case measure => have := HK1.out; omega
                case rel => exact ⟨(y263), (wrap64 (x15_1 + 1)), rS, H', ⟨by have := HK1.out; omega⟩, ⟨by (with_reducible repeat (first | apply Kd.N_alloc | apply Kd.N_drewN | apply Kd.N_drew)); exact Kd.N_mono HO265.out (fun _ hk => hk.1)⟩, ⟨by (with_reducible repeat (first | apply Kd.V_alloc | apply Kd.V_drewN | apply Kd.V_drew)); exact Kd.V_mono HO_13.out (fun _ hk => ⟨hk.1.1, hk.2⟩)⟩, ⟨bG⟩⟩
              · replace c19 := Bool.eq_false_iff.mpr c19
                subst c19
                have H1 : (some false) = some r := by rw [if_neg (show ¬ (false = true) by decide)] at H; exact H
                clear H
                have H := H1
                clear H1
                obtain rfl := Option.some.inj H
                have p258 : 0 ≤ (x15_1 : Int) := dA
                have q258 : x15_1 < (l1.length : Int) := dA
                obtain ⟨ad258, A258_0, c258_0, e258, hx258_0, hx258_1, hl258_0, hi258_0⟩ := at_T51 (Kd.V_reads' HO_13.out).2.2 x15_1 p258 q258
                cases e258
                obtain ⟨ce258, hce258, hMe258, hcc258⟩ := Kd.V_get HO_13.out z51 x15_1 p258 (by first | exact q258 | exact dA | (have e_ := (Kd.V_reads' HO_13.out).1; omega))
                obtain ⟨ua258_0, uc258_0, rfl, ul258_0, ge258_0⟩ := k51_openF hMe258
                have hv258_0 := hcc258 0 _ rfl
                rw [Nat.add_zero] at hv258_0
                replace hv258_0 := Option.some.inj (hv258_0.symm.trans hx258_0)
                injection hv258_0 with hva_ hvn_ hvc_
                rw [hva_] at ge258_0
                rw [hvc_] at ul258_0
                have HL258_0 := Aside0.mk (show Kd.V (Kd.int .i64) 3 _ w.heap.size _ _ ((rd_T51 l1 x15_1).f0) from Kd.V_mk ul258_0 ge258_0)
                clear hva_ hvn_ hvc_ ge258_0 ul258_0
                clear hcc258 hce258
                have HR258_0 := Aside0.mk hi258_0
                have HC258_0 := Aside0.mk hl258_0
                clear hi258_0 hl258_0
                replace p258 := eq_true p258
                replace q258 := eq_true q258
                try go_wp2_with (first | ((with_reducible refine gate_dst (N := 7) rfl ?_); refine bE (N := 7) (cs := #[.slice none 0 0, .int .i64 0]) (t := 51) ?_; intro gb259 hg w29 hbox hb; have n0_ := Aside0.mk (Kd.N_below (Kd.N_elderB (by (with_reducible repeat (first | apply Kd.N_alloc | apply Kd.N_drewN | apply Kd.N_drew)); exact HO_5.out) gb259 (Nat.le_of_eq hg.symm)) hb); have n1_ := Aside0.mk (Kd.V_below (Kd.V_elderB (by (with_reducible repeat (first | apply Kd.V_alloc | apply Kd.V_drewN | apply Kd.V_drew)); exact HO_13.out) gb259 (Nat.le_of_eq hg.symm)) hb); have n2_ := Aside0.mk (Kd.V_below (Kd.V_elderB (by (with_reducible repeat (first | apply Kd.V_alloc | apply Kd.V_drewN | apply Kd.V_drew)); exact HL258_0.out) gb259 (Nat.le_of_eq hg.symm)) hb); have n3_ := Aside0.mk (Kd.C_below (by repeat (first | (with_reducible exact HR258_0.out) | (with_reducible refine Kd.C_alloc ?_ _) | (with_reducible refine Kd.C_drewN ?_ _) | (with_reducible refine Kd.C_drew ?_) | exact HR258_0.out)) hb); have n4_ := Aside0.mk (below_step bA hb); have n5_ := Aside0.mk (hbox); have n6_ := Aside0.mk ((by rw [hg]; exact (below_size bA) : w.heap.size ≤ gb259)); have n7_ := Aside0.mk ((by rw [hg]; exact (below_size bA) : w.heap.size ≤ gb259)); clear HO_5; clear HO_13; clear HL258_0; clear HR258_0; clear HB; have HO_5 := n0_; have HO_13 := n1_; have HL258_0 := n2_; have HR258_0 := n3_; have HB := n4_; have BK259 := n5_; have GW259 := n6_; have GE259 := n7_; clear n0_ n1_ n2_ n3_ n4_ n5_ n6_ n7_; clear hb hbox hg; obtain ⟨hcz30_0, hcz30_1, hfz30_0, hfz30_1⟩ := blkc2 BK259))
                have n0_ : Aside0 (Kd.N (Kd.slice 3 (Kd.int .i64)) 41 ((w29.setCell ⟨gb259, 0, none⟩ (.slice A258_0 ((rd_T51 l1 x15_1).f0).length c258_0)).setCell ⟨gb259, 1, none⟩ (.int .i64 ((rd_T51 l1 x15_1).f1))) w.heap.size (fun k_ => (P1_ k_ ∨ w.heap.size ≤ k_) ∧ k_ ≠ gb259) u5 x5_1) := ⟨by (with_reducible repeat (first | apply Kd.N_alloc | apply Kd.N_drewN | apply Kd.N_drew)); exact Kd.N_mono (Kd.N_far (p := ⟨gb259, 1, none⟩) (Kd.N_far (p := ⟨gb259, 0, none⟩) (Kd.N_mono HO_5.out (fun k_ hk => (⟨hk, hk.2⟩ : _ ∧ k_ ≠ gb259))) (fun _ hk => hk.2) (.slice A258_0 ((rd_T51 l1 x15_1).f0).length c258_0)) (fun _ hk => hk.2) (.int .i64 ((rd_T51 l1 x15_1).f1))) (fun _ hk => ⟨hk.1.1, hk.1.2⟩)⟩
                have n1_ : Aside0 (Kd.V k51 51 ((w29.setCell ⟨gb259, 0, none⟩ (.slice A258_0 ((rd_T51 l1 x15_1).f0).length c258_0)).setCell ⟨gb259, 1, none⟩ (.int .i64 ((rd_T51 l1 x15_1).f1))) w.heap.size (fun k_ => (P1_ k_ ∨ w.heap.size ≤ k_) ∧ some k_ ≠ (u5 : Value).ownBlock ∧ k_ ≠ gb259) (.slice (some ad258) l1.length c1) l1) := ⟨by (with_reducible repeat (first | apply Kd.V_alloc | apply Kd.V_drewN | apply Kd.V_drew)); exact Kd.V_mono (Kd.V_far (p := ⟨gb259, 1, none⟩) (Kd.V_far (p := ⟨gb259, 0, none⟩) (Kd.V_mono HO_13.out (fun k_ hk => (⟨hk, hk.2⟩ : _ ∧ k_ ≠ gb259))) (fun _ hk => hk.2) (.slice A258_0 ((rd_T51 l1 x15_1).f0).length c258_0)) (fun _ hk => hk.2) (.int .i64 ((rd_T51 l1 x15_1).f1))) (fun _ hk => ⟨hk.1.1.1, ⟨hk.1.1.2, hk.1.2⟩⟩)⟩
                have n2_ : Aside0 (Kd.V (Kd.int .i64) 3 ((w29.setCell ⟨gb259, 0, none⟩ (.slice A258_0 ((rd_T51 l1 x15_1).f0).length c258_0)).setCell ⟨gb259, 1, none⟩ (.int .i64 ((rd_T51 l1 x15_1).f1))) w.heap.size (fun k_ => (P1_ k_ ∨ w.heap.size ≤ k_) ∧ some k_ ≠ (u5 : Value).ownBlock ∧ k_ ≠ gb259) (.slice A258_0 ((rd_T51 l1 x15_1).f0).length c258_0) ((rd_T51 l1 x15_1).f0)) := ⟨by (with_reducible repeat (first | apply Kd.V_alloc | apply Kd.V_drewN | apply Kd.V_drew)); exact Kd.V_mono (Kd.V_far (p := ⟨gb259, 1, none⟩) (Kd.V_far (p := ⟨gb259, 0, none⟩) (Kd.V_mono HL258_0.out (fun k_ hk => (⟨hk, hk.2⟩ : _ ∧ k_ ≠ gb259))) (fun _ hk => hk.2) (.slice A258_0 ((rd_T51 l1 x15_1).f0).length c258_0)) (fun _ hk => hk.2) (.int .i64 ((rd_T51 l1 x15_1).f1))) (fun _ hk => ⟨hk.1.1.1, ⟨hk.1.1.2, hk.1.2⟩⟩)⟩
                have n3_ : Aside0 (((w29.setCell ⟨gb259, 0, none⟩ (.slice A258_0 ((rd_T51 l1 x15_1).f0).length c258_0)).setCell ⟨gb259, 1, none⟩ (.int .i64 ((rd_T51 l1 x15_1).f1))).heap[gb259]? = some (.cells #[.slice A258_0 ((rd_T51 l1 x15_1).f0).length c258_0, .int .i64 ((rd_T51 l1 x15_1).f1)] 51 (0, 0))) := ⟨by (with_reducible repeat (first | refine blk_drewN ?_ _ | refine blk_drew ?_ | refine blk_alloc ?_ _)); refine blk_put (cs := #[.slice A258_0 ((rd_T51 l1 x15_1).f0).length c258_0, .int .i64 0]) ?_ 1 _ rfl; (with_reducible repeat (first | refine blk_drewN ?_ _ | refine blk_drew ?_ | refine blk_alloc ?_ _)); refine blk_put (cs := #[.slice none 0 0, .int .i64 0]) ?_ 0 _ rfl; (with_reducible repeat (first | refine blk_drewN ?_ _ | refine blk_drew ?_ | refine blk_alloc ?_ _)); exact BK259.out⟩
                have n4_ : Aside0 (Below w.heap.size w ((w29.setCell ⟨gb259, 0, none⟩ (.slice A258_0 ((rd_T51 l1 x15_1).f0).length c258_0)).setCell ⟨gb259, 1, none⟩ (.int .i64 ((rd_T51 l1 x15_1).f1)))) := ⟨bG⟩
                (try clear HO_5)
                (try clear HO_13)
                (try clear HL258_0)
                (try clear BK259)
                (try clear HB)
                generalize ((w29.setCell ⟨gb259, 0, none⟩ (.slice A258_0 ((rd_T51 l1 x15_1).f0).length c258_0)).setCell ⟨gb259, 1, none⟩ (.int .i64 ((rd_T51 l1 x15_1).f1))) = w31 at n0_ n1_ n2_ n3_ n4_ ⊢
                have HO_5 := n0_
                have HO_13 := n1_
                have HL258_0 := n2_
                have BK259 := n3_
                have HB := n4_
                clear n0_ n1_ n2_ n3_ n4_
                replace HO_5 := Aside0.mk (Kd.N_drew HO_5.out)
                replace HO_13 := Aside0.mk (Kd.V_drew HO_13.out)
                replace HL258_0 := Aside0.mk (Kd.V_drew HL258_0.out)
                replace BK259 := Aside0.mk (blk_drew BK259.out)
                have HBo := HB
                replace HB := Aside0.mk (below_drew1 HB.out)
                refine start_ (n := 21) (S := fun w' => w'.cell? ⟨gb259, 0, none⟩ = some (.slice A258_0 ((rd_T51 l1 x15_1).f0).length c258_0) ∧ w'.cell? ⟨gb259, 1, none⟩ = some (.int .i64 ((rd_T51 l1 x15_1).f1))) (ds := []) (mb 21 0) (by kernel_rfl) rfl rfl ⟨(blk_cell BK259.out 0).trans rfl, (blk_cell BK259.out 1).trans rfl⟩ (fun hHeld => ?_); refine with_tabW impl_IsPlan.tab7 impl_IsPlan.bits7 (fun HT_ HW_ => ?_)
                generalize w31.drew = w32 at HO_5 HO_13 HL258_0 BK259 HB hHeld ⊢
                refine pA (i := 0) (N := some 19) (mb 21 1) HT_ ?_
                refine tA2 (i := 1) (N := some 20) (mb 21 3) HT_ HW_ hHeld ?_
                refine pA (i := 2) (N := some 21) (mb 21 7) HT_ ?_
                refine pA (i := 3) (N := some 22) (mb 21 15) HT_ ?_
                refine pA (i := 4) (N := some 23) (mb 21 31) HT_ ?_
                refine pA (i := 5) (N := some 24) (mb 21 63) HT_ ?_
                refine pA (i := 6) (N := some 25) (mb 21 127) HT_ ?_
                refine tA2 (i := 7) (N := some 26) (mb 21 255) HT_ HW_ hHeld ?_
                refine oA (i := 8) (N := some 27) (mb 21 511) HT_ (fun K hK => ?_)
                refine gA Try.func59 #[.slice A0 l0.length c0, .slice A258_0 ((rd_T51 l1 x15_1).f0).length c258_0] ?_
                with_reducible refine (impl_IsTogether.calls k1 _ _ l0 _ _ ((rd_T51 l1 x15_1).f0) true _ ?side1 ?side2 ?side3 ?side4 A15.out).mono ?_
                (case side1 => exact cB HR0)
                (case side2 => exact HC0.out)
                (case side3 => repeat (first | exact ((Kd.V_reads' (by (with_reducible repeat (first | apply Kd.V_alloc | apply Kd.V_drewN | apply Kd.V_drew)); exact HL258_0.out)).2.2) | (with_reducible refine Kd.C_alloc ?_ _) | (with_reducible refine Kd.C_drewN ?_ _) | (with_reducible refine Kd.C_drew ?_)))
                (case side4 => exact HC258_0.out)
                rintro e w33 ⟨rfl, hb⟩
                refine ⟨_, rfl, ?_⟩
                replace HO_5 := Aside0.mk (Kd.N_below (by (with_reducible repeat (first | apply Kd.N_alloc | apply Kd.N_drewN | apply Kd.N_drew)); exact HO_5.out) hb)
                replace HO_13 := Aside0.mk (Kd.V_below (by (with_reducible repeat (first | apply Kd.V_alloc | apply Kd.V_drewN | apply Kd.V_drew)); exact HO_13.out) hb)
                replace HL258_0 := Aside0.mk (Kd.V_below (by (with_reducible repeat (first | apply Kd.V_alloc | apply Kd.V_drewN | apply Kd.V_drew)); exact HL258_0.out) hb)
                replace BK259 := Aside0.mk (blk_below (g := gb259) (bK BK259) hb)
                replace HB := Aside0.mk (below_step bG hb)
                (try clear hb)
                (try clear hb2)
                (try clear hk)
                (try clear hi)
                refine hK.out _ _ ⟨(blk_cell BK259.out 0).trans rfl, (blk_cell BK259.out 1).trans rfl⟩ (fun hHeld => ?_)
                clear hK K
                refine nA ?_
                refine pA (i := 9) (N := some 28) (mb 21 1023) HT_ ?_
                refine pA (i := 10) (N := some 29) (mb 21 2047) HT_ ?_
                refine pA (i := 11) (N := some 30) (mb 21 4095) HT_ ?_
                refine pA (i := 12) (N := some 31) (mb 21 8191) HT_ ?_
                refine pA (i := 14) (N := some 33) (mb 21 24575) HT_ ?_
                refine pA (i := 15) (N := some 34) (mb 21 57343) HT_ ?_
                refine tA2 (i := 13) (N := some 32) (mb 21 65535) HT_ HW_ hHeld ?_
                refine tA2 (i := 16) (N := some 35) (mb 21 131071) HT_ HW_ hHeld ?_
                refine oA (i := 17) (N := some 36) (mb 21 262143) HT_ (fun K hK => ?_)
                refine gA Try.func60 #[.slice A0 l0.length c0, .slice A258_0 ((rd_T51 l1 x15_1).f0).length c258_0] ?_
                with_reducible refine (impl_LeastGreen.calls k1 _ _ l0 _ _ ((rd_T51 l1 x15_1).f0) t261 _ ?side1 ?side2 ?side3 ?side4 A17.out).mono ?_
                (case side1 => exact cB HR0)
                (case side2 => exact HC0.out)
                (case side3 => repeat (first | exact ((Kd.V_reads' (by (with_reducible repeat (first | apply Kd.V_alloc | apply Kd.V_drewN | apply Kd.V_drew)); exact HL258_0.out)).2.2) | (with_reducible refine Kd.C_alloc ?_ _) | (with_reducible refine Kd.C_drewN ?_ _) | (with_reducible refine Kd.C_drew ?_)))
                (case side4 => exact HC258_0.out)
                rintro e w34 ⟨rfl, hb⟩
                refine ⟨_, rfl, ?_⟩
                replace HO_5 := Aside0.mk (Kd.N_below (by (with_reducible repeat (first | apply Kd.N_alloc | apply Kd.N_drewN | apply Kd.N_drew)); exact HO_5.out) hb)
                replace HO_13 := Aside0.mk (Kd.V_below (by (with_reducible repeat (first | apply Kd.V_alloc | apply Kd.V_drewN | apply Kd.V_drew)); exact HO_13.out) hb)
                replace HL258_0 := Aside0.mk (Kd.V_below (by (with_reducible repeat (first | apply Kd.V_alloc | apply Kd.V_drewN | apply Kd.V_drew)); exact HL258_0.out) hb)
                replace BK259 := Aside0.mk (blk_below (g := gb259) (bK BK259) hb)
                replace HB := Aside0.mk (below_step bG hb)
                (try clear hb)
                (try clear hb2)
                (try clear hk)
                (try clear hi)
                refine hK.out _ _ ⟨(blk_cell BK259.out 0).trans rfl, (blk_cell BK259.out 1).trans rfl⟩ (fun hHeld => ?_)
                clear hK K
                refine nA ?_
                refine oA (i := 18) (N := some 37) (mb 21 524287) HT_ (fun K hK => ?_)
                refine gA Try.func58 #[.int .i64 ((rd_T51 l1 x15_1).f1), .int .i64 t261, .int .i64 60] ?_
                with_reducible refine (impl_InRange.calls ((rd_T51 l1 x15_1).f1) t261 60 false _ A18.out).mono ?_
                rintro e w' ⟨rfl, ⟨nd, rfl⟩⟩
                refine ⟨_, rfl, ?_⟩
                refine hK.out _ _ ⟨(blk_cell BK259.out 0).trans rfl, (blk_cell BK259.out 1).trans rfl⟩ (fun hHeld => ?_)
                clear hK K
                refine nA ?_
                refine pA (i := 19) (N := some 38) (mb 21 1048575) HT_ ?_
                refine pA (i := 20) (N := some 39) (mb 21 2097151) HT_ ?_
                refine eA HT_ ?_
                try go_wp2
                go_ret
                exact ⟨rA, bG⟩
            · replace c16 := Bool.eq_false_iff.mpr c16
              subst c16
              have H1 : (some false) = some r := by rw [if_neg (show ¬ (false = true) by decide)] at H; exact H
              clear H
              have H := H1
              clear H1
              obtain rfl := Option.some.inj H
              have p258 : 0 ≤ (x15_1 : Int) := dA
              have q258 : x15_1 < (l1.length : Int) := dA
              obtain ⟨ad258, A258_0, c258_0, e258, hx258_0, hx258_1, hl258_0, hi258_0⟩ := at_T51 (Kd.V_reads' HO_13.out).2.2 x15_1 p258 q258
              cases e258
              obtain ⟨ce258, hce258, hMe258, hcc258⟩ := Kd.V_get HO_13.out z51 x15_1 p258 (by first | exact q258 | exact dA | (have e_ := (Kd.V_reads' HO_13.out).1; omega))
              obtain ⟨ua258_0, uc258_0, rfl, ul258_0, ge258_0⟩ := k51_openF hMe258
              have hv258_0 := hcc258 0 _ rfl
              rw [Nat.add_zero] at hv258_0
              replace hv258_0 := Option.some.inj (hv258_0.symm.trans hx258_0)
              injection hv258_0 with hva_ hvn_ hvc_
              rw [hva_] at ge258_0
              rw [hvc_] at ul258_0
              have HL258_0 := Aside0.mk (show Kd.V (Kd.int .i64) 3 _ w.heap.size _ _ ((rd_T51 l1 x15_1).f0) from Kd.V_mk ul258_0 ge258_0)
              clear hva_ hvn_ hvc_ ge258_0 ul258_0
              clear hcc258 hce258
              have HR258_0 := Aside0.mk hi258_0
              have HC258_0 := Aside0.mk hl258_0
              clear hi258_0 hl258_0
              replace p258 := eq_true p258
              replace q258 := eq_true q258
              try go_wp2_with (first | ((with_reducible refine gate_dst (N := 7) rfl ?_); refine bE (N := 7) (cs := #[.slice none 0 0, .int .i64 0]) (t := 51) ?_; intro gb259 hg w35 hbox hb; have n0_ := Aside0.mk (Kd.N_below (Kd.N_elderB (by (with_reducible repeat (first | apply Kd.N_alloc | apply Kd.N_drewN | apply Kd.N_drew)); exact HO_5.out) gb259 (Nat.le_of_eq hg.symm)) hb); have n1_ := Aside0.mk (Kd.V_below (Kd.V_elderB (by (with_reducible repeat (first | apply Kd.V_alloc | apply Kd.V_drewN | apply Kd.V_drew)); exact HO_13.out) gb259 (Nat.le_of_eq hg.symm)) hb); have n2_ := Aside0.mk (Kd.V_below (Kd.V_elderB (by (with_reducible repeat (first | apply Kd.V_alloc | apply Kd.V_drewN | apply Kd.V_drew)); exact HL258_0.out) gb259 (Nat.le_of_eq hg.symm)) hb); have n3_ := Aside0.mk (Kd.C_below (by repeat (first | (with_reducible exact HR258_0.out) | (with_reducible refine Kd.C_alloc ?_ _) | (with_reducible refine Kd.C_drewN ?_ _) | (with_reducible refine Kd.C_drew ?_) | exact HR258_0.out)) hb); have n4_ := Aside0.mk (below_step bA hb); have n5_ := Aside0.mk (hbox); have n6_ := Aside0.mk ((by rw [hg]; exact (below_size bA) : w.heap.size ≤ gb259)); have n7_ := Aside0.mk ((by rw [hg]; exact (below_size bA) : w.heap.size ≤ gb259)); clear HO_5; clear HO_13; clear HL258_0; clear HR258_0; clear HB; have HO_5 := n0_; have HO_13 := n1_; have HL258_0 := n2_; have HR258_0 := n3_; have HB := n4_; have BK259 := n5_; have GW259 := n6_; have GE259 := n7_; clear n0_ n1_ n2_ n3_ n4_ n5_ n6_ n7_; clear hb hbox hg; obtain ⟨hcz36_0, hcz36_1, hfz36_0, hfz36_1⟩ := blkc2 BK259))
              have n0_ : Aside0 (Kd.N (Kd.slice 3 (Kd.int .i64)) 41 ((w35.setCell ⟨gb259, 0, none⟩ (.slice A258_0 ((rd_T51 l1 x15_1).f0).length c258_0)).setCell ⟨gb259, 1, none⟩ (.int .i64 ((rd_T51 l1 x15_1).f1))) w.heap.size (fun k_ => (P1_ k_ ∨ w.heap.size ≤ k_) ∧ k_ ≠ gb259) u5 x5_1) := ⟨by (with_reducible repeat (first | apply Kd.N_alloc | apply Kd.N_drewN | apply Kd.N_drew)); exact Kd.N_mono (Kd.N_far (p := ⟨gb259, 1, none⟩) (Kd.N_far (p := ⟨gb259, 0, none⟩) (Kd.N_mono HO_5.out (fun k_ hk => (⟨hk, hk.2⟩ : _ ∧ k_ ≠ gb259))) (fun _ hk => hk.2) (.slice A258_0 ((rd_T51 l1 x15_1).f0).length c258_0)) (fun _ hk => hk.2) (.int .i64 ((rd_T51 l1 x15_1).f1))) (fun _ hk => ⟨hk.1.1, hk.1.2⟩)⟩
              have n1_ : Aside0 (Kd.V k51 51 ((w35.setCell ⟨gb259, 0, none⟩ (.slice A258_0 ((rd_T51 l1 x15_1).f0).length c258_0)).setCell ⟨gb259, 1, none⟩ (.int .i64 ((rd_T51 l1 x15_1).f1))) w.heap.size (fun k_ => (P1_ k_ ∨ w.heap.size ≤ k_) ∧ some k_ ≠ (u5 : Value).ownBlock ∧ k_ ≠ gb259) (.slice (some ad258) l1.length c1) l1) := ⟨by (with_reducible repeat (first | apply Kd.V_alloc | apply Kd.V_drewN | apply Kd.V_drew)); exact Kd.V_mono (Kd.V_far (p := ⟨gb259, 1, none⟩) (Kd.V_far (p := ⟨gb259, 0, none⟩) (Kd.V_mono HO_13.out (fun k_ hk => (⟨hk, hk.2⟩ : _ ∧ k_ ≠ gb259))) (fun _ hk => hk.2) (.slice A258_0 ((rd_T51 l1 x15_1).f0).length c258_0)) (fun _ hk => hk.2) (.int .i64 ((rd_T51 l1 x15_1).f1))) (fun _ hk => ⟨hk.1.1.1, ⟨hk.1.1.2, hk.1.2⟩⟩)⟩
              have n2_ : Aside0 (Kd.V (Kd.int .i64) 3 ((w35.setCell ⟨gb259, 0, none⟩ (.slice A258_0 ((rd_T51 l1 x15_1).f0).length c258_0)).setCell ⟨gb259, 1, none⟩ (.int .i64 ((rd_T51 l1 x15_1).f1))) w.heap.size (fun k_ => (P1_ k_ ∨ w.heap.size ≤ k_) ∧ some k_ ≠ (u5 : Value).ownBlock ∧ k_ ≠ gb259) (.slice A258_0 ((rd_T51 l1 x15_1).f0).length c258_0) ((rd_T51 l1 x15_1).f0)) := ⟨by (with_reducible repeat (first | apply Kd.V_alloc | apply Kd.V_drewN | apply Kd.V_drew)); exact Kd.V_mono (Kd.V_far (p := ⟨gb259, 1, none⟩) (Kd.V_far (p := ⟨gb259, 0, none⟩) (Kd.V_mono HL258_0.out (fun k_ hk => (⟨hk, hk.2⟩ : _ ∧ k_ ≠ gb259))) (fun _ hk => hk.2) (.slice A258_0 ((rd_T51 l1 x15_1).f0).length c258_0)) (fun _ hk => hk.2) (.int .i64 ((rd_T51 l1 x15_1).f1))) (fun _ hk => ⟨hk.1.1.1, ⟨hk.1.1.2, hk.1.2⟩⟩)⟩
              have n3_ : Aside0 (((w35.setCell ⟨gb259, 0, none⟩ (.slice A258_0 ((rd_T51 l1 x15_1).f0).length c258_0)).setCell ⟨gb259, 1, none⟩ (.int .i64 ((rd_T51 l1 x15_1).f1))).heap[gb259]? = some (.cells #[.slice A258_0 ((rd_T51 l1 x15_1).f0).length c258_0, .int .i64 ((rd_T51 l1 x15_1).f1)] 51 (0, 0))) := ⟨by (with_reducible repeat (first | refine blk_drewN ?_ _ | refine blk_drew ?_ | refine blk_alloc ?_ _)); refine blk_put (cs := #[.slice A258_0 ((rd_T51 l1 x15_1).f0).length c258_0, .int .i64 0]) ?_ 1 _ rfl; (with_reducible repeat (first | refine blk_drewN ?_ _ | refine blk_drew ?_ | refine blk_alloc ?_ _)); refine blk_put (cs := #[.slice none 0 0, .int .i64 0]) ?_ 0 _ rfl; (with_reducible repeat (first | refine blk_drewN ?_ _ | refine blk_drew ?_ | refine blk_alloc ?_ _)); exact BK259.out⟩
              have n4_ : Aside0 (Below w.heap.size w ((w35.setCell ⟨gb259, 0, none⟩ (.slice A258_0 ((rd_T51 l1 x15_1).f0).length c258_0)).setCell ⟨gb259, 1, none⟩ (.int .i64 ((rd_T51 l1 x15_1).f1)))) := ⟨bG⟩
              (try clear HO_5)
              (try clear HO_13)
              (try clear HL258_0)
              (try clear BK259)
              (try clear HB)
              generalize ((w35.setCell ⟨gb259, 0, none⟩ (.slice A258_0 ((rd_T51 l1 x15_1).f0).length c258_0)).setCell ⟨gb259, 1, none⟩ (.int .i64 ((rd_T51 l1 x15_1).f1))) = w37 at n0_ n1_ n2_ n3_ n4_ ⊢
              have HO_5 := n0_
              have HO_13 := n1_
              have HL258_0 := n2_
              have BK259 := n3_
              have HB := n4_
              clear n0_ n1_ n2_ n3_ n4_
              replace HO_5 := Aside0.mk (Kd.N_drew HO_5.out)
              replace HO_13 := Aside0.mk (Kd.V_drew HO_13.out)
              replace HL258_0 := Aside0.mk (Kd.V_drew HL258_0.out)
              replace BK259 := Aside0.mk (blk_drew BK259.out)
              have HBo := HB
              replace HB := Aside0.mk (below_drew1 HB.out)
              refine start_ (n := 21) (S := fun w' => w'.cell? ⟨gb259, 0, none⟩ = some (.slice A258_0 ((rd_T51 l1 x15_1).f0).length c258_0) ∧ w'.cell? ⟨gb259, 1, none⟩ = some (.int .i64 ((rd_T51 l1 x15_1).f1))) (ds := []) (mb 21 0) (by kernel_rfl) rfl rfl ⟨(blk_cell BK259.out 0).trans rfl, (blk_cell BK259.out 1).trans rfl⟩ (fun hHeld => ?_); refine with_tabW impl_IsPlan.tab7 impl_IsPlan.bits7 (fun HT_ HW_ => ?_)
              generalize w37.drew = w38 at HO_5 HO_13 HL258_0 BK259 HB hHeld ⊢
              refine pA (i := 0) (N := some 19) (mb 21 1) HT_ ?_
              refine tA2 (i := 1) (N := some 20) (mb 21 3) HT_ HW_ hHeld ?_
              refine pA (i := 2) (N := some 21) (mb 21 7) HT_ ?_
              refine pA (i := 3) (N := some 22) (mb 21 15) HT_ ?_
              refine pA (i := 4) (N := some 23) (mb 21 31) HT_ ?_
              refine pA (i := 5) (N := some 24) (mb 21 63) HT_ ?_
              refine pA (i := 6) (N := some 25) (mb 21 127) HT_ ?_
              refine tA2 (i := 7) (N := some 26) (mb 21 255) HT_ HW_ hHeld ?_
              refine oA (i := 8) (N := some 27) (mb 21 511) HT_ (fun K hK => ?_)
              refine gA Try.func59 #[.slice A0 l0.length c0, .slice A258_0 ((rd_T51 l1 x15_1).f0).length c258_0] ?_
              with_reducible refine (impl_IsTogether.calls k1 _ _ l0 _ _ ((rd_T51 l1 x15_1).f0) false _ ?side1 ?side2 ?side3 ?side4 A15.out).mono ?_
              (case side1 => exact cB HR0)
              (case side2 => exact HC0.out)
              (case side3 => repeat (first | exact ((Kd.V_reads' (by (with_reducible repeat (first | apply Kd.V_alloc | apply Kd.V_drewN | apply Kd.V_drew)); exact HL258_0.out)).2.2) | (with_reducible refine Kd.C_alloc ?_ _) | (with_reducible refine Kd.C_drewN ?_ _) | (with_reducible refine Kd.C_drew ?_)))
              (case side4 => exact HC258_0.out)
              rintro e w39 ⟨rfl, hb⟩
              refine ⟨_, rfl, ?_⟩
              replace HO_5 := Aside0.mk (Kd.N_below (by (with_reducible repeat (first | apply Kd.N_alloc | apply Kd.N_drewN | apply Kd.N_drew)); exact HO_5.out) hb)
              replace HO_13 := Aside0.mk (Kd.V_below (by (with_reducible repeat (first | apply Kd.V_alloc | apply Kd.V_drewN | apply Kd.V_drew)); exact HO_13.out) hb)
              replace HL258_0 := Aside0.mk (Kd.V_below (by (with_reducible repeat (first | apply Kd.V_alloc | apply Kd.V_drewN | apply Kd.V_drew)); exact HL258_0.out) hb)
              replace BK259 := Aside0.mk (blk_below (g := gb259) (bK BK259) hb)
              replace HB := Aside0.mk (below_step bG hb)
              (try clear hb)
              (try clear hb2)
              (try clear hk)
              (try clear hi)
              refine hK.out _ _ ⟨(blk_cell BK259.out 0).trans rfl, (blk_cell BK259.out 1).trans rfl⟩ (fun hHeld => ?_)
              clear hK K
              refine nA ?_
              refine pA (i := 9) (N := some 28) (mb 21 1023) HT_ ?_
              refine pA (i := 10) (N := some 29) (mb 21 2047) HT_ ?_
              refine pA (i := 11) (N := some 30) (mb 21 4095) HT_ ?_
              refine pU (i := 12) (N := some 31) (mb 21 8191) HT_ ?_
              refine pU (i := 13) (N := some 32) (mb 21 16383) HT_ ?_
              refine pU (i := 14) (N := some 33) (mb 21 32767) HT_ ?_
              refine pU (i := 15) (N := some 34) (mb 21 65535) HT_ ?_
              refine pU (i := 16) (N := some 35) (mb 21 131071) HT_ ?_
              refine pU (i := 17) (N := some 36) (mb 21 262143) HT_ ?_
              refine pU (i := 18) (N := some 37) (mb 21 524287) HT_ ?_
              refine pU (i := 19) (N := some 38) (mb 21 1048575) HT_ ?_
              refine pA (i := 20) (N := some 39) (mb 21 2097151) HT_ ?_
              refine eA HT_ ?_
              try go_wp2
              go_ret
              exact ⟨rA, bG⟩
        · rw [if_neg c7] at H
          have c7b0 : decide (x15_1 < (l1.length : Int)) = false := decide_eq_false c7
          clear c7
          obtain ⟨t257, A40, H⟩ := bindE H
          try dsimp only at H
          obtain rfl := Option.some.inj H
          obtain ⟨Ao41, co41, eo41⟩ := Kd.N_slice HO_5.out
          subst eo41
          go_wp2_with (first | ((with_reducible refine gate_callee (f := 61) rfl ?_); refine gL (some 48) Try.func61 #[.slice A0 l0.length c0, .slice Ao41 x5_1.length co41] ?_; (with_reducible refine (impl_Covers.calls k1 _ _ l0 _ _ x5_1 t257 _ ?side1 ?side2 ?side3 ?side4 A40.out).mono ?_); (case side1 => exact cB HR0); (case side2 => exact HC0.out); (case side3 => repeat (first | exact (Kd.N_reads' HO_5.out).2.2 | (with_reducible refine Kd.C_alloc ?_ _) | (with_reducible refine Kd.C_drewN ?_ _) | (with_reducible refine Kd.C_drew ?_))); (case side4 => exact (Kd.N_reads' HO_5.out).2.1); rintro e w42 ⟨rfl, hb⟩; refine ⟨_, rfl, ?_⟩; have n0_ := Aside0.mk (Kd.N_below (by (with_reducible repeat (first | apply Kd.N_alloc | apply Kd.N_drewN | apply Kd.N_drew)); exact HO_5.out) hb); have n1_ := Aside0.mk (Kd.V_below (by (with_reducible repeat (first | apply Kd.V_alloc | apply Kd.V_drewN | apply Kd.V_drew)); exact HO_13.out) hb); have n2_ := Aside0.mk (below_step bA hb); clear HO_5; clear HO_13; clear HB; have HO_5 := n0_; have HO_13 := n1_; have HB := n2_; clear n0_ n1_ n2_; (try clear hb); (try clear hb2); (try clear hk); (try clear hi)))
          go_ret
          exact ⟨rA, bA⟩
  · replace c4 := Bool.eq_false_iff.mpr c4
    subst c4
    have H1 : (some false) = some r := by rw [if_neg (show ¬ (false = true) by decide)] at H; exact H
    clear H
    have H := H1
    clear H1
    obtain rfl := Option.some.inj H
    go_enter Try.func20, Try.ntmps20
    go_wp2_with (first | ((with_reducible refine gate_callee (f := 58) rfl ?_); refine gL (some 10) Try.func58 #[.int .i64 (l1.length : Int), .int .i64 1, .int .i64 6] ?_; (with_reducible refine (impl_InRange.calls (l1.length : Int) 1 6 false _ A3.out).mono ?_); rintro e w' ⟨rfl, ⟨nd, rfl⟩⟩; refine ⟨_, rfl, ?_⟩))
    go_ret
    exact ⟨rA, bA⟩

/-! ### impl_nextStage: function 84 -/
def impl_nextStage.f (l0 : List (S51)) (a1 : Int) : Option (List Int) := if (l0.length : Int) = 0 then (none) else (if 0 ≤ (Int.tmod (wrap64 (a1 + 1)) (l0.length : Int)) then (if (Int.tmod (wrap64 (a1 + 1)) (l0.length : Int)) < (l0.length : Int) then (some ((rd_T51 l0 (Int.tmod (wrap64 (a1 + 1)) (l0.length : Int))).f0)) else (none)) else (none))
set_option maxHeartbeats 8000000 in
set_option maxRecDepth 100000 in
theorem impl_nextStage.calls (P0_ : Nat → Prop) (A0 : Option Addr) (c0 : Nat) (l0 : List (S51)) (a1 : Int) (r : List Int) (w : World) (hs0 : Kd.V k51 51 w w.heap.size (fun k_ => P0_ k_) (.slice A0 l0.length c0) l0) (h : impl_nextStage.f l0 a1 = some r) :
    Calls Try.prog 84 #[.slice A0 l0.length c0, .int .i64 a1] w fun e w' => ∃ v0_ : Value, e = .returned (v0_) ∧ Kd.V (Kd.int .i64) 3 w' w.heap.size (fun k_ => (P0_ k_ ∨ w.heap.size ≤ k_)) v0_ r ∧ Below w.heap.size w w' := by
  have HO0 := Aside0.mk (show Kd.V k51 51 w w.heap.size (fun k_ => (P0_ k_ ∨ w.heap.size ≤ k_)) (.slice A0 l0.length c0) l0 from Kd.V_mono hs0 (fun k_ hk => .inl hk))
  have HB := Aside0.mk (Below.refl w.heap.size w)
  have H : (if (l0.length : Int) = 0 then (none) else (if 0 ≤ (Int.tmod (wrap64 (a1 + 1)) (l0.length : Int)) then (if (Int.tmod (wrap64 (a1 + 1)) (l0.length : Int)) < (l0.length : Int) then (some ((rd_T51 l0 (Int.tmod (wrap64 (a1 + 1)) (l0.length : Int))).f0)) else (none)) else (none))) = some r := h
  clear h
  have c3 : ¬ ((l0.length : Int) = 0) := ifN' H
  replace H := ifT' H
  have c3b0 : ((l0.length : Int) == 0) = false := beq_eq_false_iff_ne.mpr c3
  have c3b1 : ((l0.length : Int) != 0) = true := bne_iff_ne.mpr c3
  have c3b2 : ¬ (l0 = []) := fun h_ => c3 (by rw [h_]; rfl)
  obtain ⟨ji4, hji4⟩ : ∃ j_ : Int, (Int.tmod (wrap64 (a1 + 1)) (l0.length : Int)) = j_ := ⟨_, rfl⟩
  replace H : (if 0 ≤ (ji4) then (if (ji4) < (l0.length : Int) then (some ((rd_T51 l0 (ji4)).f0)) else (none)) else (none)) = some r := by first | (rw [hji4] at H; exact H) | (simp only [hji4] at H ⊢; exact H)
  have c5 : 0 ≤ (ji4) := ifN H
  replace H := ifT H
  have c5b0 : decide (0 ≤ (ji4)) = true := decide_eq_true c5
  clear c5
  have c6 : (ji4) < (l0.length : Int) := ifN H
  replace H := ifT H
  have c6b0 : decide ((ji4) < (l0.length : Int)) = true := decide_eq_true c6
  clear c6
  obtain rfl := Option.some.inj H
  have p374 : 0 ≤ ((ji4) : Int) := dA
  have q374 : (ji4) < (l0.length : Int) := dA
  obtain ⟨ad374, A374_0, c374_0, e374, hx374_0, hx374_1, hl374_0, hi374_0⟩ := at_T51 (Kd.V_reads' HO0.out).2.2 (ji4) p374 q374
  cases e374
  obtain ⟨ce374, hce374, hMe374, hcc374⟩ := Kd.V_get HO0.out z51 (ji4) p374 (by first | exact q374 | exact dA | (have e_ := (Kd.V_reads' HO0.out).1; omega))
  obtain ⟨ua374_0, uc374_0, rfl, ul374_0, ge374_0⟩ := k51_openF hMe374
  have hv374_0 := hcc374 0 _ rfl
  rw [Nat.add_zero] at hv374_0
  replace hv374_0 := Option.some.inj (hv374_0.symm.trans hx374_0)
  injection hv374_0 with hva_ hvn_ hvc_
  rw [hva_] at ge374_0
  rw [hvc_] at ul374_0
  have HL374_0 := Aside0.mk (show Kd.V (Kd.int .i64) 3 _ w.heap.size _ _ ((rd_T51 l0 (ji4)).f0) from Kd.V_mk ul374_0 ge374_0)
  clear hva_ hvn_ hvc_ ge374_0 ul374_0
  clear hcc374 hce374
  have HR374_0 := Aside0.mk hi374_0
  have HC374_0 := Aside0.mk hl374_0
  clear hi374_0 hl374_0
  replace p374 := eq_true p374
  replace q374 := eq_true q374
  go_enter Try.func84, Try.ntmps84
  go_wp2
  go_ret
  exact ⟨_, by first | rfl | (simp [errW_none, errW_some] <;> rfl) | (simp only [← hji4]; first | rfl | (simp [errW_none, errW_some] <;> rfl)) | (simp [*, errW_none, errW_some] <;> rfl), by (with_reducible repeat (first | apply Kd.V_alloc | apply Kd.V_drewN | apply Kd.V_drew)); exact HL374_0.out, bA⟩

/-! ### impl_longOf: function 65 -/
def impl_longOf.f (k : Nat) (l0 : List (S58)) (l1 : List (S51)) (a2 : Int) : Option (Int) := if 0 ≤ a2 then (if a2 < (l1.length : Int) then ((impl_nextStage.f l1 a2).bind fun t377 => ((impl_ClearBetween.f k l0 ((rd_T51 l1 a2).f0) t377).bind fun t380 => (some (wrap64 (((rd_T51 l1 a2).f1) + t380))))) else (none)) else (none)
theorem impl_longOf.mono : ∀ a0 a1 a2 k, LeO (impl_longOf.f k a0 a1 a2) (impl_longOf.f (k + 1) a0 a1 a2) := by
  intro a0 a1 a2 k
  unfold impl_longOf.f
  repeat' first | (with_reducible first | exact LeO.refl _ | exact LeO.none _ | refine LeO.ite ?_ ?_ | refine LeO.bind ?_ (fun _ => ?_) | exact impl_ClearBetween.mono _ _ _ _) | exact LeO.none _ | refine LeO.ite ?_ ?_ | refine LeO.bind ?_ (fun _ => ?_) | exact impl_ClearBetween.mono _ _ _ _
def impl_longOf.T1 : Bool × List (List Nat × List Nat) := (true, [([], []), ([], []), ([0, 1], [0, 1]), ([2], [2]), ([3], [3]), ([], []), ([], []), ([], []), ([6, 7], [6, 7]), ([8], [8]), ([9], [9]), ([], []), ([], []), ([11, 12], [11, 12]), ([5, 10, 13, 13], [5, 10, 13]), ([4, 14], [4, 14]), ([15, 14, 0, 1, 2, 3, 4, 5, 6, 7, 8, 9, 10, 11, 12, 13, 14, 15], [15])])
def impl_longOf.B1 : List Nat := [0, 0, 3, 7, 15, 0, 0, 0, 192, 448, 960, 0, 0, 6144, 16352, 32767, 65535]
theorem impl_longOf.tab1 : rtab .any (opsOf Try.f65 1) = impl_longOf.T1 := by kernel_rfl
theorem impl_longOf.bits1 : waitsOk impl_longOf.T1.2 impl_longOf.B1 = true := by kernel_rfl
set_option maxHeartbeats 8000000 in
set_option maxRecDepth 100000 in
theorem impl_longOf.calls (k : Nat) (A0 : Option Addr) (c0 : Nat) (l0 : List (S58)) (A1 : Option Addr) (c1 : Nat) (l1 : List (S51)) (a2 : Int) (r : Int) (w : World) (hr0 : Kd.C k58 w A0 l0.length l0) (hc0 : l0.length ≤ c0) (hr1 : Kd.C k51 w A1 l1.length l1) (hc1 : l1.length ≤ c1) (h : impl_longOf.f k l0 l1 a2 = some r) :
    Calls Try.prog 65 #[.slice A0 l0.length c0, .slice A1 l1.length c1, .int .i64 a2] w fun e w' => e = .returned (.int .i64 r) ∧ Below w.heap.size w w' := by
  have HR0 := Aside0.mk hr0
  have HC0 := Aside0.mk hc0
  clear hr0 hc0
  have HR1 := Aside0.mk hr1
  have HC1 := Aside0.mk hc1
  clear hr1 hc1
  have HB := Aside0.mk (Below.refl w.heap.size w)
  have H : (if 0 ≤ a2 then (if a2 < (l1.length : Int) then ((impl_nextStage.f l1 a2).bind fun t377 => ((impl_ClearBetween.f k l0 ((rd_T51 l1 a2).f0) t377).bind fun t380 => (some (wrap64 (((rd_T51 l1 a2).f1) + t380))))) else (none)) else (none)) = some r := h
  clear h
  have c4 : 0 ≤ a2 := ifN H
  replace H := ifT H
  have c4b0 : decide (0 ≤ a2) = true := decide_eq_true c4
  clear c4
  have c5 : a2 < (l1.length : Int) := ifN H
  replace H := ifT H
  have c5b0 : decide (a2 < (l1.length : Int)) = true := decide_eq_true c5
  clear c5
  obtain ⟨t377, A6, H⟩ := bindE H
  try dsimp only at H
  obtain ⟨t380, A7, H⟩ := bindE H
  try dsimp only at H
  obtain rfl := Option.some.inj H
  go_enter Try.func65, Try.ntmps65
  try go_wp2
  have HBo := HB
  replace HB := Aside0.mk (below_drew1 HB.out)
  have p375 : 0 ≤ (a2 : Int) := dA
  have q375 : a2 < (l1.length : Int) := dA
  obtain ⟨ad375, A375_0, c375_0, e375, hx375_0, hx375_1, hl375_0, hi375_0⟩ := at_T51 HR1.out a2 p375 q375
  have hw375_1 := hx375_1
  have hw375_0 := hx375_0
  cases e375
  replace hx375_0 := hC HB hx375_0
  replace hx375_1 := hC HB hx375_1
  have HR375_0 := Aside0.mk hi375_0
  have HC375_0 := Aside0.mk hl375_0
  clear hi375_0 hl375_0
  replace p375 := eq_true p375
  replace q375 := eq_true q375
  have p376 : 0 ≤ (a2 : Int) := dA
  have q376 : a2 < (l1.length : Int) := dA
  obtain ⟨ad376, A376_0, c376_0, e376, hx376_0, hx376_1, hl376_0, hi376_0⟩ := at_T51 HR1.out a2 p376 q376
  have hw376_1 := hx376_1
  have hw376_0 := hx376_0
  obtain rfl : ad375 = ad376 := (by injection e376)
  replace hx376_0 := hC HB hx376_0
  replace hx376_1 := hC HB hx376_1
  have HR376_0 := Aside0.mk hi376_0
  have HC376_0 := Aside0.mk hl376_0
  clear hi376_0 hl376_0
  replace p376 := eq_true p376
  replace q376 := eq_true q376
  have ea_ := Option.some.inj (hx375_0.symm.trans hx376_0)
  injection ea_ with ea_ en_ ec_
  subst ea_
  subst ec_
  clear en_
  refine start_ (n := 17) (S := fun w' => w'.cell? (ad375.add ((a2).toNat * 2)) = some (.slice A375_0 ((rd_T51 l1 a2).f0).length c375_0) ∧ w'.cell? ⟨(ad375.add ((a2).toNat * 2)).block, (ad375.add ((a2).toNat * 2)).off + 1, none⟩ = some (.int .i64 ((rd_T51 l1 a2).f1)) ∧ w'.cell? (ad375.add ((a2).toNat * 2)) = some (.slice A375_0 ((rd_T51 l1 a2).f0).length c375_0) ∧ w'.cell? ⟨(ad375.add ((a2).toNat * 2)).block, (ad375.add ((a2).toNat * 2)).off + 1, none⟩ = some (.int .i64 ((rd_T51 l1 a2).f1))) (ds := []) (mb 17 0) (by kernel_rfl) rfl rfl ⟨(hC HB hw375_0), (hC HB hw375_1), (hC HB hw376_0), (hC HB hw376_1)⟩ (fun hHeld => ?_); refine with_tabW impl_longOf.tab1 impl_longOf.bits1 (fun HT_ HW_ => ?_)
  generalize w.drew = w8 at HB HR375_0 HR376_0 hx375_0 hx375_1 hx376_0 hx376_1 hHeld ⊢
  refine pA (i := 0) (N := some 7) (mb 17 1) HT_ ?_
  refine pA (i := 1) (N := some 8) (mb 17 3) HT_ ?_
  refine pA (i := 2) (N := some 9) (mb 17 7) HT_ ?_
  refine pA (i := 3) (N := some 10) (mb 17 15) HT_ ?_
  refine pA (i := 5) (N := some 12) (mb 17 47) HT_ ?_
  refine pA (i := 6) (N := some 13) (mb 17 111) HT_ ?_
  refine pA (i := 7) (N := some 14) (mb 17 239) HT_ ?_
  refine pA (i := 8) (N := some 15) (mb 17 495) HT_ ?_
  refine pA (i := 9) (N := some 16) (mb 17 1007) HT_ ?_
  refine pA (i := 11) (N := some 18) (mb 17 3055) HT_ ?_
  refine pA (i := 12) (N := some 19) (mb 17 7151) HT_ ?_
  refine tA4 (i := 4) (N := some 11) (mb 17 7167) HT_ HW_ hHeld ?_
  refine tA4 (i := 10) (N := some 17) (mb 17 8191) HT_ HW_ hHeld ?_
  refine oA (i := 13) (N := some 20) (mb 17 16383) HT_ (fun K hK => ?_)
  refine gA Try.func84 #[.slice (some ad375) l1.length c1, .int .i64 a2] ?_
  with_reducible refine (impl_nextStage.calls (fun k_ => k_ < w.heap.size) _ _ l1 a2 t377 _ ?side1 A6.out).mono ?_
  (case side1 => exact Kd.V_mk HC1.out (Kd.F_below (Kd.C_F k51_heap HR1.out) bA))
  rintro e w9 ⟨v378, rfl, ho0, hb⟩
  refine ⟨_, rfl, ?_⟩
  have HO379 := Aside0.mk (Kd.V_lower (Kd.V_mono (ok' := fun k_ => True) ho0 (fun k_ hk_ => trivial)) (below_size bA))
  replace HB := Aside0.mk (below_step bA hb)
  (try clear hb)
  (try clear hb2)
  (try clear hk)
  (try clear hi)
  (try clear ho0)
  obtain ⟨Ao10, co10, eo10⟩ := Kd.V_slice HO379.out
  (first | subst eo10 | (injection eo10 with f1_ f2_ f3_; have f4_ := f1_.symm; have f5_ := f3_.symm; clear f1_ f2_ f3_; subst f4_; subst f5_))
  refine hK.out _ _ ⟨(hC HB hw375_0), (hC HB hw375_1), (hC HB hw376_0), (hC HB hw376_1)⟩ (fun hHeld => ?_)
  clear hK K
  refine nA ?_
  refine oA (i := 14) (N := some 21) (mb 17 32767) HT_ (fun K hK => ?_)
  refine gA Try.func83 #[.slice A0 l0.length c0, .slice A375_0 ((rd_T51 l1 a2).f0).length c375_0, .slice Ao10 t377.length co10] ?_
  with_reducible refine (impl_ClearBetween.calls k _ _ l0 _ _ ((rd_T51 l1 a2).f0) _ _ t377 t380 _ ?side1 ?side2 ?side3 ?side4 ?side5 ?side6 A7.out).mono ?_
  (case side1 => exact cB HR0)
  (case side2 => exact HC0.out)
  (case side3 => exact cB HR376_0)
  (case side4 => exact HC376_0.out)
  (case side5 => repeat (first | exact (Kd.V_reads' HO379.out).2.2 | (with_reducible refine Kd.C_alloc ?_ _) | (with_reducible refine Kd.C_drewN ?_ _) | (with_reducible refine Kd.C_drew ?_)))
  (case side6 => exact (Kd.V_reads' HO379.out).2.1)
  rintro e w11 ⟨rfl, hb⟩
  refine ⟨_, rfl, ?_⟩
  replace HO379 := Aside0.mk (Kd.V_below (by (with_reducible repeat (first | apply Kd.V_alloc | apply Kd.V_drewN | apply Kd.V_drew)); exact HO379.out) hb)
  replace HB := Aside0.mk (below_step bA hb)
  (try clear hb)
  (try clear hb2)
  (try clear hk)
  (try clear hi)
  refine hK.out _ _ ⟨(hC HB hw375_0), (hC HB hw375_1), (hC HB hw376_0), (hC HB hw376_1)⟩ (fun hHeld => ?_)
  clear hK K
  refine nA ?_
  refine pA (i := 15) (N := some 22) (mb 17 65535) HT_ ?_
  refine pA (i := 16) (N := some 6) (mb 17 131071) HT_ ?_
  refine eA HT_ ?_
  try go_wp2
  go_ret
  exact ⟨rA, bA⟩

/-! ### impl_Cycle: function 24 -/
def impl_Cycle.l0 : Nat → List (S58) → List (S51) → Int → Int → Int → Option (Int)
  | 0, _, _, _, _, _ => none
  | k + 1, x0, x1, x5, x12, x13 => if x13 < x12 then ((impl_longOf.f k x0 x1 x13).bind fun t382 => (impl_Cycle.l0 k x0 x1 (wrap64 (x5 + t382)) x12 (wrap64 (x13 + 1)))) else (some x5)
def impl_Cycle.f (k : Nat) (l0 : List (S58)) (l1 : List (S51)) : Option (Int) := (impl_IsPlan.f k l0 l1).bind fun t381 => (if t381 = true then (impl_Cycle.l0 k l0 l1 0 (l1.length : Int) 0) else (some 0))
theorem impl_Cycle.mono_l : ∀ k, (∀ y0 y1 y2 y3 y4, LeO (impl_Cycle.l0 k y0 y1 y2 y3 y4) (impl_Cycle.l0 (k + 1) y0 y1 y2 y3 y4))
  | 0 => fun _ _ _ _ _ r h => by simp [impl_Cycle.l0] at h
  | k + 1 => by
    have ih0 := impl_Cycle.mono_l k
    · intro y0 y1 y2 y3 y4
      unfold impl_Cycle.l0
      repeat' first | (with_reducible first | exact LeO.refl _ | exact LeO.none _ | refine LeO.ite ?_ ?_ | refine LeO.bind ?_ (fun _ => ?_) | exact ih0 _ _ _ _ _ | exact impl_IsPlan.mono _ _ _ | exact impl_longOf.mono _ _ _ _) | exact LeO.none _ | refine LeO.ite ?_ ?_ | refine LeO.bind ?_ (fun _ => ?_) | exact ih0 _ _ _ _ _ | exact impl_IsPlan.mono _ _ _ | exact impl_longOf.mono _ _ _ _
theorem impl_Cycle.mono : ∀ a0 a1 k, LeO (impl_Cycle.f k a0 a1) (impl_Cycle.f (k + 1) a0 a1) := by
  intro a0 a1 k
  have ih0 := impl_Cycle.mono_l k
  unfold impl_Cycle.f
  repeat' first | (with_reducible first | exact LeO.refl _ | exact LeO.none _ | refine LeO.ite ?_ ?_ | refine LeO.bind ?_ (fun _ => ?_) | exact ih0 _ _ _ _ _ | exact impl_IsPlan.mono _ _ _ | exact impl_longOf.mono _ _ _ _) | exact LeO.none _ | refine LeO.ite ?_ ?_ | refine LeO.bind ?_ (fun _ => ?_) | exact ih0 _ _ _ _ _ | exact impl_IsPlan.mono _ _ _ | exact impl_longOf.mono _ _ _ _
set_option maxHeartbeats 8000000 in
set_option maxRecDepth 100000 in
theorem impl_Cycle.calls (k : Nat) (A0 : Option Addr) (c0 : Nat) (l0 : List (S58)) (A1 : Option Addr) (c1 : Nat) (l1 : List (S51)) (r : Int) (w : World) (hr0 : Kd.C k58 w A0 l0.length l0) (hc0 : l0.length ≤ c0) (hr1 : Kd.C k51 w A1 l1.length l1) (hc1 : l1.length ≤ c1) (h : impl_Cycle.f k l0 l1 = some r) :
    Calls Try.prog 24 #[.slice A0 l0.length c0, .slice A1 l1.length c1] w fun e w' => e = .returned (.int .i64 r) ∧ Below w.heap.size w w' := by
  have HR0 := Aside0.mk hr0
  have HC0 := Aside0.mk hc0
  clear hr0 hc0
  have HR1 := Aside0.mk hr1
  have HC1 := Aside0.mk hc1
  clear hr1 hc1
  have HB := Aside0.mk (Below.refl w.heap.size w)
  have H : ((impl_IsPlan.f k l0 l1).bind fun t381 => (if t381 = true then (impl_Cycle.l0 k l0 l1 0 (l1.length : Int) 0) else (some 0))) = some r := h
  clear h
  obtain ⟨t381, A3, H⟩ := bindE H
  try dsimp only at H
  by_cases c4 : t381 = true
  · subst c4
    have H1 : (impl_Cycle.l0 k l0 l1 0 (l1.length : Int) 0) = some r := by rw [if_pos rfl] at H; exact H
    clear H
    have H := H1
    clear H1
    have H' := Aside0.mk H
    clear H
    go_enter Try.func24, Try.ntmps24
    go_wp2_with (first | ((with_reducible refine gate_callee (f := 20) rfl ?_); refine gL (some 9) Try.func20 #[.slice A0 l0.length c0, .slice A1 l1.length c1] ?_; (with_reducible refine (impl_IsPlan.calls k _ _ l0 (fun k_ => k_ < w.heap.size) _ _ l1 true _ ?side1 ?side2 ?side3 A3.out).mono ?_); (case side1 => exact cO HR0); (case side2 => exact HC0.out); (case side3 => exact Kd.V_mk HC1.out (Kd.F_below (Kd.C_F k51_heap HR1.out) bA)); rintro e w5 ⟨rfl, hb⟩; refine ⟨_, rfl, ?_⟩; replace HB := Aside0.mk (below_step bA hb); (try clear hb); (try clear hb2); (try clear hk); (try clear hi)))
    go_loopg [5, 13] k (fun kq v5 v13 w' => ∃ (x5_1 : Int) (x13_1 : Int), v5 = .int .i64 x5_1 ∧ v13 = .int .i64 x13_1 ∧ Aside0 (impl_Cycle.l0 kq l0 l1 x5_1 (l1.length : Int) x13_1 = some r) ∧ Aside0 (kq ≤ k) ∧ Aside0 (Below w.heap.size w w'))
    case atStart => exact ⟨(0), (0), rS, rS, H', ⟨Nat.le_refl _⟩, ⟨bA⟩⟩
    case round =>
      clear H'
      try clear c1
      try clear c2
      try clear p2
      try clear c4
      obtain ⟨x5_1, x13_1, rfl, rfl, HA, HK1, HB⟩ := hrel
      cases gk with
      | zero => exact absurd HA.out (by simp [impl_Cycle.l0])
      | succ k1 =>
        have H := HA.out
        clear HA
        simp only [impl_Cycle.l0] at H
        by_cases c6 : x13_1 < (l1.length : Int)
        · rw [if_pos c6] at H
          have c6b0 : decide (x13_1 < (l1.length : Int)) = true := decide_eq_true c6
          clear c6
          obtain ⟨t382, A7, H⟩ := bindE H
          try dsimp only at H
          have H' := Aside0.mk H
          clear H
          go_wp2_with (first | ((with_reducible refine gate_callee (f := 65) rfl ?_); refine gL (some 20) Try.func65 #[.slice A0 l0.length c0, .slice A1 l1.length c1, .int .i64 x13_1] ?_; (with_reducible refine (impl_longOf.calls k1 _ _ l0 _ _ l1 x13_1 t382 _ ?side1 ?side2 ?side3 ?side4 A7.out).mono ?_); (case side1 => exact cB HR0); (case side2 => exact HC0.out); (case side3 => exact cB HR1); (case side4 => exact HC1.out); rintro e w8 ⟨rfl, hb⟩; refine ⟨_, rfl, ?_⟩; replace HB := Aside0.mk (below_step bA hb); (try clear hb); (try clear hb2); (try clear hk); (try clear hi)))
          go_roundg k1
          case measure => have := HK1.out; omega
          case rel => exact ⟨(wrap64 (x5_1 + t382)), (wrap64 (x13_1 + 1)), rS, rS, H', ⟨by have := HK1.out; omega⟩, ⟨bA⟩⟩
        · rw [if_neg c6] at H
          have c6b0 : decide (x13_1 < (l1.length : Int)) = false := decide_eq_false c6
          clear c6
          obtain rfl := Option.some.inj H
          go_wp2
          go_ret
          exact ⟨rA, bA⟩
  · replace c4 := Bool.eq_false_iff.mpr c4
    subst c4
    have H1 : (some 0) = some r := by rw [if_neg (show ¬ (false = true) by decide)] at H; exact H
    clear H
    have H := H1
    clear H1
    obtain rfl := Option.some.inj H
    go_enter Try.func24, Try.ntmps24
    go_wp2_with (first | ((with_reducible refine gate_callee (f := 20) rfl ?_); refine gL (some 9) Try.func20 #[.slice A0 l0.length c0, .slice A1 l1.length c1] ?_; (with_reducible refine (impl_IsPlan.calls k _ _ l0 (fun k_ => k_ < w.heap.size) _ _ l1 false _ ?side1 ?side2 ?side3 A3.out).mono ?_); (case side1 => exact cO HR0); (case side2 => exact HC0.out); (case side3 => exact Kd.V_mk HC1.out (Kd.F_below (Kd.C_F k51_heap HR1.out) bA)); rintro e w9 ⟨rfl, hb⟩; refine ⟨_, rfl, ?_⟩; replace HB := Aside0.mk (below_step bA hb); (try clear hb); (try clear hb2); (try clear hk); (try clear hi)))
    go_ret
    exact ⟨rA, bA⟩

/-! ### impl_StartOf: function 26 -/
mutual
def impl_StartOf.j0 : Nat → List (S58) → List (S51) → Int → Bool → Option (Int)
  | 0, _, _, _, _ => none
  | k + 1, x0, x1, x2, x22 => if x22 = true then (some (-1)) else (impl_StartOf.l0 k x0 x1 0 x2 0)
def impl_StartOf.l0 : Nat → List (S58) → List (S51) → Int → Int → Int → Option (Int)
  | 0, _, _, _, _, _ => none
  | k + 1, x0, x1, x7, x23, x24 => if x24 < x23 then ((impl_longOf.f k x0 x1 x24).bind fun t411 => (impl_StartOf.l0 k x0 x1 (wrap64 (x7 + t411)) x23 (wrap64 (x24 + 1)))) else (some x7)
end
def impl_StartOf.f (k : Nat) (l0 : List (S58)) (l1 : List (S51)) (a2 : Int) : Option (Int) := (impl_IsPlan.f k l0 l1).bind fun t410 => (if t410 = true then (if a2 < 0 then (impl_StartOf.j0 k l0 l1 a2 true) else (impl_StartOf.j0 k l0 l1 a2 (decide (a2 ≥ (l1.length : Int))))) else (impl_StartOf.j0 k l0 l1 a2 true))
theorem impl_StartOf.mono_l : ∀ k, (∀ y0 y1 y2 y3, LeO (impl_StartOf.j0 k y0 y1 y2 y3) (impl_StartOf.j0 (k + 1) y0 y1 y2 y3)) ∧ (∀ y0 y1 y2 y3 y4, LeO (impl_StartOf.l0 k y0 y1 y2 y3 y4) (impl_StartOf.l0 (k + 1) y0 y1 y2 y3 y4))
  | 0 => ⟨fun _ _ _ _ r h => by simp [impl_StartOf.j0] at h, fun _ _ _ _ _ r h => by simp [impl_StartOf.l0] at h⟩
  | k + 1 => by
    obtain ⟨ih0, ih1⟩ := impl_StartOf.mono_l k
    refine ⟨?_, ?_⟩
    · intro y0 y1 y2 y3
      unfold impl_StartOf.j0
      repeat' first | (with_reducible first | exact LeO.refl _ | exact LeO.none _ | refine LeO.ite ?_ ?_ | refine LeO.bind ?_ (fun _ => ?_) | exact ih0 _ _ _ _ | exact ih1 _ _ _ _ _ | exact impl_IsPlan.mono _ _ _ | exact impl_longOf.mono _ _ _ _) | exact LeO.none _ | refine LeO.ite ?_ ?_ | refine LeO.bind ?_ (fun _ => ?_) | exact ih0 _ _ _ _ | exact ih1 _ _ _ _ _ | exact impl_IsPlan.mono _ _ _ | exact impl_longOf.mono _ _ _ _
    · intro y0 y1 y2 y3 y4
      unfold impl_StartOf.l0
      repeat' first | (with_reducible first | exact LeO.refl _ | exact LeO.none _ | refine LeO.ite ?_ ?_ | refine LeO.bind ?_ (fun _ => ?_) | exact ih0 _ _ _ _ | exact ih1 _ _ _ _ _ | exact impl_IsPlan.mono _ _ _ | exact impl_longOf.mono _ _ _ _) | exact LeO.none _ | refine LeO.ite ?_ ?_ | refine LeO.bind ?_ (fun _ => ?_) | exact ih0 _ _ _ _ | exact ih1 _ _ _ _ _ | exact impl_IsPlan.mono _ _ _ | exact impl_longOf.mono _ _ _ _
theorem impl_StartOf.mono : ∀ a0 a1 a2 k, LeO (impl_StartOf.f k a0 a1 a2) (impl_StartOf.f (k + 1) a0 a1 a2) := by
  intro a0 a1 a2 k
  obtain ⟨ih0, ih1⟩ := impl_StartOf.mono_l k
  unfold impl_StartOf.f
  repeat' first | (with_reducible first | exact LeO.refl _ | exact LeO.none _ | refine LeO.ite ?_ ?_ | refine LeO.bind ?_ (fun _ => ?_) | exact ih0 _ _ _ _ | exact ih1 _ _ _ _ _ | exact impl_IsPlan.mono _ _ _ | exact impl_longOf.mono _ _ _ _) | exact LeO.none _ | refine LeO.ite ?_ ?_ | refine LeO.bind ?_ (fun _ => ?_) | exact ih0 _ _ _ _ | exact ih1 _ _ _ _ _ | exact impl_IsPlan.mono _ _ _ | exact impl_longOf.mono _ _ _ _
set_option maxHeartbeats 8000000 in
set_option maxRecDepth 100000 in
theorem impl_StartOf.calls (k : Nat) (A0 : Option Addr) (c0 : Nat) (l0 : List (S58)) (A1 : Option Addr) (c1 : Nat) (l1 : List (S51)) (a2 : Int) (r : Int) (w : World) (hr0 : Kd.C k58 w A0 l0.length l0) (hc0 : l0.length ≤ c0) (hr1 : Kd.C k51 w A1 l1.length l1) (hc1 : l1.length ≤ c1) (h : impl_StartOf.f k l0 l1 a2 = some r) :
    Calls Try.prog 26 #[.slice A0 l0.length c0, .slice A1 l1.length c1, .int .i64 a2] w fun e w' => e = .returned (.int .i64 r) ∧ Below w.heap.size w w' := by
  have HR0 := Aside0.mk hr0
  have HC0 := Aside0.mk hc0
  clear hr0 hc0
  have HR1 := Aside0.mk hr1
  have HC1 := Aside0.mk hc1
  clear hr1 hc1
  have HB := Aside0.mk (Below.refl w.heap.size w)
  have H : ((impl_IsPlan.f k l0 l1).bind fun t410 => (if t410 = true then (if a2 < 0 then (impl_StartOf.j0 k l0 l1 a2 true) else (impl_StartOf.j0 k l0 l1 a2 (decide (a2 ≥ (l1.length : Int))))) else (impl_StartOf.j0 k l0 l1 a2 true))) = some r := h
  clear h
  have HC4 := Aside0.mk H
  clear H
  go_enter Try.func26, Try.ntmps26
  go_upto_region 1 with (fail)
  go_cut [22] (fun v22 wc => ∃ (kq : Nat) (x22_3 : Bool), v22 = .bool x22_3 ∧ Aside0 (impl_StartOf.j0 kq l0 l1 a2 x22_3 = some r) ∧ Aside0 (kq ≤ k) ∧ Aside0 (Below w.heap.size w wc))
  case first =>
    have H := HC4.out
    clear HC4
    obtain ⟨t410, A5, H⟩ := bindE H
    try dsimp only at H
    by_cases c6 : t410 = true
    · subst c6
      have H1 : (if a2 < 0 then (impl_StartOf.j0 k l0 l1 a2 true) else (impl_StartOf.j0 k l0 l1 a2 (decide (a2 ≥ (l1.length : Int))))) = some r := by rw [if_pos rfl] at H; exact H
      clear H
      have H := H1
      clear H1
      by_cases c7 : a2 < 0
      · rw [if_pos c7] at H
        have c7b0 : decide (a2 < 0) = true := decide_eq_true c7
        clear c7
        (first | rw [c7b0] | (simp only [i64_w, i32_w]; rw [c7b0]) | skip)
        have H' := Aside0.mk H
        clear H
        go_wp2_with (first | ((with_reducible refine gate_callee (f := 20) rfl ?_); refine gL (some 11) Try.func20 #[.slice A0 l0.length c0, .slice A1 l1.length c1] ?_; (with_reducible refine (impl_IsPlan.calls k _ _ l0 (fun k_ => k_ < w.heap.size) _ _ l1 true _ ?side1 ?side2 ?side3 A5.out).mono ?_); (case side1 => exact cB HR0); (case side2 => exact HC0.out); (case side3 => exact Kd.V_mk HC1.out (Kd.F_below (Kd.C_F k51_heap HR1.out) bA)); rintro e w8 ⟨rfl, hb⟩; refine ⟨_, rfl, ?_⟩; replace HB := Aside0.mk (below_step bA hb); (try clear hb); (try clear hb2); (try clear hk); (try clear hi)))
        go_meet
        case rel => exact ⟨_, (true), rS, H', ⟨by first | omega | exact Nat.le_refl _⟩, ⟨bA⟩⟩
      · rw [if_neg c7] at H
        have c7b0 : decide (a2 < 0) = false := decide_eq_false c7
        clear c7
        (first | rw [c7b0] | (simp only [i64_w, i32_w]; rw [c7b0]) | skip)
        have H' := Aside0.mk H
        clear H
        go_wp2_with (first | ((with_reducible refine gate_callee (f := 20) rfl ?_); refine gL (some 11) Try.func20 #[.slice A0 l0.length c0, .slice A1 l1.length c1] ?_; (with_reducible refine (impl_IsPlan.calls k _ _ l0 (fun k_ => k_ < w.heap.size) _ _ l1 true _ ?side1 ?side2 ?side3 A5.out).mono ?_); (case side1 => exact cB HR0); (case side2 => exact HC0.out); (case side3 => exact Kd.V_mk HC1.out (Kd.F_below (Kd.C_F k51_heap HR1.out) bA)); rintro e w9 ⟨rfl, hb⟩; refine ⟨_, rfl, ?_⟩; replace HB := Aside0.mk (below_step bA hb); (try clear hb); (try clear hb2); (try clear hk); (try clear hi)))
        go_meet
        case rel => exact ⟨_, (decide (a2 ≥ (l1.length : Int))), rS, H', ⟨by first | omega | exact Nat.le_refl _⟩, ⟨bA⟩⟩
    · replace c6 := Bool.eq_false_iff.mpr c6
      subst c6
      have H1 : (impl_StartOf.j0 k l0 l1 a2 true) = some r := by rw [if_neg (show ¬ (false = true) by decide)] at H; exact H
      clear H
      have H := H1
      clear H1
      have H' := Aside0.mk H
      clear H
      go_wp2_with (first | ((with_reducible refine gate_callee (f := 20) rfl ?_); refine gL (some 11) Try.func20 #[.slice A0 l0.length c0, .slice A1 l1.length c1] ?_; (with_reducible refine (impl_IsPlan.calls k _ _ l0 (fun k_ => k_ < w.heap.size) _ _ l1 false _ ?side1 ?side2 ?side3 A5.out).mono ?_); (case side1 => exact cB HR0); (case side2 => exact HC0.out); (case side3 => exact Kd.V_mk HC1.out (Kd.F_below (Kd.C_F k51_heap HR1.out) bA)); rintro e w10 ⟨rfl, hb⟩; refine ⟨_, rfl, ?_⟩; replace HB := Aside0.mk (below_step bA hb); (try clear hb); (try clear hb2); (try clear hk); (try clear hi)))
      go_meet
      case rel => exact ⟨_, (true), rS, H', ⟨by first | omega | exact Nat.le_refl _⟩, ⟨bA⟩⟩
  case rest =>
    clear HC4
    try clear c1
    try clear c2
    try clear p2
    try clear c6
    try clear c7
    try clear c7b0
    obtain ⟨kq, x22_3, rfl, HA, HJ3, HB⟩ := hcut
    cases kq with
    | zero => exact absurd HA.out (by simp [impl_StartOf.j0])
    | succ kj3 =>
      have H := HA.out
      clear HA
      simp only [impl_StartOf.j0] at H
      by_cases c11 : x22_3 = true
      · subst c11
        have H1 : (some (-1)) = some r := by rw [if_pos rfl] at H; exact H
        clear H
        have H := H1
        clear H1
        obtain rfl := Option.some.inj H
        go_wp2
        go_ret
        exact ⟨rA, bA⟩
      · replace c11 := Bool.eq_false_iff.mpr c11
        subst c11
        have H1 : (impl_StartOf.l0 kj3 l0 l1 0 a2 0) = some r := by rw [if_neg (show ¬ (false = true) by decide)] at H; exact H
        clear H
        have H := H1
        clear H1
        have H' := Aside0.mk H
        clear H
        go_wp2
        go_loopg [7, 24] kj3 (fun kq v7 v24 w' => ∃ (x7_2 : Int) (x24_2 : Int), v7 = .int .i64 x7_2 ∧ v24 = .int .i64 x24_2 ∧ Aside0 (impl_StartOf.l0 kq l0 l1 x7_2 a2 x24_2 = some r) ∧ Aside0 (kq ≤ kj3) ∧ Aside0 (Below w.heap.size w w'))
        case atStart => exact ⟨(0), (0), rS, rS, H', ⟨Nat.le_refl _⟩, ⟨bA⟩⟩
        case round =>
          clear H'
          try clear c1
          try clear c2
          try clear p2
          try clear c6
          try clear c7
          try clear c7b0
          try clear c11
          try clear p2
          obtain ⟨x7_2, x24_2, rfl, rfl, HA, HK2, HB⟩ := hrel
          cases gk with
          | zero => exact absurd HA.out (by simp [impl_StartOf.l0])
          | succ k2 =>
            have H := HA.out
            clear HA
            simp only [impl_StartOf.l0] at H
            by_cases c12 : x24_2 < a2
            · rw [if_pos c12] at H
              have c12b0 : decide (x24_2 < a2) = true := decide_eq_true c12
              clear c12
              obtain ⟨t411, A13, H⟩ := bindE H
              try dsimp only at H
              have H' := Aside0.mk H
              clear H
              go_wp2_with (first | ((with_reducible refine gate_callee (f := 65) rfl ?_); refine gL (some 31) Try.func65 #[.slice A0 l0.length c0, .slice A1 l1.length c1, .int .i64 x24_2] ?_; (with_reducible refine (impl_longOf.calls k2 _ _ l0 _ _ l1 x24_2 t411 _ ?side1 ?side2 ?side3 ?side4 A13.out).mono ?_); (case side1 => exact cB HR0); (case side2 => exact HC0.out); (case side3 => exact cB HR1); (case side4 => exact HC1.out); rintro e w14 ⟨rfl, hb⟩; refine ⟨_, rfl, ?_⟩; replace HB := Aside0.mk (below_step bA hb); (try clear hb); (try clear hb2); (try clear hk); (try clear hi)))
              go_roundg k2
              case measure => have := HJ3.out; have := HK2.out; omega
              case rel => exact ⟨(wrap64 (x7_2 + t411)), (wrap64 (x24_2 + 1)), rS, rS, H', ⟨by have := HJ3.out; have := HK2.out; omega⟩, ⟨bA⟩⟩
            · rw [if_neg c12] at H
              have c12b0 : decide (x24_2 < a2) = false := decide_eq_false c12
              clear c12
              obtain rfl := Option.some.inj H
              go_wp2
              go_ret
              exact ⟨rA, bA⟩

end Go.Proofs.Ytbpnbflfpgakmaa.P
