/- Printed by myprint.py (wip/tools) over the kit's print: what Go's functions compute, and that they do. Lean checks it. -/
import Derived.Test.YtbpnbflfpgakmaaF0
import Derived.Test.YtbpnbflfpgakmaaFI04
namespace Go.Proofs.Ytbpnbflfpgakmaa.P
open Go.RowKit Go.Proofs.YtbpnbflfpgakmaaW.PrintWords Go.Proofs.YtbpnbflfpgakmaaW.PrintLast Go.Proofs.YtbpnbflfpgakmaaW.PrintMore Go.Proofs.Ytbpnbflfpgakmaa.Sq
attribute [local go_sem] max2_int min2_int max_two min_two max_three min_three max_four min_four
set_option linter.unusedVariables false
set_option linter.unusedSimpArgs false

/-! ### impl_FindPath: function 70 -/
def impl_FindPath.q (id : Int) (x : S58) : Bool := decide (x.f0 = id)
set_option maxHeartbeats 400000 in
set_option maxRecDepth 100000 in
theorem impl_FindPath.clo (id : Int) (g : Nat) (x : S58) (w : World) (hc : w.cell? ⟨g, 0, none⟩ = some (.int .i64 id)) :
    Calls Try.prog 88 #[.agg #[.int .i64 x.f0, .int .i64 x.f1, .int .i64 x.f2, .int .i64 x.f3], .pointer (some ⟨g, 0, none⟩)] w fun e w' => e = .returned (.bool (impl_FindPath.q id x)) ∧ Below w.heap.size w w' := by
  have hu := Try.underlying58
  have hg : g < w.heap.size := World.block_lt_of_cell? w _ hc
  go_enter Try.func88, Try.ntmps88
  go_wp2
  go_ret
  exact ⟨by unfold impl_FindPath.q; first | rfl | simp, (Below.refl _ _).alloc (Nat.le_refl _) _⟩
def impl_FindPath.ix (id : Int) : List S58 → Int → Int
  | [], _ => -1
  | x :: l, i => if impl_FindPath.q id x = true then i else impl_FindPath.ix id l (i + 1)
theorem impl_FindPath.ix_hit (id : Int) : ∀ (l : List S58) (i : Int) (m : Nat) (hm : m < l.length), (∀ j (hj : j < m), impl_FindPath.q id (l[j]'(by omega)) = false) → impl_FindPath.q id l[m] = true → impl_FindPath.ix id l i = i + m
  | [], i, m, hm, _, _ => absurd hm (by simp)
  | p :: l, i, 0, hm, _, h => by
    unfold impl_FindPath.ix
    rw [if_pos (show impl_FindPath.q id p = true from h)]
    simp
  | p :: l, i, m + 1, hm, hne, h => by
    unfold impl_FindPath.ix
    have h2 : impl_FindPath.q id p = false := hne 0 (by omega)
    rw [if_neg (by rw [h2]; decide), impl_FindPath.ix_hit id l (i + 1) m (by simpa using hm) (fun j hj => hne (j + 1) (by omega)) h]
    omega
theorem impl_FindPath.ix_miss (id : Int) : ∀ (l : List S58) (i : Int), (∀ j (hj : j < l.length), impl_FindPath.q id l[j] = false) → impl_FindPath.ix id l i = -1
  | [], i, _ => rfl
  | p :: l, i, h => by
    unfold impl_FindPath.ix
    have h2 : impl_FindPath.q id p = false := h 0 (by simp)
    rw [if_neg (by rw [h2]; decide), impl_FindPath.ix_miss id l (i + 1) (fun j hj => h (j + 1) (by simpa using hj))]
theorem impl_FindPath.rd_ (l : List S58) (j : Nat) (hj : j < l.length) : rd_T58 l (j : Int) = l[j] := by
  unfold rd_T58; simp [List.getD_eq_getElem?_getD, List.getElem?_eq_getElem hj]
set_option maxHeartbeats 4000000 in
set_option maxRecDepth 100000 in
theorem impl_FindPath.idx (id : Int) (g : Nat) (A0 : Option Addr) (c0 : Nat) (l0 : List S58) (w : World) (hr0 : Kd.C k58 w A0 l0.length l0) (hc0 : l0.length ≤ c0) (hc : w.cell? ⟨g, 0, none⟩ = some (.int .i64 id)) :
    Calls Try.prog 87 #[.slice A0 l0.length c0, .func (.func 88) #[] #[.pointer (some ⟨g, 0, none⟩)]] w fun e w' => e = .returned (.int .i64 (impl_FindPath.ix id l0 0)) ∧ Below w.heap.size w w' := by
  have hu := Try.underlying58
  have HC := Aside0.mk hc
  clear hc
  have HR0 := Aside0.mk hr0
  have HC0 := Aside0.mk hc0
  have hlen : l0.length ≤ 9223372036854775807 := hr0.2.1
  clear hr0 hc0
  have HB := Aside0.mk (Below.refl w.heap.size w)
  go_enter Try.func87, Try.ntmps87
  go_wp2
  go_loopg [5, 8] l0.length (fun gg v5 v8 w' => ∃ kk : Nat, v8 = .int .i64 kk ∧ Aside0 (kk ≤ l0.length) ∧ Aside0 (l0.length - kk ≤ gg) ∧ Aside0 (Below w.heap.size w w') ∧ Aside0 (∀ j (hj : j < kk) (hl : j < l0.length), impl_FindPath.q id l0[j] = false))
  case atStart => exact ⟨0, rfl, ⟨Nat.zero_le _⟩, ⟨by omega⟩, HB, ⟨fun j hj => absurd hj (Nat.not_lt_zero _)⟩⟩
  case round =>
    clear HB
    obtain ⟨kk, rfl, hk, hg, HB, HA⟩ := hrel
    by_cases hlt : kk < l0.length
    · have hltz : decide ((kk : Int) < (l0.length : Int)) = true := decide_eq_true (by omega)
      have hltn : decide (kk < l0.length) = true := decide_eq_true hlt
      have p0 : (0 : Int) ≤ (kk : Int) := by omega
      have q0 : (kk : Int) < (l0.length : Int) := by omega
      have HE := Aside0.mk (impl_FindPath.rd_ l0 kk hlt)
      obtain ⟨ad, e1, hx0, hx1, hx2, hx3⟩ := at_T58 HR0.out (kk : Int) p0 q0
      cases e1
      rw [Int.toNat_natCast] at hx0 hx1 hx2 hx3
      replace hx0 := hC HB hx0
      replace hx1 := hC HB hx1
      replace hx2 := hC HB hx2
      replace hx3 := hC HB hx3
      replace p0 := eq_true p0
      replace q0 := eq_true q0
      have hcl := fun (w' : World) (hb : Below w.heap.size w w') => impl_FindPath.clo id g (rd_T58 l0 (kk : Int)) w' ((hb.cell (World.block_lt_of_cell? w _ HC.out)).trans HC.out)
      cases hq : impl_FindPath.q id (rd_T58 l0 (kk : Int)) with
      | true =>
        rw [hq] at hcl
        have HCL := Aside0.mk hcl
        have HQ := Aside0.mk hq
        clear hcl hq
        go_wp2_with (go_at_call 88; refine (HCL.out _ HB.out).mono ?_; rintro e w1 ⟨rfl, hb1⟩)
        go_ret
        refine ⟨?_, below_step HB.out hb1⟩
        have hq := HQ.out
        rw [HE.out] at hq
        rw [impl_FindPath.ix_hit id l0 0 kk hlt (fun j hj => HA.out j hj (by omega)) hq, Int.zero_add]
        rfl
      | false =>
        rw [hq] at hcl
        have HCL := Aside0.mk hcl
        have HQ := Aside0.mk hq
        clear hcl hq
        go_wp2_with (go_at_call 88; refine (HCL.out _ HB.out).mono ?_; rintro e w1 ⟨rfl, hb1⟩)
        go_roundg (l0.length - (kk + 1))
        case measure => have := hg.out; omega
        case rel =>
          refine ⟨kk + 1, by go_num, ⟨by omega⟩, ⟨by omega⟩, ⟨below_step HB.out hb1⟩, ⟨fun j hj hl => ?_⟩⟩
          rcases Nat.lt_or_ge j kk with h3 | h3
          · exact HA.out j h3 hl
          · have h4 : j = kk := by omega
            subst h4
            rw [← HE.out]
            exact HQ.out
    · have hge : decide ((kk : Int) < (l0.length : Int)) = false := decide_eq_false (by omega)
      have hgen : decide (kk < l0.length) = false := decide_eq_false hlt
      go_wp2
      go_ret
      refine ⟨?_, HB.out⟩
      rw [impl_FindPath.ix_miss id l0 0 (fun j hj => HA.out j (by omega) hj)]
      rfl

def impl_FindPath.f (l0 : List S58) (a1 : Int) : Option Int := some (impl_FindPath.ix a1 l0 0)
set_option maxHeartbeats 400000 in
set_option maxRecDepth 100000 in
theorem impl_FindPath.calls (A0 : Option Addr) (c0 : Nat) (l0 : List S58) (a1 : Int) (r : Int) (w : World) (hr0 : Kd.C k58 w A0 l0.length l0) (hc0 : l0.length ≤ c0) (h : impl_FindPath.f l0 a1 = some r) :
    Calls Try.prog 70 #[.slice A0 l0.length c0, .int .i64 a1] w fun e w' => e = .returned (.int .i64 r) ∧ Below w.heap.size w w' := by
  obtain rfl := Option.some.inj h
  have HR0 := Aside0.mk hr0
  have HC0 := Aside0.mk hc0
  clear hr0 hc0 h
  go_enter Try.func70, Try.ntmps70
  go_wp2_with (go_at_call 87; refine (impl_FindPath.idx a1 w.heap.size A0 c0 l0 _ ?s1 HC0.out ?s2).mono ?_; (case s1 => exact Kd.C_alloc HR0.out _); (case s2 => simp); rintro e w1 ⟨rfl, hb1⟩)
  go_ret
  exact ⟨rfl, below_step (below_alloc (Below.refl _ _) _) hb1⟩

/-! ### impl_ArePaths: function 80 -/
def impl_ArePaths.l0 : Nat → List (S58) → List (S58) → Int → Int → Option (Bool)
  | 0, _, _, _, _ => none
  | k + 1, x0, x8, x9, x10 => if x10 < x9 then (if 0 ≤ x10 then (if x10 < (x8.length : Int) then ((impl_IsPath.f ((rd_T58 x8 x10).f0) ((rd_T58 x8 x10).f1) ((rd_T58 x8 x10).f2) ((rd_T58 x8 x10).f3)).bind fun t211 => (if t211 = true then (if x10 > 0 then (if 0 ≤ (wrap64 (x10 - 1)) then (if (wrap64 (x10 - 1)) < (x0.length : Int) then (if ((rd_T58 x8 x10).f0) ≤ ((rd_T58 x0 (wrap64 (x10 - 1))).f0) then (some false) else (impl_ArePaths.l0 k x0 x8 x9 (wrap64 (x10 + 1)))) else (none)) else (none)) else (impl_ArePaths.l0 k x0 x8 x9 (wrap64 (x10 + 1)))) else (some false))) else (none)) else (none)) else (some true)
def impl_ArePaths.f (k : Nat) (l0 : List (S58)) : Option (Bool) := if (l0.length : Int) > 12 then (some false) else (impl_ArePaths.l0 k l0 l0 (l0.length : Int) 0)
theorem impl_ArePaths.mono_l : ∀ k, (∀ y0 y1 y2 y3, LeO (impl_ArePaths.l0 k y0 y1 y2 y3) (impl_ArePaths.l0 (k + 1) y0 y1 y2 y3))
  | 0 => fun _ _ _ _ r h => by simp [impl_ArePaths.l0] at h
  | k + 1 => by
    have ih0 := impl_ArePaths.mono_l k
    · intro y0 y1 y2 y3
      unfold impl_ArePaths.l0
      repeat' first | (with_reducible first | exact LeO.refl _ | exact LeO.none _ | refine LeO.ite ?_ ?_ | refine LeO.bind ?_ (fun _ => ?_) | exact ih0 _ _ _ _) | exact LeO.none _ | refine LeO.ite ?_ ?_ | refine LeO.bind ?_ (fun _ => ?_) | exact ih0 _ _ _ _
theorem impl_ArePaths.mono : ∀ a0 k, LeO (impl_ArePaths.f k a0) (impl_ArePaths.f (k + 1) a0) := by
  intro a0 k
  have ih0 := impl_ArePaths.mono_l k
  unfold impl_ArePaths.f
  repeat' first | (with_reducible first | exact LeO.refl _ | exact LeO.none _ | refine LeO.ite ?_ ?_ | refine LeO.bind ?_ (fun _ => ?_) | exact ih0 _ _ _ _) | exact LeO.none _ | refine LeO.ite ?_ ?_ | refine LeO.bind ?_ (fun _ => ?_) | exact ih0 _ _ _ _
def impl_ArePaths.T6 : Bool × List (List Nat × List Nat) := (true, [([], []), ([0], [0]), ([1], [1]), ([2, 1], [2]), ([3], [3]), ([4, 3], [3, 4]), ([5, 3, 3], [3, 5]), ([6], [6]), ([7, 6], [6, 7]), ([6], [6]), ([6], [6]), ([10, 6], [6, 10]), ([9, 11, 6], [6, 9, 11]), ([12, 6], [6, 12]), ([13, 6], [6, 13]), ([8, 14, 6], [6, 8, 14]), ([6, 15, 3], [3, 6, 15]), ([3, 16], [3, 16])])
def impl_ArePaths.B6 : List Nat := [0, 1, 3, 7, 15, 31, 63, 127, 255, 127, 127, 1151, 3711, 7807, 15999, 32767, 65535, 131071]
theorem impl_ArePaths.tab6 : rtab .any (opsOf Try.f80 6) = impl_ArePaths.T6 := by kernel_rfl
theorem impl_ArePaths.bits6 : waitsOk impl_ArePaths.T6.2 impl_ArePaths.B6 = true := by kernel_rfl
set_option maxHeartbeats 8000000 in
set_option maxRecDepth 100000 in
theorem impl_ArePaths.calls (k : Nat) (A0 : Option Addr) (c0 : Nat) (l0 : List (S58)) (r : Bool) (w : World) (hr0 : Kd.C k58 w A0 l0.length l0) (hc0 : l0.length ≤ c0) (h : impl_ArePaths.f k l0 = some r) :
    Calls Try.prog 80 #[.slice A0 l0.length c0] w fun e w' => e = .returned (.bool r) ∧ Below w.heap.size w w' := by
  have hu58 := Try.underlying58
  have HR0 := Aside0.mk hr0
  have HC0 := Aside0.mk hc0
  clear hr0 hc0
  have HB := Aside0.mk (Below.refl w.heap.size w)
  have H : (if (l0.length : Int) > 12 then (some false) else (impl_ArePaths.l0 k l0 l0 (l0.length : Int) 0)) = some r := h
  clear h
  by_cases c2 : (l0.length : Int) > 12
  · rw [if_pos c2] at H
    have c2b0 : decide (12 < (l0.length : Int)) = true := decide_eq_true c2
    have c2b1 : decide (12 < l0.length) = true := decide_eq_true (by omega)
    clear c2
    obtain rfl := Option.some.inj H
    go_enter Try.func80, Try.ntmps80
    go_wp2
    go_ret
    exact ⟨rA, bA⟩
  · rw [if_neg c2] at H
    have c2b0 : decide (12 < (l0.length : Int)) = false := decide_eq_false c2
    have c2b1 : decide (12 < l0.length) = false := decide_eq_false (by omega)
    clear c2
    have H' := Aside0.mk H
    clear H
    go_enter Try.func80, Try.ntmps80
    go_wp2
    go_loopg [10] k (fun kq v10 w' => ∃ (x10_1 : Int), v10 = .int .i64 x10_1 ∧ Aside0 (impl_ArePaths.l0 kq l0 l0 (l0.length : Int) x10_1 = some r) ∧ Aside0 (kq ≤ k) ∧ Aside0 (Below w.heap.size w w'))
    case atStart => exact ⟨(0), rS, H', ⟨Nat.le_refl _⟩, ⟨bA⟩⟩
    case round =>
      clear H'
      try clear c2
      try clear c2b0
      try clear c2b1
      try clear p2
      obtain ⟨x10_1, rfl, HA, HK1, HB⟩ := hrel
      cases gk with
      | zero => exact absurd HA.out (by simp [impl_ArePaths.l0])
      | succ k1 =>
        have H := HA.out
        clear HA
        simp only [impl_ArePaths.l0] at H
        by_cases c3 : x10_1 < (l0.length : Int)
        · rw [if_pos c3] at H
          have c3b0 : decide (x10_1 < (l0.length : Int)) = true := decide_eq_true c3
          clear c3
          have c4 : 0 ≤ x10_1 := ifN H
          replace H := ifT H
          have c4b0 : decide (0 ≤ x10_1) = true := decide_eq_true c4
          clear c4
          have c5 : x10_1 < (l0.length : Int) := ifN H
          replace H := ifT H
          have c5b0 : decide (x10_1 < (l0.length : Int)) = true := decide_eq_true c5
          clear c5
          obtain ⟨t211, A6, H⟩ := bindE H
          try dsimp only at H
          by_cases c7 : t211 = true
          · subst c7
            have H1 : (if x10_1 > 0 then (if 0 ≤ (wrap64 (x10_1 - 1)) then (if (wrap64 (x10_1 - 1)) < (l0.length : Int) then (if ((rd_T58 l0 x10_1).f0) ≤ ((rd_T58 l0 (wrap64 (x10_1 - 1))).f0) then (some false) else (impl_ArePaths.l0 k1 l0 l0 (l0.length : Int) (wrap64 (x10_1 + 1)))) else (none)) else (none)) else (impl_ArePaths.l0 k1 l0 l0 (l0.length : Int) (wrap64 (x10_1 + 1)))) = some r := by rw [if_pos rfl] at H; exact H
            clear H
            have H := H1
            clear H1
            by_cases c8 : x10_1 > 0
            · rw [if_pos c8] at H
              have c8b0 : decide (0 < x10_1) = true := decide_eq_true c8
              clear c8
              obtain ⟨ji9, hji9⟩ : ∃ j_ : Int, (wrap64 (x10_1 - 1)) = j_ := ⟨_, rfl⟩
              replace H : (if 0 ≤ (ji9) then (if (ji9) < (l0.length : Int) then (if ((rd_T58 l0 x10_1).f0) ≤ ((rd_T58 l0 (ji9)).f0) then (some false) else (impl_ArePaths.l0 k1 l0 l0 (l0.length : Int) (wrap64 (x10_1 + 1)))) else (none)) else (none)) = some r := by first | (rw [hji9] at H; exact H) | (simp only [hji9] at H ⊢; exact H)
              (try rw [hji9] at A6)
              have hji9w : (IntKind.i64.wrap (x10_1 - 1)) = ji9 := (i64_w _).trans hji9
              have c10 : 0 ≤ (ji9) := ifN H
              replace H := ifT H
              have c10b0 : decide (0 ≤ (ji9)) = true := decide_eq_true c10
              clear c10
              have c11 : (ji9) < (l0.length : Int) := ifN H
              replace H := ifT H
              have c11b0 : decide ((ji9) < (l0.length : Int)) = true := decide_eq_true c11
              clear c11
              by_cases c12 : ((rd_T58 l0 x10_1).f0) ≤ ((rd_T58 l0 (ji9)).f0)
              · rw [if_pos c12] at H
                have c12b0 : decide (((rd_T58 l0 x10_1).f0) ≤ ((rd_T58 l0 (ji9)).f0)) = true := decide_eq_true c12
                clear c12
                obtain rfl := Option.some.inj H
                have p209 : 0 ≤ (x10_1 : Int) := dA
                have q209 : x10_1 < (l0.length : Int) := dA
                obtain ⟨ad209, e209, hx209_0, hx209_1, hx209_2, hx209_3⟩ := at_T58 HR0.out x10_1 p209 q209
                cases e209
                replace hx209_0 := hC HB hx209_0
                replace hx209_1 := hC HB hx209_1
                replace hx209_2 := hC HB hx209_2
                replace hx209_3 := hC HB hx209_3
                replace p209 := eq_true p209
                replace q209 := eq_true q209
                try go_wp2_with (first | ((with_reducible refine gate_dst (N := 4) rfl ?_); refine bE (N := 4) (cs := #[.int .i64 0, .int .i64 0, .int .i64 0, .int .i64 0]) (t := 58) ?_; intro gb210 hg w13 hbox hb; have n0_ := Aside0.mk (below_step bA hb); have n1_ := Aside0.mk (hbox); have n2_ := Aside0.mk ((by rw [hg]; exact (below_size bA) : w.heap.size ≤ gb210)); have n3_ := Aside0.mk ((by rw [hg]; exact (below_size bA) : w.heap.size ≤ gb210)); clear HB; have HB := n0_; have BK210 := n1_; have GW210 := n2_; have GE210 := n3_; clear n0_ n1_ n2_ n3_; clear hb hbox hg; obtain ⟨hcz14_0, hcz14_1, hcz14_2, hcz14_3, hfz14_0, hfz14_1, hfz14_2, hfz14_3⟩ := blkc4 BK210))
                have n0_ : Aside0 (((((w13.setCell ⟨gb210, 0, none⟩ (.int .i64 ((rd_T58 l0 x10_1).f0))).setCell ⟨gb210, 1, none⟩ (.int .i64 ((rd_T58 l0 x10_1).f1))).setCell ⟨gb210, 2, none⟩ (.int .i64 ((rd_T58 l0 x10_1).f2))).setCell ⟨gb210, 3, none⟩ (.int .i64 ((rd_T58 l0 x10_1).f3))).heap[gb210]? = some (.cells #[.int .i64 ((rd_T58 l0 x10_1).f0), .int .i64 ((rd_T58 l0 x10_1).f1), .int .i64 ((rd_T58 l0 x10_1).f2), .int .i64 ((rd_T58 l0 x10_1).f3)] 58 (0, 0))) := ⟨by (with_reducible repeat (first | refine blk_drewN ?_ _ | refine blk_drew ?_ | refine blk_alloc ?_ _)); refine blk_put (cs := #[.int .i64 ((rd_T58 l0 x10_1).f0), .int .i64 ((rd_T58 l0 x10_1).f1), .int .i64 ((rd_T58 l0 x10_1).f2), .int .i64 0]) ?_ 3 _ rfl; (with_reducible repeat (first | refine blk_drewN ?_ _ | refine blk_drew ?_ | refine blk_alloc ?_ _)); refine blk_put (cs := #[.int .i64 ((rd_T58 l0 x10_1).f0), .int .i64 ((rd_T58 l0 x10_1).f1), .int .i64 0, .int .i64 0]) ?_ 2 _ rfl; (with_reducible repeat (first | refine blk_drewN ?_ _ | refine blk_drew ?_ | refine blk_alloc ?_ _)); refine blk_put (cs := #[.int .i64 ((rd_T58 l0 x10_1).f0), .int .i64 0, .int .i64 0, .int .i64 0]) ?_ 1 _ rfl; (with_reducible repeat (first | refine blk_drewN ?_ _ | refine blk_drew ?_ | refine blk_alloc ?_ _)); refine blk_put (cs := #[.int .i64 0, .int .i64 0, .int .i64 0, .int .i64 0]) ?_ 0 _ rfl; (with_reducible repeat (first | refine blk_drewN ?_ _ | refine blk_drew ?_ | refine blk_alloc ?_ _)); exact BK210.out⟩
                have n1_ : Aside0 (Below w.heap.size w ((((w13.setCell ⟨gb210, 0, none⟩ (.int .i64 ((rd_T58 l0 x10_1).f0))).setCell ⟨gb210, 1, none⟩ (.int .i64 ((rd_T58 l0 x10_1).f1))).setCell ⟨gb210, 2, none⟩ (.int .i64 ((rd_T58 l0 x10_1).f2))).setCell ⟨gb210, 3, none⟩ (.int .i64 ((rd_T58 l0 x10_1).f3)))) := ⟨bG⟩
                (try clear BK210)
                (try clear HB)
                generalize ((((w13.setCell ⟨gb210, 0, none⟩ (.int .i64 ((rd_T58 l0 x10_1).f0))).setCell ⟨gb210, 1, none⟩ (.int .i64 ((rd_T58 l0 x10_1).f1))).setCell ⟨gb210, 2, none⟩ (.int .i64 ((rd_T58 l0 x10_1).f2))).setCell ⟨gb210, 3, none⟩ (.int .i64 ((rd_T58 l0 x10_1).f3))) = w15 at n0_ n1_ ⊢
                have BK210 := n0_
                have HB := n1_
                clear n0_ n1_
                replace BK210 := Aside0.mk (blk_drew BK210.out)
                have HBo := HB
                replace HB := Aside0.mk (below_drew1 HB.out)
                have p212 : 0 ≤ ((ji9) : Int) := dA
                have q212 : (ji9) < (l0.length : Int) := dA
                obtain ⟨ad212, e212, hx212_0, hx212_1, hx212_2, hx212_3⟩ := at_T58 HR0.out (ji9) p212 q212
                have hw212_3 := hx212_3
                have hw212_2 := hx212_2
                have hw212_1 := hx212_1
                have hw212_0 := hx212_0
                obtain rfl : ad209 = ad212 := (by injection e212)
                replace hx212_0 := hC HB hx212_0
                replace hx212_1 := hC HB hx212_1
                replace hx212_2 := hC HB hx212_2
                replace hx212_3 := hC HB hx212_3
                replace p212 := eq_true p212
                replace q212 := eq_true q212
                refine start_ (n := 18) (S := fun w' => w'.cell? ⟨gb210, 0, none⟩ = some (.int .i64 ((rd_T58 l0 x10_1).f0)) ∧ w'.cell? ⟨gb210, 1, none⟩ = some (.int .i64 ((rd_T58 l0 x10_1).f1)) ∧ w'.cell? ⟨gb210, 2, none⟩ = some (.int .i64 ((rd_T58 l0 x10_1).f2)) ∧ w'.cell? ⟨gb210, 3, none⟩ = some (.int .i64 ((rd_T58 l0 x10_1).f3)) ∧ w'.cell? (ad209.add (((ji9)).toNat * 4)) = some (.int .i64 ((rd_T58 l0 (ji9)).f0)) ∧ w'.cell? ⟨(ad209.add (((ji9)).toNat * 4)).block, (ad209.add (((ji9)).toNat * 4)).off + 1, none⟩ = some (.int .i64 ((rd_T58 l0 (ji9)).f1)) ∧ w'.cell? ⟨(ad209.add (((ji9)).toNat * 4)).block, (ad209.add (((ji9)).toNat * 4)).off + 2, none⟩ = some (.int .i64 ((rd_T58 l0 (ji9)).f2)) ∧ w'.cell? ⟨(ad209.add (((ji9)).toNat * 4)).block, (ad209.add (((ji9)).toNat * 4)).off + 3, none⟩ = some (.int .i64 ((rd_T58 l0 (ji9)).f3))) (ds := []) (mb 18 0) (by kernel_rfl) rfl rfl ⟨(blk_cell BK210.out 0).trans rfl, (blk_cell BK210.out 1).trans rfl, (blk_cell BK210.out 2).trans rfl, (blk_cell BK210.out 3).trans rfl, (hC HB hw212_0), (hC HB hw212_1), (hC HB hw212_2), (hC HB hw212_3)⟩ (fun hHeld => ?_); refine with_tabW impl_ArePaths.tab6 impl_ArePaths.bits6 (fun HT_ HW_ => ?_)
                generalize w15.drew = w16 at BK210 HB hx212_0 hx212_1 hx212_2 hx212_3 hHeld ⊢
                refine tA8 (i := 0) (N := some 15) (mb 18 1) HT_ HW_ hHeld ?_
                refine oA (i := 1) (N := some 16) (mb 18 3) HT_ (fun K hK => ?_)
                refine gA Try.func95 #[.agg #[.int .i64 ((rd_T58 l0 x10_1).f0), .int .i64 ((rd_T58 l0 x10_1).f1), .int .i64 ((rd_T58 l0 x10_1).f2), .int .i64 ((rd_T58 l0 x10_1).f3)]] ?_
                with_reducible refine (impl_IsPath.calls ((rd_T58 l0 x10_1).f0) ((rd_T58 l0 x10_1).f1) ((rd_T58 l0 x10_1).f2) ((rd_T58 l0 x10_1).f3) true _ A6.out).mono ?_
                rintro e w17 ⟨rfl, hb⟩
                refine ⟨_, rfl, ?_⟩
                replace BK210 := Aside0.mk (blk_below (g := gb210) (bK BK210) hb)
                replace HB := Aside0.mk (below_step bG hb)
                (try clear hb)
                (try clear hb2)
                (try clear hk)
                (try clear hi)
                refine hK.out _ _ ⟨(blk_cell BK210.out 0).trans rfl, (blk_cell BK210.out 1).trans rfl, (blk_cell BK210.out 2).trans rfl, (blk_cell BK210.out 3).trans rfl, (hC HB hw212_0), (hC HB hw212_1), (hC HB hw212_2), (hC HB hw212_3)⟩ (fun hHeld => ?_)
                clear hK K
                refine nA ?_
                refine pA (i := 2) (N := some 17) (mb 18 7) HT_ ?_
                refine pA (i := 3) (N := some 18) (mb 18 15) HT_ ?_
                refine pA (i := 4) (N := some 19) (mb 18 31) HT_ ?_
                refine pA (i := 5) (N := some 20) (mb 18 63) HT_ ?_
                refine pA (i := 6) (N := some 21) (mb 18 127) HT_ ?_
                refine pA (i := 7) (N := some 22) (mb 18 255) HT_ ?_
                refine pA (i := 9) (N := some 24) (mb 18 767) HT_ ?_
                refine pA (i := 10) (N := some 25) (mb 18 1791) HT_ ?_
                refine pA (i := 11) (N := some 26) (mb 18 3839) HT_ ?_
                refine pA (i := 12) (N := some 27) (mb 18 7935) HT_ ?_
                refine pA (i := 13) (N := some 28) (mb 18 16127) HT_ ?_
                refine tA8 (i := 8) (N := some 23) (mb 18 16383) HT_ HW_ hHeld ?_
                refine tA8 (i := 14) (N := some 29) (mb 18 32767) HT_ HW_ hHeld ?_
                refine pA (i := 15) (N := some 30) (mb 18 65535) HT_ ?_
                refine pA (i := 16) (N := some 31) (mb 18 131071) HT_ ?_
                refine pA (i := 17) (N := some 32) (mb 18 262143) HT_ ?_
                refine eA HT_ ?_
                try go_wp2
                go_ret
                exact ⟨by first | rfl | (simp [errW_none, errW_some] <;> rfl) | (simp only [← hji9]; first | rfl | (simp [errW_none, errW_some] <;> rfl)) | (simp [*, errW_none, errW_some] <;> rfl), bG⟩
              · rw [if_neg c12] at H
                have c12b0 : decide (((rd_T58 l0 x10_1).f0) ≤ ((rd_T58 l0 (ji9)).f0)) = false := decide_eq_false c12
                clear c12
                have H' := Aside0.mk H
                clear H
                have p209 : 0 ≤ (x10_1 : Int) := dA
                have q209 : x10_1 < (l0.length : Int) := dA
                obtain ⟨ad209, e209, hx209_0, hx209_1, hx209_2, hx209_3⟩ := at_T58 HR0.out x10_1 p209 q209
                cases e209
                replace hx209_0 := hC HB hx209_0
                replace hx209_1 := hC HB hx209_1
                replace hx209_2 := hC HB hx209_2
                replace hx209_3 := hC HB hx209_3
                replace p209 := eq_true p209
                replace q209 := eq_true q209
                try go_wp2_with (first | ((with_reducible refine gate_dst (N := 4) rfl ?_); refine bE (N := 4) (cs := #[.int .i64 0, .int .i64 0, .int .i64 0, .int .i64 0]) (t := 58) ?_; intro gb210 hg w18 hbox hb; have n0_ := Aside0.mk (below_step bA hb); have n1_ := Aside0.mk (hbox); have n2_ := Aside0.mk ((by rw [hg]; exact (below_size bA) : w.heap.size ≤ gb210)); have n3_ := Aside0.mk ((by rw [hg]; exact (below_size bA) : w.heap.size ≤ gb210)); clear HB; have HB := n0_; have BK210 := n1_; have GW210 := n2_; have GE210 := n3_; clear n0_ n1_ n2_ n3_; clear hb hbox hg; obtain ⟨hcz19_0, hcz19_1, hcz19_2, hcz19_3, hfz19_0, hfz19_1, hfz19_2, hfz19_3⟩ := blkc4 BK210))
                have n0_ : Aside0 (((((w18.setCell ⟨gb210, 0, none⟩ (.int .i64 ((rd_T58 l0 x10_1).f0))).setCell ⟨gb210, 1, none⟩ (.int .i64 ((rd_T58 l0 x10_1).f1))).setCell ⟨gb210, 2, none⟩ (.int .i64 ((rd_T58 l0 x10_1).f2))).setCell ⟨gb210, 3, none⟩ (.int .i64 ((rd_T58 l0 x10_1).f3))).heap[gb210]? = some (.cells #[.int .i64 ((rd_T58 l0 x10_1).f0), .int .i64 ((rd_T58 l0 x10_1).f1), .int .i64 ((rd_T58 l0 x10_1).f2), .int .i64 ((rd_T58 l0 x10_1).f3)] 58 (0, 0))) := ⟨by (with_reducible repeat (first | refine blk_drewN ?_ _ | refine blk_drew ?_ | refine blk_alloc ?_ _)); refine blk_put (cs := #[.int .i64 ((rd_T58 l0 x10_1).f0), .int .i64 ((rd_T58 l0 x10_1).f1), .int .i64 ((rd_T58 l0 x10_1).f2), .int .i64 0]) ?_ 3 _ rfl; (with_reducible repeat (first | refine blk_drewN ?_ _ | refine blk_drew ?_ | refine blk_alloc ?_ _)); refine blk_put (cs := #[.int .i64 ((rd_T58 l0 x10_1).f0), .int .i64 ((rd_T58 l0 x10_1).f1), .int .i64 0, .int .i64 0]) ?_ 2 _ rfl; (with_reducible repeat (first | refine blk_drewN ?_ _ | refine blk_drew ?_ | refine blk_alloc ?_ _)); refine blk_put (cs := #[.int .i64 ((rd_T58 l0 x10_1).f0), .int .i64 0, .int .i64 0, .int .i64 0]) ?_ 1 _ rfl; (with_reducible repeat (first | refine blk_drewN ?_ _ | refine blk_drew ?_ | refine blk_alloc ?_ _)); refine blk_put (cs := #[.int .i64 0, .int .i64 0, .int .i64 0, .int .i64 0]) ?_ 0 _ rfl; (with_reducible repeat (first | refine blk_drewN ?_ _ | refine blk_drew ?_ | refine blk_alloc ?_ _)); exact BK210.out⟩
                have n1_ : Aside0 (Below w.heap.size w ((((w18.setCell ⟨gb210, 0, none⟩ (.int .i64 ((rd_T58 l0 x10_1).f0))).setCell ⟨gb210, 1, none⟩ (.int .i64 ((rd_T58 l0 x10_1).f1))).setCell ⟨gb210, 2, none⟩ (.int .i64 ((rd_T58 l0 x10_1).f2))).setCell ⟨gb210, 3, none⟩ (.int .i64 ((rd_T58 l0 x10_1).f3)))) := ⟨bG⟩
                (try clear BK210)
                (try clear HB)
                generalize ((((w18.setCell ⟨gb210, 0, none⟩ (.int .i64 ((rd_T58 l0 x10_1).f0))).setCell ⟨gb210, 1, none⟩ (.int .i64 ((rd_T58 l0 x10_1).f1))).setCell ⟨gb210, 2, none⟩ (.int .i64 ((rd_T58 l0 x10_1).f2))).setCell ⟨gb210, 3, none⟩ (.int .i64 ((rd_T58 l0 x10_1).f3))) = w20 at n0_ n1_ ⊢
                have BK210 := n0_
                have HB := n1_
                clear n0_ n1_
                replace BK210 := Aside0.mk (blk_drew BK210.out)
                have HBo := HB
                replace HB := Aside0.mk (below_drew1 HB.out)
                have p212 : 0 ≤ ((ji9) : Int) := dA
                have q212 : (ji9) < (l0.length : Int) := dA
                obtain ⟨ad212, e212, hx212_0, hx212_1, hx212_2, hx212_3⟩ := at_T58 HR0.out (ji9) p212 q212
                have hw212_3 := hx212_3
                have hw212_2 := hx212_2
                have hw212_1 := hx212_1
                have hw212_0 := hx212_0
                obtain rfl : ad209 = ad212 := (by injection e212)
                replace hx212_0 := hC HB hx212_0
                replace hx212_1 := hC HB hx212_1
                replace hx212_2 := hC HB hx212_2
                replace hx212_3 := hC HB hx212_3
                replace p212 := eq_true p212
                replace q212 := eq_true q212
                refine start_ (n := 18) (S := fun w' => w'.cell? ⟨gb210, 0, none⟩ = some (.int .i64 ((rd_T58 l0 x10_1).f0)) ∧ w'.cell? ⟨gb210, 1, none⟩ = some (.int .i64 ((rd_T58 l0 x10_1).f1)) ∧ w'.cell? ⟨gb210, 2, none⟩ = some (.int .i64 ((rd_T58 l0 x10_1).f2)) ∧ w'.cell? ⟨gb210, 3, none⟩ = some (.int .i64 ((rd_T58 l0 x10_1).f3)) ∧ w'.cell? (ad209.add (((ji9)).toNat * 4)) = some (.int .i64 ((rd_T58 l0 (ji9)).f0)) ∧ w'.cell? ⟨(ad209.add (((ji9)).toNat * 4)).block, (ad209.add (((ji9)).toNat * 4)).off + 1, none⟩ = some (.int .i64 ((rd_T58 l0 (ji9)).f1)) ∧ w'.cell? ⟨(ad209.add (((ji9)).toNat * 4)).block, (ad209.add (((ji9)).toNat * 4)).off + 2, none⟩ = some (.int .i64 ((rd_T58 l0 (ji9)).f2)) ∧ w'.cell? ⟨(ad209.add (((ji9)).toNat * 4)).block, (ad209.add (((ji9)).toNat * 4)).off + 3, none⟩ = some (.int .i64 ((rd_T58 l0 (ji9)).f3))) (ds := []) (mb 18 0) (by kernel_rfl) rfl rfl ⟨(blk_cell BK210.out 0).trans rfl, (blk_cell BK210.out 1).trans rfl, (blk_cell BK210.out 2).trans rfl, (blk_cell BK210.out 3).trans rfl, (hC HB hw212_0), (hC HB hw212_1), (hC HB hw212_2), (hC HB hw212_3)⟩ (fun hHeld => ?_); refine with_tabW impl_ArePaths.tab6 impl_ArePaths.bits6 (fun HT_ HW_ => ?_)
                generalize w20.drew = w21 at BK210 HB hx212_0 hx212_1 hx212_2 hx212_3 hHeld ⊢
                refine tA8 (i := 0) (N := some 15) (mb 18 1) HT_ HW_ hHeld ?_
                refine oA (i := 1) (N := some 16) (mb 18 3) HT_ (fun K hK => ?_)
                refine gA Try.func95 #[.agg #[.int .i64 ((rd_T58 l0 x10_1).f0), .int .i64 ((rd_T58 l0 x10_1).f1), .int .i64 ((rd_T58 l0 x10_1).f2), .int .i64 ((rd_T58 l0 x10_1).f3)]] ?_
                with_reducible refine (impl_IsPath.calls ((rd_T58 l0 x10_1).f0) ((rd_T58 l0 x10_1).f1) ((rd_T58 l0 x10_1).f2) ((rd_T58 l0 x10_1).f3) true _ A6.out).mono ?_
                rintro e w22 ⟨rfl, hb⟩
                refine ⟨_, rfl, ?_⟩
                replace BK210 := Aside0.mk (blk_below (g := gb210) (bK BK210) hb)
                replace HB := Aside0.mk (below_step bG hb)
                (try clear hb)
                (try clear hb2)
                (try clear hk)
                (try clear hi)
                refine hK.out _ _ ⟨(blk_cell BK210.out 0).trans rfl, (blk_cell BK210.out 1).trans rfl, (blk_cell BK210.out 2).trans rfl, (blk_cell BK210.out 3).trans rfl, (hC HB hw212_0), (hC HB hw212_1), (hC HB hw212_2), (hC HB hw212_3)⟩ (fun hHeld => ?_)
                clear hK K
                refine nA ?_
                refine pA (i := 2) (N := some 17) (mb 18 7) HT_ ?_
                refine pA (i := 3) (N := some 18) (mb 18 15) HT_ ?_
                refine pA (i := 4) (N := some 19) (mb 18 31) HT_ ?_
                refine pA (i := 5) (N := some 20) (mb 18 63) HT_ ?_
                refine pA (i := 6) (N := some 21) (mb 18 127) HT_ ?_
                refine pA (i := 7) (N := some 22) (mb 18 255) HT_ ?_
                refine pA (i := 9) (N := some 24) (mb 18 767) HT_ ?_
                refine pA (i := 10) (N := some 25) (mb 18 1791) HT_ ?_
                refine pA (i := 11) (N := some 26) (mb 18 3839) HT_ ?_
                refine pA (i := 12) (N := some 27) (mb 18 7935) HT_ ?_
                refine pA (i := 13) (N := some 28) (mb 18 16127) HT_ ?_
                refine tA8 (i := 8) (N := some 23) (mb 18 16383) HT_ HW_ hHeld ?_
                refine tA8 (i := 14) (N := some 29) (mb 18 32767) HT_ HW_ hHeld ?_
                refine pA (i := 15) (N := some 30) (mb 18 65535) HT_ ?_
                refine pA (i := 16) (N := some 31) (mb 18 131071) HT_ ?_
                refine pA (i := 17) (N := some 32) (mb 18 262143) HT_ ?_
                refine eA HT_ ?_
                try go_wp2
                go_roundg k1
                case measure => have := HK1.out; omega
                case rel => exact ⟨(wrap64 (x10_1 + 1)), rS, H', ⟨by have := HK1.out; omega⟩, ⟨bG⟩⟩
            · rw [if_neg c8] at H
              have c8b0 : decide (0 < x10_1) = false := decide_eq_false c8
              clear c8
              have H' := Aside0.mk H
              clear H
              have p209 : 0 ≤ (x10_1 : Int) := dA
              have q209 : x10_1 < (l0.length : Int) := dA
              obtain ⟨ad209, e209, hx209_0, hx209_1, hx209_2, hx209_3⟩ := at_T58 HR0.out x10_1 p209 q209
              cases e209
              replace hx209_0 := hC HB hx209_0
              replace hx209_1 := hC HB hx209_1
              replace hx209_2 := hC HB hx209_2
              replace hx209_3 := hC HB hx209_3
              replace p209 := eq_true p209
              replace q209 := eq_true q209
              try go_wp2_with (first | ((with_reducible refine gate_dst (N := 4) rfl ?_); refine bE (N := 4) (cs := #[.int .i64 0, .int .i64 0, .int .i64 0, .int .i64 0]) (t := 58) ?_; intro gb210 hg w23 hbox hb; have n0_ := Aside0.mk (below_step bA hb); have n1_ := Aside0.mk (hbox); have n2_ := Aside0.mk ((by rw [hg]; exact (below_size bA) : w.heap.size ≤ gb210)); have n3_ := Aside0.mk ((by rw [hg]; exact (below_size bA) : w.heap.size ≤ gb210)); clear HB; have HB := n0_; have BK210 := n1_; have GW210 := n2_; have GE210 := n3_; clear n0_ n1_ n2_ n3_; clear hb hbox hg; obtain ⟨hcz24_0, hcz24_1, hcz24_2, hcz24_3, hfz24_0, hfz24_1, hfz24_2, hfz24_3⟩ := blkc4 BK210))
              have n0_ : Aside0 (((((w23.setCell ⟨gb210, 0, none⟩ (.int .i64 ((rd_T58 l0 x10_1).f0))).setCell ⟨gb210, 1, none⟩ (.int .i64 ((rd_T58 l0 x10_1).f1))).setCell ⟨gb210, 2, none⟩ (.int .i64 ((rd_T58 l0 x10_1).f2))).setCell ⟨gb210, 3, none⟩ (.int .i64 ((rd_T58 l0 x10_1).f3))).heap[gb210]? = some (.cells #[.int .i64 ((rd_T58 l0 x10_1).f0), .int .i64 ((rd_T58 l0 x10_1).f1), .int .i64 ((rd_T58 l0 x10_1).f2), .int .i64 ((rd_T58 l0 x10_1).f3)] 58 (0, 0))) := ⟨by (with_reducible repeat (first | refine blk_drewN ?_ _ | refine blk_drew ?_ | refine blk_alloc ?_ _)); refine blk_put (cs := #[.int .i64 ((rd_T58 l0 x10_1).f0), .int .i64 ((rd_T58 l0 x10_1).f1), .int .i64 ((rd_T58 l0 x10_1).f2), .int .i64 0]) ?_ 3 _ rfl; (with_reducible repeat (first | refine blk_drewN ?_ _ | refine blk_drew ?_ | refine blk_alloc ?_ _)); refine blk_put (cs := #[.int .i64 ((rd_T58 l0 x10_1).f0), .int .i64 ((rd_T58 l0 x10_1).f1), .int .i64 0, .int .i64 0]) ?_ 2 _ rfl; (with_reducible repeat (first | refine blk_drewN ?_ _ | refine blk_drew ?_ | refine blk_alloc ?_ _)); refine blk_put (cs := #[.int .i64 ((rd_T58 l0 x10_1).f0), .int .i64 0, .int .i64 0, .int .i64 0]) ?_ 1 _ rfl; (with_reducible repeat (first | refine blk_drewN ?_ _ | refine blk_drew ?_ | refine blk_alloc ?_ _)); refine blk_put (cs := #[.int .i64 0, .int .i64 0, .int .i64 0, .int .i64 0]) ?_ 0 _ rfl; (with_reducible repeat (first | refine blk_drewN ?_ _ | refine blk_drew ?_ | refine blk_alloc ?_ _)); exact BK210.out⟩
              have n1_ : Aside0 (Below w.heap.size w ((((w23.setCell ⟨gb210, 0, none⟩ (.int .i64 ((rd_T58 l0 x10_1).f0))).setCell ⟨gb210, 1, none⟩ (.int .i64 ((rd_T58 l0 x10_1).f1))).setCell ⟨gb210, 2, none⟩ (.int .i64 ((rd_T58 l0 x10_1).f2))).setCell ⟨gb210, 3, none⟩ (.int .i64 ((rd_T58 l0 x10_1).f3)))) := ⟨bG⟩
              (try clear BK210)
              (try clear HB)
              generalize ((((w23.setCell ⟨gb210, 0, none⟩ (.int .i64 ((rd_T58 l0 x10_1).f0))).setCell ⟨gb210, 1, none⟩ (.int .i64 ((rd_T58 l0 x10_1).f1))).setCell ⟨gb210, 2, none⟩ (.int .i64 ((rd_T58 l0 x10_1).f2))).setCell ⟨gb210, 3, none⟩ (.int .i64 ((rd_T58 l0 x10_1).f3))) = w25 at n0_ n1_ ⊢
              have BK210 := n0_
              have HB := n1_
              clear n0_ n1_
              replace BK210 := Aside0.mk (blk_drew BK210.out)
              have HBo := HB
              replace HB := Aside0.mk (below_drew1 HB.out)
              refine start_ (n := 18) (S := fun w' => w'.cell? ⟨gb210, 0, none⟩ = some (.int .i64 ((rd_T58 l0 x10_1).f0)) ∧ w'.cell? ⟨gb210, 1, none⟩ = some (.int .i64 ((rd_T58 l0 x10_1).f1)) ∧ w'.cell? ⟨gb210, 2, none⟩ = some (.int .i64 ((rd_T58 l0 x10_1).f2)) ∧ w'.cell? ⟨gb210, 3, none⟩ = some (.int .i64 ((rd_T58 l0 x10_1).f3))) (ds := []) (mb 18 0) (by kernel_rfl) rfl rfl ⟨(blk_cell BK210.out 0).trans rfl, (blk_cell BK210.out 1).trans rfl, (blk_cell BK210.out 2).trans rfl, (blk_cell BK210.out 3).trans rfl⟩ (fun hHeld => ?_); refine with_tabW impl_ArePaths.tab6 impl_ArePaths.bits6 (fun HT_ HW_ => ?_)
              generalize w25.drew = w26 at BK210 HB hHeld ⊢
              refine tA4 (i := 0) (N := some 15) (mb 18 1) HT_ HW_ hHeld ?_
              refine oA (i := 1) (N := some 16) (mb 18 3) HT_ (fun K hK => ?_)
              refine gA Try.func95 #[.agg #[.int .i64 ((rd_T58 l0 x10_1).f0), .int .i64 ((rd_T58 l0 x10_1).f1), .int .i64 ((rd_T58 l0 x10_1).f2), .int .i64 ((rd_T58 l0 x10_1).f3)]] ?_
              with_reducible refine (impl_IsPath.calls ((rd_T58 l0 x10_1).f0) ((rd_T58 l0 x10_1).f1) ((rd_T58 l0 x10_1).f2) ((rd_T58 l0 x10_1).f3) true _ A6.out).mono ?_
              rintro e w27 ⟨rfl, hb⟩
              refine ⟨_, rfl, ?_⟩
              replace BK210 := Aside0.mk (blk_below (g := gb210) (bK BK210) hb)
              replace HB := Aside0.mk (below_step bG hb)
              (try clear hb)
              (try clear hb2)
              (try clear hk)
              (try clear hi)
              refine hK.out _ _ ⟨(blk_cell BK210.out 0).trans rfl, (blk_cell BK210.out 1).trans rfl, (blk_cell BK210.out 2).trans rfl, (blk_cell BK210.out 3).trans rfl⟩ (fun hHeld => ?_)
              clear hK K
              refine nA ?_
              refine pA (i := 2) (N := some 17) (mb 18 7) HT_ ?_
              refine pA (i := 3) (N := some 18) (mb 18 15) HT_ ?_
              refine pA (i := 4) (N := some 19) (mb 18 31) HT_ ?_
              refine pA (i := 5) (N := some 20) (mb 18 63) HT_ ?_
              refine pA (i := 6) (N := some 21) (mb 18 127) HT_ ?_
              refine pU (i := 7) (N := some 22) (mb 18 255) HT_ ?_
              refine pU (i := 8) (N := some 23) (mb 18 511) HT_ ?_
              refine pU (i := 9) (N := some 24) (mb 18 1023) HT_ ?_
              refine pU (i := 10) (N := some 25) (mb 18 2047) HT_ ?_
              refine pU (i := 11) (N := some 26) (mb 18 4095) HT_ ?_
              refine pU (i := 12) (N := some 27) (mb 18 8191) HT_ ?_
              refine pU (i := 13) (N := some 28) (mb 18 16383) HT_ ?_
              refine pU (i := 14) (N := some 29) (mb 18 32767) HT_ ?_
              refine pU (i := 15) (N := some 30) (mb 18 65535) HT_ ?_
              refine pA (i := 16) (N := some 31) (mb 18 131071) HT_ ?_
              refine pA (i := 17) (N := some 32) (mb 18 262143) HT_ ?_
              refine eA HT_ ?_
              try go_wp2
              go_roundg k1
              case measure => have := HK1.out; omega
              case rel => exact ⟨(wrap64 (x10_1 + 1)), rS, H', ⟨by have := HK1.out; omega⟩, ⟨bG⟩⟩
          · replace c7 := Bool.eq_false_iff.mpr c7
            subst c7
            have H1 : (some false) = some r := by rw [if_neg (show ¬ (false = true) by decide)] at H; exact H
            clear H
            have H := H1
            clear H1
            obtain rfl := Option.some.inj H
            have p209 : 0 ≤ (x10_1 : Int) := dA
            have q209 : x10_1 < (l0.length : Int) := dA
            obtain ⟨ad209, e209, hx209_0, hx209_1, hx209_2, hx209_3⟩ := at_T58 HR0.out x10_1 p209 q209
            cases e209
            replace hx209_0 := hC HB hx209_0
            replace hx209_1 := hC HB hx209_1
            replace hx209_2 := hC HB hx209_2
            replace hx209_3 := hC HB hx209_3
            replace p209 := eq_true p209
            replace q209 := eq_true q209
            try go_wp2_with (first | ((with_reducible refine gate_dst (N := 4) rfl ?_); refine bE (N := 4) (cs := #[.int .i64 0, .int .i64 0, .int .i64 0, .int .i64 0]) (t := 58) ?_; intro gb210 hg w28 hbox hb; have n0_ := Aside0.mk (below_step bA hb); have n1_ := Aside0.mk (hbox); have n2_ := Aside0.mk ((by rw [hg]; exact (below_size bA) : w.heap.size ≤ gb210)); have n3_ := Aside0.mk ((by rw [hg]; exact (below_size bA) : w.heap.size ≤ gb210)); clear HB; have HB := n0_; have BK210 := n1_; have GW210 := n2_; have GE210 := n3_; clear n0_ n1_ n2_ n3_; clear hb hbox hg; obtain ⟨hcz29_0, hcz29_1, hcz29_2, hcz29_3, hfz29_0, hfz29_1, hfz29_2, hfz29_3⟩ := blkc4 BK210))
            have n0_ : Aside0 (((((w28.setCell ⟨gb210, 0, none⟩ (.int .i64 ((rd_T58 l0 x10_1).f0))).setCell ⟨gb210, 1, none⟩ (.int .i64 ((rd_T58 l0 x10_1).f1))).setCell ⟨gb210, 2, none⟩ (.int .i64 ((rd_T58 l0 x10_1).f2))).setCell ⟨gb210, 3, none⟩ (.int .i64 ((rd_T58 l0 x10_1).f3))).heap[gb210]? = some (.cells #[.int .i64 ((rd_T58 l0 x10_1).f0), .int .i64 ((rd_T58 l0 x10_1).f1), .int .i64 ((rd_T58 l0 x10_1).f2), .int .i64 ((rd_T58 l0 x10_1).f3)] 58 (0, 0))) := ⟨by (with_reducible repeat (first | refine blk_drewN ?_ _ | refine blk_drew ?_ | refine blk_alloc ?_ _)); refine blk_put (cs := #[.int .i64 ((rd_T58 l0 x10_1).f0), .int .i64 ((rd_T58 l0 x10_1).f1), .int .i64 ((rd_T58 l0 x10_1).f2), .int .i64 0]) ?_ 3 _ rfl; (with_reducible repeat (first | refine blk_drewN ?_ _ | refine blk_drew ?_ | refine blk_alloc ?_ _)); refine blk_put (cs := #[.int .i64 ((rd_T58 l0 x10_1).f0), .int .i64 ((rd_T58 l0 x10_1).f1), .int .i64 0, .int .i64 0]) ?_ 2 _ rfl; (with_reducible repeat (first | refine blk_drewN ?_ _ | refine blk_drew ?_ | refine blk_alloc ?_ _)); refine blk_put (cs := #[.int .i64 ((rd_T58 l0 x10_1).f0), .int .i64 0, .int .i64 0, .int .i64 0]) ?_ 1 _ rfl; (with_reducible repeat (first | refine blk_drewN ?_ _ | refine blk_drew ?_ | refine blk_alloc ?_ _)); refine blk_put (cs := #[.int .i64 0, .int .i64 0, .int .i64 0, .int .i64 0]) ?_ 0 _ rfl; (with_reducible repeat (first | refine blk_drewN ?_ _ | refine blk_drew ?_ | refine blk_alloc ?_ _)); exact BK210.out⟩
            have n1_ : Aside0 (Below w.heap.size w ((((w28.setCell ⟨gb210, 0, none⟩ (.int .i64 ((rd_T58 l0 x10_1).f0))).setCell ⟨gb210, 1, none⟩ (.int .i64 ((rd_T58 l0 x10_1).f1))).setCell ⟨gb210, 2, none⟩ (.int .i64 ((rd_T58 l0 x10_1).f2))).setCell ⟨gb210, 3, none⟩ (.int .i64 ((rd_T58 l0 x10_1).f3)))) := ⟨bG⟩
            (try clear BK210)
            (try clear HB)
            generalize ((((w28.setCell ⟨gb210, 0, none⟩ (.int .i64 ((rd_T58 l0 x10_1).f0))).setCell ⟨gb210, 1, none⟩ (.int .i64 ((rd_T58 l0 x10_1).f1))).setCell ⟨gb210, 2, none⟩ (.int .i64 ((rd_T58 l0 x10_1).f2))).setCell ⟨gb210, 3, none⟩ (.int .i64 ((rd_T58 l0 x10_1).f3))) = w30 at n0_ n1_ ⊢
            have BK210 := n0_
            have HB := n1_
            clear n0_ n1_
            replace BK210 := Aside0.mk (blk_drew BK210.out)
            have HBo := HB
            replace HB := Aside0.mk (below_drew1 HB.out)
            refine start_ (n := 18) (S := fun w' => w'.cell? ⟨gb210, 0, none⟩ = some (.int .i64 ((rd_T58 l0 x10_1).f0)) ∧ w'.cell? ⟨gb210, 1, none⟩ = some (.int .i64 ((rd_T58 l0 x10_1).f1)) ∧ w'.cell? ⟨gb210, 2, none⟩ = some (.int .i64 ((rd_T58 l0 x10_1).f2)) ∧ w'.cell? ⟨gb210, 3, none⟩ = some (.int .i64 ((rd_T58 l0 x10_1).f3))) (ds := []) (mb 18 0) (by kernel_rfl) rfl rfl ⟨(blk_cell BK210.out 0).trans rfl, (blk_cell BK210.out 1).trans rfl, (blk_cell BK210.out 2).trans rfl, (blk_cell BK210.out 3).trans rfl⟩ (fun hHeld => ?_); refine with_tabW impl_ArePaths.tab6 impl_ArePaths.bits6 (fun HT_ HW_ => ?_)
            generalize w30.drew = w31 at BK210 HB hHeld ⊢
            refine tA4 (i := 0) (N := some 15) (mb 18 1) HT_ HW_ hHeld ?_
            refine oA (i := 1) (N := some 16) (mb 18 3) HT_ (fun K hK => ?_)
            refine gA Try.func95 #[.agg #[.int .i64 ((rd_T58 l0 x10_1).f0), .int .i64 ((rd_T58 l0 x10_1).f1), .int .i64 ((rd_T58 l0 x10_1).f2), .int .i64 ((rd_T58 l0 x10_1).f3)]] ?_
            with_reducible refine (impl_IsPath.calls ((rd_T58 l0 x10_1).f0) ((rd_T58 l0 x10_1).f1) ((rd_T58 l0 x10_1).f2) ((rd_T58 l0 x10_1).f3) false _ A6.out).mono ?_
            rintro e w32 ⟨rfl, hb⟩
            refine ⟨_, rfl, ?_⟩
            replace BK210 := Aside0.mk (blk_below (g := gb210) (bK BK210) hb)
            replace HB := Aside0.mk (below_step bG hb)
            (try clear hb)
            (try clear hb2)
            (try clear hk)
            (try clear hi)
            refine hK.out _ _ ⟨(blk_cell BK210.out 0).trans rfl, (blk_cell BK210.out 1).trans rfl, (blk_cell BK210.out 2).trans rfl, (blk_cell BK210.out 3).trans rfl⟩ (fun hHeld => ?_)
            clear hK K
            refine nA ?_
            refine pA (i := 2) (N := some 17) (mb 18 7) HT_ ?_
            refine pA (i := 3) (N := some 18) (mb 18 15) HT_ ?_
            refine pU (i := 4) (N := some 19) (mb 18 31) HT_ ?_
            refine pU (i := 5) (N := some 20) (mb 18 63) HT_ ?_
            refine pU (i := 6) (N := some 21) (mb 18 127) HT_ ?_
            refine pU (i := 7) (N := some 22) (mb 18 255) HT_ ?_
            refine pU (i := 8) (N := some 23) (mb 18 511) HT_ ?_
            refine pU (i := 9) (N := some 24) (mb 18 1023) HT_ ?_
            refine pU (i := 10) (N := some 25) (mb 18 2047) HT_ ?_
            refine pU (i := 11) (N := some 26) (mb 18 4095) HT_ ?_
            refine pU (i := 12) (N := some 27) (mb 18 8191) HT_ ?_
            refine pU (i := 13) (N := some 28) (mb 18 16383) HT_ ?_
            refine pU (i := 14) (N := some 29) (mb 18 32767) HT_ ?_
            refine pU (i := 15) (N := some 30) (mb 18 65535) HT_ ?_
            refine pU (i := 16) (N := some 31) (mb 18 131071) HT_ ?_
            refine pA (i := 17) (N := some 32) (mb 18 262143) HT_ ?_
            refine eA HT_ ?_
            try go_wp2
            go_ret
            exact ⟨rA, bG⟩
        · rw [if_neg c3] at H
          have c3b0 : decide (x10_1 < (l0.length : Int)) = false := decide_eq_false c3
          clear c3
          obtain rfl := Option.some.inj H
          go_wp2
          go_ret
          exact ⟨rA, bA⟩

/-! ### impl_Conflict: function 81 -/
def impl_Conflict.j0 : Nat → Bool → Int → Int → Int → Int → Int → Int → Int → Int → Option (Bool)
  | 0, _, _, _, _, _, _, _, _, _ => none
  | k + 1, x22, x221000, x221001, x221002, x221003, x222000, x222001, x222002, x222003 => if x22 = true then (some false) else (if x221001 = 2 then (if x222002 = x221002 then (some true) else (some (x222003 == x221002))) else (if x222001 = 2 then (if x221002 = x222002 then (some true) else (some (x221003 == x222002))) else (if x221002 = x222002 then ((impl_InPlace.f x221002).bind fun t224 => ((impl_OutPlace.f x221003).bind fun t225 => ((impl_InPlace.f x222002).bind fun t226 => ((impl_OutPlace.f x222003).bind fun t227 => ((impl_Interleave.f k t224 t225 t226 t227).bind fun t228 => (some t228)))))) else (if x221003 = x222003 then (some true) else ((impl_InPlace.f x221002).bind fun t229 => ((impl_OutPlace.f x221003).bind fun t230 => ((impl_InPlace.f x222002).bind fun t231 => ((impl_OutPlace.f x222003).bind fun t232 => ((impl_Interleave.f k t229 t230 t231 t232).bind fun t233 => (some t233))))))))))
def impl_Conflict.f (k : Nat) (a0_0 : Int) (a0_1 : Int) (a0_2 : Int) (a0_3 : Int) (a1_0 : Int) (a1_1 : Int) (a1_2 : Int) (a1_3 : Int) : Option (Bool) := (impl_IsPath.f a0_0 a0_1 a0_2 a0_3).bind fun t222 => (if t222 = true then ((impl_IsPath.f a1_0 a1_1 a1_2 a1_3).bind fun t223 => (if t223 = true then (if a0_1 = 2 then (impl_Conflict.j0 k (a1_1 == 2) a0_0 a0_1 a0_2 a0_3 a1_0 a1_1 a1_2 a1_3) else (impl_Conflict.j0 k false a0_0 a0_1 a0_2 a0_3 a1_0 a1_1 a1_2 a1_3)) else (impl_Conflict.j0 k true a0_0 a0_1 a0_2 a0_3 a1_0 a1_1 a1_2 a1_3))) else (impl_Conflict.j0 k true a0_0 a0_1 a0_2 a0_3 a1_0 a1_1 a1_2 a1_3))
theorem impl_Conflict.mono_l : ∀ k, (∀ y0 y1 y2 y3 y4 y5 y6 y7 y8, LeO (impl_Conflict.j0 k y0 y1 y2 y3 y4 y5 y6 y7 y8) (impl_Conflict.j0 (k + 1) y0 y1 y2 y3 y4 y5 y6 y7 y8))
  | 0 => fun _ _ _ _ _ _ _ _ _ r h => by simp [impl_Conflict.j0] at h
  | k + 1 => by
    have ih0 := impl_Conflict.mono_l k
    · intro y0 y1 y2 y3 y4 y5 y6 y7 y8
      unfold impl_Conflict.j0
      repeat' first | (with_reducible first | exact LeO.refl _ | exact LeO.none _ | refine LeO.ite ?_ ?_ | refine LeO.bind ?_ (fun _ => ?_) | exact ih0 _ _ _ _ _ _ _ _ _ | exact impl_Interleave.mono _ _ _ _ _) | exact LeO.none _ | refine LeO.ite ?_ ?_ | refine LeO.bind ?_ (fun _ => ?_) | exact ih0 _ _ _ _ _ _ _ _ _ | exact impl_Interleave.mono _ _ _ _ _
theorem impl_Conflict.mono : ∀ a0 a1 a2 a3 a4 a5 a6 a7 k, LeO (impl_Conflict.f k a0 a1 a2 a3 a4 a5 a6 a7) (impl_Conflict.f (k + 1) a0 a1 a2 a3 a4 a5 a6 a7) := by
  intro a0 a1 a2 a3 a4 a5 a6 a7 k
  have ih0 := impl_Conflict.mono_l k
  unfold impl_Conflict.f
  repeat' first | (with_reducible first | exact LeO.refl _ | exact LeO.none _ | refine LeO.ite ?_ ?_ | refine LeO.bind ?_ (fun _ => ?_) | exact ih0 _ _ _ _ _ _ _ _ _ | exact impl_Interleave.mono _ _ _ _ _) | exact LeO.none _ | refine LeO.ite ?_ ?_ | refine LeO.bind ?_ (fun _ => ?_) | exact ih0 _ _ _ _ _ _ _ _ _ | exact impl_Interleave.mono _ _ _ _ _
def impl_Conflict.T7 : Bool × List (List Nat × List Nat) := (true, [([], []), ([0], [0]), ([], []), ([2], [2]), ([1, 3], [1, 3]), ([4], [4]), ([5], [5]), ([6, 5], [5, 6]), ([5], [5]), ([8, 5], [5, 8]), ([7, 9, 5], [5, 7, 9]), ([5, 10], [5, 10]), ([11, 5], [11]), ([12], [12]), ([13, 12], [12, 13]), ([14, 12, 12], [12, 14]), ([12], [12]), ([16, 12], [12, 16]), ([17, 15, 12], [12, 17]), ([12], [12]), ([19, 12], [12, 19]), ([20, 18, 12], [12, 20]), ([12], [12]), ([22, 12], [12, 22]), ([23, 21, 12], [12, 23]), ([15, 18, 21, 24, 24, 12], [12, 15, 18, 21, 24]), ([12, 25], [12, 25]), ([26, 25, 0, 1, 2, 3, 4, 5, 6, 7, 8, 9, 10, 11, 12, 13, 14, 15, 16, 17, 18, 19, 20, 21, 22, 23, 24, 25, 26], [26])])
def impl_Conflict.B7 : List Nat := [0, 1, 0, 4, 15, 31, 63, 127, 63, 319, 1023, 2047, 4095, 8191, 16383, 32767, 8191, 73727, 262143, 8191, 532479, 2097151, 8191, 4202495, 16777215, 33554431, 67108863, 134217727]
theorem impl_Conflict.tab7 : rtab .any (opsOf Try.f81 7) = impl_Conflict.T7 := by kernel_rfl
theorem impl_Conflict.bits7 : waitsOk impl_Conflict.T7.2 impl_Conflict.B7 = true := by kernel_rfl
set_option maxHeartbeats 8000000 in
set_option maxRecDepth 100000 in
theorem impl_Conflict.calls (k : Nat) (a0_0 : Int) (a0_1 : Int) (a0_2 : Int) (a0_3 : Int) (a1_0 : Int) (a1_1 : Int) (a1_2 : Int) (a1_3 : Int) (r : Bool) (w : World) (h : impl_Conflict.f k a0_0 a0_1 a0_2 a0_3 a1_0 a1_1 a1_2 a1_3 = some r) :
    Calls Try.prog 81 #[.agg #[.int .i64 a0_0, .int .i64 a0_1, .int .i64 a0_2, .int .i64 a0_3], .agg #[.int .i64 a1_0, .int .i64 a1_1, .int .i64 a1_2, .int .i64 a1_3]] w fun e w' => e = .returned (.bool r) ∧ Below w.heap.size w w' := by
  have hu58 := Try.underlying58
  have HB := Aside0.mk (Below.refl w.heap.size w)
  have H : ((impl_IsPath.f a0_0 a0_1 a0_2 a0_3).bind fun t222 => (if t222 = true then ((impl_IsPath.f a1_0 a1_1 a1_2 a1_3).bind fun t223 => (if t223 = true then (if a0_1 = 2 then (impl_Conflict.j0 k (a1_1 == 2) a0_0 a0_1 a0_2 a0_3 a1_0 a1_1 a1_2 a1_3) else (impl_Conflict.j0 k false a0_0 a0_1 a0_2 a0_3 a1_0 a1_1 a1_2 a1_3)) else (impl_Conflict.j0 k true a0_0 a0_1 a0_2 a0_3 a1_0 a1_1 a1_2 a1_3))) else (impl_Conflict.j0 k true a0_0 a0_1 a0_2 a0_3 a1_0 a1_1 a1_2 a1_3))) = some r := h
  clear h
  have HC3 := Aside0.mk H
  clear H
  go_enter Try.func81, Try.ntmps81
  go_upto_region 1 with (first | ((with_reducible refine gate_dst (N := 2) rfl ?_); refine bE (N := 2) (cs := #[.int .i64 a0_0, .int .i64 a0_1, .int .i64 a0_2, .int .i64 a0_3]) (t := 58) ?_; intro gb220 hg w4 hbox hb; have n0_ := Aside0.mk (below_step bA hb); have n1_ := Aside0.mk (hbox); have n2_ := Aside0.mk ((by rw [hg]; exact (below_size bA) : w.heap.size ≤ gb220)); have n3_ := Aside0.mk ((by rw [hg]; exact (below_size bA) : w.heap.size ≤ gb220)); clear HB; have HB := n0_; have BK220 := n1_; have GW220 := n2_; have GE220 := n3_; clear n0_ n1_ n2_ n3_; clear hb hbox hg) | ((with_reducible refine gate_dst (N := 3) rfl ?_); refine bE (N := 3) (cs := #[.int .i64 a1_0, .int .i64 a1_1, .int .i64 a1_2, .int .i64 a1_3]) (t := 58) ?_; intro gb221 hg w5 hbox hb; have n0_ := Aside0.mk (blk_below (g := gb220) (bK BK220) hb); have n1_ := Aside0.mk (below_step bG hb); have n2_ := Aside0.mk (hbox); have n3_ := Aside0.mk ((by rw [hg]; exact (below_size bG) : w.heap.size ≤ gb221)); have n4_ := Aside0.mk ((by rw [hg]; exact (below_size bG) : w.heap.size ≤ gb221)); have n5_ := Aside0.mk ((by rw [hg]; exact Nat.ne_of_lt (blk_lt (g := gb220) (o := .cells #[.int .i64 a0_0, .int .i64 a0_1, .int .i64 a0_2, .int .i64 a0_3] 58 (0, 0)) (bK BK220)) : gb220 ≠ gb221)); have n6_ := Aside0.mk ((by rw [hg]; exact Nat.ne_of_gt (blk_lt (g := gb220) (o := .cells #[.int .i64 a0_0, .int .i64 a0_1, .int .i64 a0_2, .int .i64 a0_3] 58 (0, 0)) (bK BK220)) : gb221 ≠ gb220)); clear BK220; clear HB; have BK220 := n0_; have HB := n1_; have BK221 := n2_; have GW221 := n3_; have GE221 := n4_; have NB220_221 := n5_; have NB221_220 := n6_; clear n0_ n1_ n2_ n3_ n4_ n5_ n6_; clear hb hbox hg))
  (try simp only [Act.put, List.setIfInBounds_toArray, List.set_cons_zero, List.set_cons_succ])
  go_cut [22] (fun v22 wc => ∃ (kq : Nat) (x22_2 : Bool), v22 = .bool x22_2 ∧ Aside0 (impl_Conflict.j0 kq x22_2 a0_0 a0_1 a0_2 a0_3 a1_0 a1_1 a1_2 a1_3 = some r) ∧ Aside0 (kq ≤ k) ∧ Aside0 (wc.heap[gb220]? = some (.cells #[.int .i64 a0_0, .int .i64 a0_1, .int .i64 a0_2, .int .i64 a0_3] 58 (0, 0))) ∧ Aside0 (wc.heap[gb221]? = some (.cells #[.int .i64 a1_0, .int .i64 a1_1, .int .i64 a1_2, .int .i64 a1_3] 58 (0, 0))) ∧ Aside0 (Below w.heap.size w wc))
  case first =>
    have H := HC3.out
    clear HC3
    obtain ⟨t222, A6, H⟩ := bindE H
    try dsimp only at H
    by_cases c7 : t222 = true
    · subst c7
      have H1 : ((impl_IsPath.f a1_0 a1_1 a1_2 a1_3).bind fun t223 => (if t223 = true then (if a0_1 = 2 then (impl_Conflict.j0 k (a1_1 == 2) a0_0 a0_1 a0_2 a0_3 a1_0 a1_1 a1_2 a1_3) else (impl_Conflict.j0 k false a0_0 a0_1 a0_2 a0_3 a1_0 a1_1 a1_2 a1_3)) else (impl_Conflict.j0 k true a0_0 a0_1 a0_2 a0_3 a1_0 a1_1 a1_2 a1_3))) = some r := by rw [if_pos rfl] at H; exact H
      clear H
      have H := H1
      clear H1
      obtain ⟨t223, A8, H⟩ := bindE H
      try dsimp only at H
      by_cases c9 : t223 = true
      · subst c9
        have H1 : (if a0_1 = 2 then (impl_Conflict.j0 k (a1_1 == 2) a0_0 a0_1 a0_2 a0_3 a1_0 a1_1 a1_2 a1_3) else (impl_Conflict.j0 k false a0_0 a0_1 a0_2 a0_3 a1_0 a1_1 a1_2 a1_3)) = some r := by rw [if_pos rfl] at H; exact H
        clear H
        have H := H1
        clear H1
        by_cases c10 : a0_1 = 2
        · rw [if_pos c10] at H
          have c10b0 : (a0_1 == 2) = true := beq_iff_eq.mpr c10
          have c10b1 : (a0_1 != 2) = false := bne_eq_false_iff_eq.mpr c10
          clear c10
          (first | rw [c10b0] | (simp only [i64_w, i32_w]; rw [c10b0]) | skip)
          have H' := Aside0.mk H
          clear H
          have hnb11 := NB220_221.out
          have hnc11 := NB221_220.out
          obtain ⟨hcz12_0, hcz12_1, hcz12_2, hcz12_3, hfz12_0, hfz12_1, hfz12_2, hfz12_3⟩ := blkc4 BK220
          go_wp2_with (first | ((with_reducible refine gate_callee (f := 95) rfl ?_); refine gL (some 6) Try.func95 #[.agg #[.int .i64 a0_0, .int .i64 a0_1, .int .i64 a0_2, .int .i64 a0_3]] ?_; (with_reducible refine (impl_IsPath.calls a0_0 a0_1 a0_2 a0_3 true _ A6.out).mono ?_); rintro e w13 ⟨rfl, hb⟩; refine ⟨_, rfl, ?_⟩; replace BK220 := Aside0.mk (blk_below (g := gb220) (bK BK220) hb); replace BK221 := Aside0.mk (blk_below (g := gb221) (bK BK221) hb); replace HB := Aside0.mk (below_step bG hb); (try clear hb); (try clear hb2); (try clear hk); (try clear hi); have hcz14_0 : w13.cell? ⟨gb221, 0, none⟩ = some (.int .i64 a1_0) := (blk_cell BK221.out 0).trans rfl; have hcz14_1 : w13.cell? ⟨gb221, 1, none⟩ = some (.int .i64 a1_1) := (blk_cell BK221.out 1).trans rfl; have hcz14_2 : w13.cell? ⟨gb221, 2, none⟩ = some (.int .i64 a1_2) := (blk_cell BK221.out 2).trans rfl; have hcz14_3 : w13.cell? ⟨gb221, 3, none⟩ = some (.int .i64 a1_3) := (blk_cell BK221.out 3).trans rfl; have hfz14_0 := blk_frozen BK221.out 0; have hfz14_1 := blk_frozen BK221.out 1; have hfz14_2 := blk_frozen BK221.out 2; have hfz14_3 := blk_frozen BK221.out 3) | (go_at_call 95; (with_reducible refine (impl_IsPath.calls a1_0 a1_1 a1_2 a1_3 true _ A8.out).mono ?_); rintro e w15 ⟨rfl, hb⟩; replace BK220 := Aside0.mk (blk_below (g := gb220) (bK BK220) hb); replace BK221 := Aside0.mk (blk_below (g := gb221) (bK BK221) hb); replace HB := Aside0.mk (below_step bG hb); (try clear hb); (try clear hb2); (try clear hk); (try clear hi); obtain ⟨hcz16_0, hcz16_1, hcz16_2, hcz16_3, hfz16_0, hfz16_1, hfz16_2, hfz16_3⟩ := blkc4 BK220; obtain ⟨hcz17_0, hcz17_1, hcz17_2, hcz17_3, hfz17_0, hfz17_1, hfz17_2, hfz17_3⟩ := blkc4 BK221))
          go_meet
          case rel => exact ⟨_, ((a1_1 == 2)), rS, H', ⟨by first | omega | exact Nat.le_refl _⟩, ⟨bK BK220⟩, ⟨bK BK221⟩, ⟨bG⟩⟩
        · rw [if_neg c10] at H
          have c10b0 : (a0_1 == 2) = false := beq_eq_false_iff_ne.mpr c10
          have c10b1 : (a0_1 != 2) = true := bne_iff_ne.mpr c10
          (first | rw [c10b0] | (simp only [i64_w, i32_w]; rw [c10b0]) | skip)
          have H' := Aside0.mk H
          clear H
          have hnb18 := NB220_221.out
          have hnc18 := NB221_220.out
          obtain ⟨hcz19_0, hcz19_1, hcz19_2, hcz19_3, hfz19_0, hfz19_1, hfz19_2, hfz19_3⟩ := blkc4 BK220
          go_wp2_with (first | ((with_reducible refine gate_callee (f := 95) rfl ?_); refine gL (some 6) Try.func95 #[.agg #[.int .i64 a0_0, .int .i64 a0_1, .int .i64 a0_2, .int .i64 a0_3]] ?_; (with_reducible refine (impl_IsPath.calls a0_0 a0_1 a0_2 a0_3 true _ A6.out).mono ?_); rintro e w20 ⟨rfl, hb⟩; refine ⟨_, rfl, ?_⟩; replace BK220 := Aside0.mk (blk_below (g := gb220) (bK BK220) hb); replace BK221 := Aside0.mk (blk_below (g := gb221) (bK BK221) hb); replace HB := Aside0.mk (below_step bG hb); (try clear hb); (try clear hb2); (try clear hk); (try clear hi); have hcz21_0 : w20.cell? ⟨gb221, 0, none⟩ = some (.int .i64 a1_0) := (blk_cell BK221.out 0).trans rfl; have hcz21_1 : w20.cell? ⟨gb221, 1, none⟩ = some (.int .i64 a1_1) := (blk_cell BK221.out 1).trans rfl; have hcz21_2 : w20.cell? ⟨gb221, 2, none⟩ = some (.int .i64 a1_2) := (blk_cell BK221.out 2).trans rfl; have hcz21_3 : w20.cell? ⟨gb221, 3, none⟩ = some (.int .i64 a1_3) := (blk_cell BK221.out 3).trans rfl; have hfz21_0 := blk_frozen BK221.out 0; have hfz21_1 := blk_frozen BK221.out 1; have hfz21_2 := blk_frozen BK221.out 2; have hfz21_3 := blk_frozen BK221.out 3) | (go_at_call 95; (with_reducible refine (impl_IsPath.calls a1_0 a1_1 a1_2 a1_3 true _ A8.out).mono ?_); rintro e w22 ⟨rfl, hb⟩; replace BK220 := Aside0.mk (blk_below (g := gb220) (bK BK220) hb); replace BK221 := Aside0.mk (blk_below (g := gb221) (bK BK221) hb); replace HB := Aside0.mk (below_step bG hb); (try clear hb); (try clear hb2); (try clear hk); (try clear hi); obtain ⟨hcz23_0, hcz23_1, hcz23_2, hcz23_3, hfz23_0, hfz23_1, hfz23_2, hfz23_3⟩ := blkc4 BK220))
          go_meet
          case rel => exact ⟨_, (false), rS, H', ⟨by first | omega | exact Nat.le_refl _⟩, ⟨bK BK220⟩, ⟨bK BK221⟩, ⟨bG⟩⟩
      · replace c9 := Bool.eq_false_iff.mpr c9
        subst c9
        have H1 : (impl_Conflict.j0 k true a0_0 a0_1 a0_2 a0_3 a1_0 a1_1 a1_2 a1_3) = some r := by rw [if_neg (show ¬ (false = true) by decide)] at H; exact H
        clear H
        have H := H1
        clear H1
        have H' := Aside0.mk H
        clear H
        have hnb24 := NB220_221.out
        have hnc24 := NB221_220.out
        obtain ⟨hcz25_0, hcz25_1, hcz25_2, hcz25_3, hfz25_0, hfz25_1, hfz25_2, hfz25_3⟩ := blkc4 BK220
        go_wp2_with (first | ((with_reducible refine gate_callee (f := 95) rfl ?_); refine gL (some 6) Try.func95 #[.agg #[.int .i64 a0_0, .int .i64 a0_1, .int .i64 a0_2, .int .i64 a0_3]] ?_; (with_reducible refine (impl_IsPath.calls a0_0 a0_1 a0_2 a0_3 true _ A6.out).mono ?_); rintro e w26 ⟨rfl, hb⟩; refine ⟨_, rfl, ?_⟩; replace BK220 := Aside0.mk (blk_below (g := gb220) (bK BK220) hb); replace BK221 := Aside0.mk (blk_below (g := gb221) (bK BK221) hb); replace HB := Aside0.mk (below_step bG hb); (try clear hb); (try clear hb2); (try clear hk); (try clear hi); have hcz27_0 : w26.cell? ⟨gb221, 0, none⟩ = some (.int .i64 a1_0) := (blk_cell BK221.out 0).trans rfl; have hcz27_1 : w26.cell? ⟨gb221, 1, none⟩ = some (.int .i64 a1_1) := (blk_cell BK221.out 1).trans rfl; have hcz27_2 : w26.cell? ⟨gb221, 2, none⟩ = some (.int .i64 a1_2) := (blk_cell BK221.out 2).trans rfl; have hcz27_3 : w26.cell? ⟨gb221, 3, none⟩ = some (.int .i64 a1_3) := (blk_cell BK221.out 3).trans rfl; have hfz27_0 := blk_frozen BK221.out 0; have hfz27_1 := blk_frozen BK221.out 1; have hfz27_2 := blk_frozen BK221.out 2; have hfz27_3 := blk_frozen BK221.out 3) | (go_at_call 95; (with_reducible refine (impl_IsPath.calls a1_0 a1_1 a1_2 a1_3 false _ A8.out).mono ?_); rintro e w28 ⟨rfl, hb⟩; replace BK220 := Aside0.mk (blk_below (g := gb220) (bK BK220) hb); replace BK221 := Aside0.mk (blk_below (g := gb221) (bK BK221) hb); replace HB := Aside0.mk (below_step bG hb); (try clear hb); (try clear hb2); (try clear hk); (try clear hi)))
        go_meet
        case rel => exact ⟨_, (true), rS, H', ⟨by first | omega | exact Nat.le_refl _⟩, ⟨bK BK220⟩, ⟨bK BK221⟩, ⟨bG⟩⟩
    · replace c7 := Bool.eq_false_iff.mpr c7
      subst c7
      have H1 : (impl_Conflict.j0 k true a0_0 a0_1 a0_2 a0_3 a1_0 a1_1 a1_2 a1_3) = some r := by rw [if_neg (show ¬ (false = true) by decide)] at H; exact H
      clear H
      have H := H1
      clear H1
      have H' := Aside0.mk H
      clear H
      have hnb29 := NB220_221.out
      have hnc29 := NB221_220.out
      obtain ⟨hcz30_0, hcz30_1, hcz30_2, hcz30_3, hfz30_0, hfz30_1, hfz30_2, hfz30_3⟩ := blkc4 BK220
      go_wp2_with (first | ((with_reducible refine gate_callee (f := 95) rfl ?_); refine gL (some 6) Try.func95 #[.agg #[.int .i64 a0_0, .int .i64 a0_1, .int .i64 a0_2, .int .i64 a0_3]] ?_; (with_reducible refine (impl_IsPath.calls a0_0 a0_1 a0_2 a0_3 false _ A6.out).mono ?_); rintro e w31 ⟨rfl, hb⟩; refine ⟨_, rfl, ?_⟩; replace BK220 := Aside0.mk (blk_below (g := gb220) (bK BK220) hb); replace BK221 := Aside0.mk (blk_below (g := gb221) (bK BK221) hb); replace HB := Aside0.mk (below_step bG hb); (try clear hb); (try clear hb2); (try clear hk); (try clear hi)))
      go_meet
      case rel => exact ⟨_, (true), rS, H', ⟨by first | omega | exact Nat.le_refl _⟩, ⟨bK BK220⟩, ⟨bK BK221⟩, ⟨bG⟩⟩
  case rest =>
    clear HC3
    try clear c1
    try clear c2
    try clear p2
    try clear c7
    try clear c8
    try clear c9
    try clear c10
    try clear c10b0
    try clear c10b1
    try clear c11
    try clear c18
    try clear c24
    try clear c29
    try clear hcz12_0
    try clear hcz12_1
    try clear hcz12_2
    try clear hcz12_3
    try clear hcz14_0
    try clear hcz14_1
    try clear hcz14_2
    try clear hcz14_3
    try clear hcz16_0
    try clear hcz16_1
    try clear hcz16_2
    try clear hcz16_3
    try clear hcz17_0
    try clear hcz17_1
    try clear hcz17_2
    try clear hcz17_3
    try clear hcz19_0
    try clear hcz19_1
    try clear hcz19_2
    try clear hcz19_3
    try clear hcz21_0
    try clear hcz21_1
    try clear hcz21_2
    try clear hcz21_3
    try clear hcz23_0
    try clear hcz23_1
    try clear hcz23_2
    try clear hcz23_3
    try clear hcz25_0
    try clear hcz25_1
    try clear hcz25_2
    try clear hcz25_3
    try clear hcz27_0
    try clear hcz27_1
    try clear hcz27_2
    try clear hcz27_3
    try clear hcz30_0
    try clear hcz30_1
    try clear hcz30_2
    try clear hcz30_3
    try clear hfz12_0
    try clear hfz12_1
    try clear hfz12_2
    try clear hfz12_3
    try clear hfz14_0
    try clear hfz14_1
    try clear hfz14_2
    try clear hfz14_3
    try clear hfz16_0
    try clear hfz16_1
    try clear hfz16_2
    try clear hfz16_3
    try clear hfz17_0
    try clear hfz17_1
    try clear hfz17_2
    try clear hfz17_3
    try clear hfz19_0
    try clear hfz19_1
    try clear hfz19_2
    try clear hfz19_3
    try clear hfz21_0
    try clear hfz21_1
    try clear hfz21_2
    try clear hfz21_3
    try clear hfz23_0
    try clear hfz23_1
    try clear hfz23_2
    try clear hfz23_3
    try clear hfz25_0
    try clear hfz25_1
    try clear hfz25_2
    try clear hfz25_3
    try clear hfz27_0
    try clear hfz27_1
    try clear hfz27_2
    try clear hfz27_3
    try clear hfz30_0
    try clear hfz30_1
    try clear hfz30_2
    try clear hfz30_3
    obtain ⟨kq, x22_2, rfl, HA, HJ2, BK220, BK221, HB⟩ := hcut
    cases kq with
    | zero => exact absurd HA.out (by simp [impl_Conflict.j0])
    | succ kj2 =>
      have H := HA.out
      clear HA
      simp only [impl_Conflict.j0] at H
      by_cases c32 : x22_2 = true
      · subst c32
        have H1 : (some false) = some r := by rw [if_pos rfl] at H; exact H
        clear H
        have H := H1
        clear H1
        obtain rfl := Option.some.inj H
        go_wp2
        go_ret
        exact ⟨rA, bG⟩
      · replace c32 := Bool.eq_false_iff.mpr c32
        subst c32
        have H1 : (if a0_1 = 2 then (if a1_2 = a0_2 then (some true) else (some (a1_3 == a0_2))) else (if a1_1 = 2 then (if a0_2 = a1_2 then (some true) else (some (a0_3 == a1_2))) else (if a0_2 = a1_2 then ((impl_InPlace.f a0_2).bind fun t224 => ((impl_OutPlace.f a0_3).bind fun t225 => ((impl_InPlace.f a1_2).bind fun t226 => ((impl_OutPlace.f a1_3).bind fun t227 => ((impl_Interleave.f kj2 t224 t225 t226 t227).bind fun t228 => (some t228)))))) else (if a0_3 = a1_3 then (some true) else ((impl_InPlace.f a0_2).bind fun t229 => ((impl_OutPlace.f a0_3).bind fun t230 => ((impl_InPlace.f a1_2).bind fun t231 => ((impl_OutPlace.f a1_3).bind fun t232 => ((impl_Interleave.f kj2 t229 t230 t231 t232).bind fun t233 => (some t233)))))))))) = some r := by rw [if_neg (show ¬ (false = true) by decide)] at H; exact H
        clear H
        have H := H1
        clear H1
        by_cases c33 : a0_1 = 2
        · rw [if_pos c33] at H
          have c33b0 : (a0_1 == 2) = true := beq_iff_eq.mpr c33
          have c33b1 : (a0_1 != 2) = false := bne_eq_false_iff_eq.mpr c33
          clear c33
          by_cases c34 : a1_2 = a0_2
          · rw [if_pos c34] at H
            have c34b0 : (a1_2 == a0_2) = true := beq_iff_eq.mpr c34
            have c34b1 : (a1_2 != a0_2) = false := bne_eq_false_iff_eq.mpr c34
            clear c34
            obtain rfl := Option.some.inj H
            have hnb35 := NB220_221.out
            have hnc35 := NB221_220.out
            obtain ⟨hcz36_0, hcz36_1, hcz36_2, hcz36_3, hfz36_0, hfz36_1, hfz36_2, hfz36_3⟩ := blkc4 BK220
            obtain ⟨hcz37_0, hcz37_1, hcz37_2, hcz37_3, hfz37_0, hfz37_1, hfz37_2, hfz37_3⟩ := blkc4 BK221
            go_wp2
            go_ret
            exact ⟨rA, bG⟩
          · rw [if_neg c34] at H
            have c34b0 : (a1_2 == a0_2) = false := beq_eq_false_iff_ne.mpr c34
            have c34b1 : (a1_2 != a0_2) = true := bne_iff_ne.mpr c34
            obtain rfl := Option.some.inj H
            have hnb38 := NB220_221.out
            have hnc38 := NB221_220.out
            obtain ⟨hcz39_0, hcz39_1, hcz39_2, hcz39_3, hfz39_0, hfz39_1, hfz39_2, hfz39_3⟩ := blkc4 BK220
            obtain ⟨hcz40_0, hcz40_1, hcz40_2, hcz40_3, hfz40_0, hfz40_1, hfz40_2, hfz40_3⟩ := blkc4 BK221
            go_wp2
            go_ret
            exact ⟨rA, bG⟩
        · rw [if_neg c33] at H
          have c33b0 : (a0_1 == 2) = false := beq_eq_false_iff_ne.mpr c33
          have c33b1 : (a0_1 != 2) = true := bne_iff_ne.mpr c33
          by_cases c41 : a1_1 = 2
          · rw [if_pos c41] at H
            have c41b0 : (a1_1 == 2) = true := beq_iff_eq.mpr c41
            have c41b1 : (a1_1 != 2) = false := bne_eq_false_iff_eq.mpr c41
            clear c41
            by_cases c42 : a0_2 = a1_2
            · rw [if_pos c42] at H
              have c42b0 : (a0_2 == a1_2) = true := beq_iff_eq.mpr c42
              have c42b1 : (a0_2 != a1_2) = false := bne_eq_false_iff_eq.mpr c42
              clear c42
              obtain rfl := Option.some.inj H
              have hnb43 := NB220_221.out
              have hnc43 := NB221_220.out
              obtain ⟨hcz44_0, hcz44_1, hcz44_2, hcz44_3, hfz44_0, hfz44_1, hfz44_2, hfz44_3⟩ := blkc4 BK220
              obtain ⟨hcz45_0, hcz45_1, hcz45_2, hcz45_3, hfz45_0, hfz45_1, hfz45_2, hfz45_3⟩ := blkc4 BK221
              go_wp2
              go_ret
              exact ⟨rA, bG⟩
            · rw [if_neg c42] at H
              have c42b0 : (a0_2 == a1_2) = false := beq_eq_false_iff_ne.mpr c42
              have c42b1 : (a0_2 != a1_2) = true := bne_iff_ne.mpr c42
              obtain rfl := Option.some.inj H
              have hnb46 := NB220_221.out
              have hnc46 := NB221_220.out
              obtain ⟨hcz47_0, hcz47_1, hcz47_2, hcz47_3, hfz47_0, hfz47_1, hfz47_2, hfz47_3⟩ := blkc4 BK220
              obtain ⟨hcz48_0, hcz48_1, hcz48_2, hcz48_3, hfz48_0, hfz48_1, hfz48_2, hfz48_3⟩ := blkc4 BK221
              go_wp2
              go_ret
              exact ⟨rA, bG⟩
          · rw [if_neg c41] at H
            have c41b0 : (a1_1 == 2) = false := beq_eq_false_iff_ne.mpr c41
            have c41b1 : (a1_1 != 2) = true := bne_iff_ne.mpr c41
            by_cases c49 : a0_2 = a1_2
            · rw [if_pos c49] at H
              have c49b0 : (a0_2 == a1_2) = true := beq_iff_eq.mpr c49
              have c49b1 : (a0_2 != a1_2) = false := bne_eq_false_iff_eq.mpr c49
              clear c49
              obtain ⟨t224, A50, H⟩ := bindE H
              try dsimp only at H
              obtain ⟨t225, A51, H⟩ := bindE H
              try dsimp only at H
              obtain ⟨t226, A52, H⟩ := bindE H
              try dsimp only at H
              obtain ⟨t227, A53, H⟩ := bindE H
              try dsimp only at H
              obtain ⟨t228, A54, H⟩ := bindE H
              try dsimp only at H
              obtain rfl := Option.some.inj H
              have hnb55 := NB220_221.out
              have hnc55 := NB221_220.out
              obtain ⟨hcz56_0, hcz56_1, hcz56_2, hcz56_3, hfz56_0, hfz56_1, hfz56_2, hfz56_3⟩ := blkc4 BK220
              obtain ⟨hcz57_0, hcz57_1, hcz57_2, hcz57_3, hfz57_0, hfz57_1, hfz57_2, hfz57_3⟩ := blkc4 BK221
              try go_wp2
              replace BK220 := Aside0.mk (blk_drew BK220.out)
              replace BK221 := Aside0.mk (blk_drew BK221.out)
              have HBo := HB
              replace HB := Aside0.mk (below_drew1 HB.out)
              refine start_ (n := 28) (S := fun w' => w'.cell? ⟨gb220, 0, none⟩ = some (.int .i64 a0_0) ∧ w'.cell? ⟨gb220, 1, none⟩ = some (.int .i64 a0_1) ∧ w'.cell? ⟨gb220, 2, none⟩ = some (.int .i64 a0_2) ∧ w'.cell? ⟨gb220, 3, none⟩ = some (.int .i64 a0_3) ∧ w'.cell? ⟨gb221, 0, none⟩ = some (.int .i64 a1_0) ∧ w'.cell? ⟨gb221, 1, none⟩ = some (.int .i64 a1_1) ∧ w'.cell? ⟨gb221, 2, none⟩ = some (.int .i64 a1_2) ∧ w'.cell? ⟨gb221, 3, none⟩ = some (.int .i64 a1_3)) (ds := []) (mb 28 0) (by kernel_rfl) rfl rfl ⟨(blk_cell BK220.out 0).trans rfl, (blk_cell BK220.out 1).trans rfl, (blk_cell BK220.out 2).trans rfl, (blk_cell BK220.out 3).trans rfl, (blk_cell BK221.out 0).trans rfl, (blk_cell BK221.out 1).trans rfl, (blk_cell BK221.out 2).trans rfl, (blk_cell BK221.out 3).trans rfl⟩ (fun hHeld => ?_); refine with_tabW impl_Conflict.tab7 impl_Conflict.bits7 (fun HT_ HW_ => ?_)
              generalize wc.drew = w58 at BK220 BK221 HB hHeld ⊢
              refine pA (i := 0) (N := some 53) (mb 28 1) HT_ ?_
              refine pA (i := 2) (N := some 55) (mb 28 5) HT_ ?_
              refine tA8 (i := 1) (N := some 54) (mb 28 7) HT_ HW_ hHeld ?_
              refine tA8 (i := 3) (N := some 56) (mb 28 15) HT_ HW_ hHeld ?_
              refine pA (i := 4) (N := some 57) (mb 28 31) HT_ ?_
              refine pA (i := 5) (N := some 58) (mb 28 63) HT_ ?_
              refine pU (i := 6) (N := some 59) (mb 28 127) HT_ ?_
              refine pU (i := 7) (N := some 60) (mb 28 255) HT_ ?_
              refine pU (i := 8) (N := some 61) (mb 28 511) HT_ ?_
              refine pU (i := 9) (N := some 62) (mb 28 1023) HT_ ?_
              refine pU (i := 10) (N := some 63) (mb 28 2047) HT_ ?_
              refine pA (i := 11) (N := some 64) (mb 28 4095) HT_ ?_
              refine pA (i := 12) (N := some 65) (mb 28 8191) HT_ ?_
              refine pA (i := 13) (N := some 66) (mb 28 16383) HT_ ?_
              refine pA (i := 16) (N := some 69) (mb 28 81919) HT_ ?_
              refine pA (i := 19) (N := some 72) (mb 28 606207) HT_ ?_
              refine pA (i := 22) (N := some 75) (mb 28 4800511) HT_ ?_
              refine tA8 (i := 14) (N := some 67) (mb 28 4816895) HT_ HW_ hHeld ?_
              refine tA8 (i := 17) (N := some 70) (mb 28 4947967) HT_ HW_ hHeld ?_
              refine tA8 (i := 20) (N := some 73) (mb 28 5996543) HT_ HW_ hHeld ?_
              refine tA8 (i := 23) (N := some 76) (mb 28 14385151) HT_ HW_ hHeld ?_
              refine oA (i := 15) (N := some 68) (mb 28 14417919) HT_ (fun K hK => ?_)
              refine gA Try.func97 #[.int .i64 a0_2] ?_
              with_reducible refine (impl_InPlace.calls a0_2 t224 _ A50.out).mono ?_
              rintro e w' ⟨rfl, ⟨nd, rfl⟩⟩
              refine ⟨_, rfl, ?_⟩
              refine hK.out _ _ ⟨(blk_cell BK220.out 0).trans rfl, (blk_cell BK220.out 1).trans rfl, (blk_cell BK220.out 2).trans rfl, (blk_cell BK220.out 3).trans rfl, (blk_cell BK221.out 0).trans rfl, (blk_cell BK221.out 1).trans rfl, (blk_cell BK221.out 2).trans rfl, (blk_cell BK221.out 3).trans rfl⟩ (fun hHeld => ?_)
              clear hK K
              refine nA ?_
              refine oA (i := 18) (N := some 71) (mb 28 14680063) HT_ (fun K hK => ?_)
              refine gA Try.func98 #[.int .i64 a0_3] ?_
              with_reducible refine (impl_OutPlace.calls a0_3 t225 _ A51.out).mono ?_
              rintro e w' ⟨rfl, ⟨nd, rfl⟩⟩
              refine ⟨_, rfl, ?_⟩
              refine hK.out _ _ ⟨(blk_cell BK220.out 0).trans rfl, (blk_cell BK220.out 1).trans rfl, (blk_cell BK220.out 2).trans rfl, (blk_cell BK220.out 3).trans rfl, (blk_cell BK221.out 0).trans rfl, (blk_cell BK221.out 1).trans rfl, (blk_cell BK221.out 2).trans rfl, (blk_cell BK221.out 3).trans rfl⟩ (fun hHeld => ?_)
              clear hK K
              refine nA ?_
              refine oA (i := 21) (N := some 74) (mb 28 16777215) HT_ (fun K hK => ?_)
              refine gA Try.func97 #[.int .i64 a1_2] ?_
              with_reducible refine (impl_InPlace.calls a1_2 t226 _ A52.out).mono ?_
              rintro e w' ⟨rfl, ⟨nd, rfl⟩⟩
              refine ⟨_, rfl, ?_⟩
              refine hK.out _ _ ⟨(blk_cell BK220.out 0).trans rfl, (blk_cell BK220.out 1).trans rfl, (blk_cell BK220.out 2).trans rfl, (blk_cell BK220.out 3).trans rfl, (blk_cell BK221.out 0).trans rfl, (blk_cell BK221.out 1).trans rfl, (blk_cell BK221.out 2).trans rfl, (blk_cell BK221.out 3).trans rfl⟩ (fun hHeld => ?_)
              clear hK K
              refine nA ?_
              refine oA (i := 24) (N := some 77) (mb 28 33554431) HT_ (fun K hK => ?_)
              refine gA Try.func98 #[.int .i64 a1_3] ?_
              with_reducible refine (impl_OutPlace.calls a1_3 t227 _ A53.out).mono ?_
              rintro e w' ⟨rfl, ⟨nd, rfl⟩⟩
              refine ⟨_, rfl, ?_⟩
              refine hK.out _ _ ⟨(blk_cell BK220.out 0).trans rfl, (blk_cell BK220.out 1).trans rfl, (blk_cell BK220.out 2).trans rfl, (blk_cell BK220.out 3).trans rfl, (blk_cell BK221.out 0).trans rfl, (blk_cell BK221.out 1).trans rfl, (blk_cell BK221.out 2).trans rfl, (blk_cell BK221.out 3).trans rfl⟩ (fun hHeld => ?_)
              clear hK K
              refine nA ?_
              refine oA (i := 25) (N := some 78) (mb 28 67108863) HT_ (fun K hK => ?_)
              refine gA Try.func96 #[.int .i64 t224, .int .i64 t225, .int .i64 t226, .int .i64 t227] ?_
              with_reducible refine (impl_Interleave.calls kj2 t224 t225 t226 t227 t228 _ A54.out).mono ?_
              rintro e w59 ⟨rfl, hb⟩
              refine ⟨_, rfl, ?_⟩
              replace BK220 := Aside0.mk (blk_below (g := gb220) (bK BK220) hb)
              replace BK221 := Aside0.mk (blk_below (g := gb221) (bK BK221) hb)
              replace HB := Aside0.mk (below_step bG hb)
              (try clear hb)
              (try clear hb2)
              (try clear hk)
              (try clear hi)
              refine hK.out _ _ ⟨(blk_cell BK220.out 0).trans rfl, (blk_cell BK220.out 1).trans rfl, (blk_cell BK220.out 2).trans rfl, (blk_cell BK220.out 3).trans rfl, (blk_cell BK221.out 0).trans rfl, (blk_cell BK221.out 1).trans rfl, (blk_cell BK221.out 2).trans rfl, (blk_cell BK221.out 3).trans rfl⟩ (fun hHeld => ?_)
              clear hK K
              refine nA ?_
              refine pA (i := 26) (N := some 79) (mb 28 134217727) HT_ ?_
              refine pA (i := 27) (N := some 4) (mb 28 268435455) HT_ ?_
              refine eA HT_ ?_
              try go_wp2
              go_ret
              exact ⟨rA, bG⟩
            · rw [if_neg c49] at H
              have c49b0 : (a0_2 == a1_2) = false := beq_eq_false_iff_ne.mpr c49
              have c49b1 : (a0_2 != a1_2) = true := bne_iff_ne.mpr c49
              by_cases c60 : a0_3 = a1_3
              · rw [if_pos c60] at H
                have c60b0 : (a0_3 == a1_3) = true := beq_iff_eq.mpr c60
                have c60b1 : (a0_3 != a1_3) = false := bne_eq_false_iff_eq.mpr c60
                clear c60
                obtain rfl := Option.some.inj H
                have hnb61 := NB220_221.out
                have hnc61 := NB221_220.out
                obtain ⟨hcz62_0, hcz62_1, hcz62_2, hcz62_3, hfz62_0, hfz62_1, hfz62_2, hfz62_3⟩ := blkc4 BK220
                obtain ⟨hcz63_0, hcz63_1, hcz63_2, hcz63_3, hfz63_0, hfz63_1, hfz63_2, hfz63_3⟩ := blkc4 BK221
                try go_wp2
                replace BK220 := Aside0.mk (blk_drew BK220.out)
                replace BK221 := Aside0.mk (blk_drew BK221.out)
                have HBo := HB
                replace HB := Aside0.mk (below_drew1 HB.out)
                refine start_ (n := 28) (S := fun w' => w'.cell? ⟨gb220, 0, none⟩ = some (.int .i64 a0_0) ∧ w'.cell? ⟨gb220, 1, none⟩ = some (.int .i64 a0_1) ∧ w'.cell? ⟨gb220, 2, none⟩ = some (.int .i64 a0_2) ∧ w'.cell? ⟨gb220, 3, none⟩ = some (.int .i64 a0_3) ∧ w'.cell? ⟨gb221, 0, none⟩ = some (.int .i64 a1_0) ∧ w'.cell? ⟨gb221, 1, none⟩ = some (.int .i64 a1_1) ∧ w'.cell? ⟨gb221, 2, none⟩ = some (.int .i64 a1_2) ∧ w'.cell? ⟨gb221, 3, none⟩ = some (.int .i64 a1_3)) (ds := []) (mb 28 0) (by kernel_rfl) rfl rfl ⟨(blk_cell BK220.out 0).trans rfl, (blk_cell BK220.out 1).trans rfl, (blk_cell BK220.out 2).trans rfl, (blk_cell BK220.out 3).trans rfl, (blk_cell BK221.out 0).trans rfl, (blk_cell BK221.out 1).trans rfl, (blk_cell BK221.out 2).trans rfl, (blk_cell BK221.out 3).trans rfl⟩ (fun hHeld => ?_); refine with_tabW impl_Conflict.tab7 impl_Conflict.bits7 (fun HT_ HW_ => ?_)
                generalize wc.drew = w64 at BK220 BK221 HB hHeld ⊢
                refine pA (i := 0) (N := some 53) (mb 28 1) HT_ ?_
                refine pA (i := 2) (N := some 55) (mb 28 5) HT_ ?_
                refine tA8 (i := 1) (N := some 54) (mb 28 7) HT_ HW_ hHeld ?_
                refine tA8 (i := 3) (N := some 56) (mb 28 15) HT_ HW_ hHeld ?_
                refine pA (i := 4) (N := some 57) (mb 28 31) HT_ ?_
                refine pA (i := 5) (N := some 58) (mb 28 63) HT_ ?_
                refine pA (i := 6) (N := some 59) (mb 28 127) HT_ ?_
                refine pA (i := 8) (N := some 61) (mb 28 383) HT_ ?_
                refine tA8 (i := 7) (N := some 60) (mb 28 511) HT_ HW_ hHeld ?_
                refine tA8 (i := 9) (N := some 62) (mb 28 1023) HT_ HW_ hHeld ?_
                refine pA (i := 10) (N := some 63) (mb 28 2047) HT_ ?_
                refine pA (i := 11) (N := some 64) (mb 28 4095) HT_ ?_
                refine pA (i := 12) (N := some 65) (mb 28 8191) HT_ ?_
                refine pU (i := 13) (N := some 66) (mb 28 16383) HT_ ?_
                refine pU (i := 14) (N := some 67) (mb 28 32767) HT_ ?_
                refine pU (i := 15) (N := some 68) (mb 28 65535) HT_ ?_
                refine pU (i := 16) (N := some 69) (mb 28 131071) HT_ ?_
                refine pU (i := 17) (N := some 70) (mb 28 262143) HT_ ?_
                refine pU (i := 18) (N := some 71) (mb 28 524287) HT_ ?_
                refine pU (i := 19) (N := some 72) (mb 28 1048575) HT_ ?_
                refine pU (i := 20) (N := some 73) (mb 28 2097151) HT_ ?_
                refine pU (i := 21) (N := some 74) (mb 28 4194303) HT_ ?_
                refine pU (i := 22) (N := some 75) (mb 28 8388607) HT_ ?_
                refine pU (i := 23) (N := some 76) (mb 28 16777215) HT_ ?_
                refine pU (i := 24) (N := some 77) (mb 28 33554431) HT_ ?_
                refine pU (i := 25) (N := some 78) (mb 28 67108863) HT_ ?_
                refine pA (i := 26) (N := some 79) (mb 28 134217727) HT_ ?_
                refine pA (i := 27) (N := some 4) (mb 28 268435455) HT_ ?_
                refine eA HT_ ?_
                try go_wp2
                go_ret
                exact ⟨rA, bG⟩
              · rw [if_neg c60] at H
                have c60b0 : (a0_3 == a1_3) = false := beq_eq_false_iff_ne.mpr c60
                have c60b1 : (a0_3 != a1_3) = true := bne_iff_ne.mpr c60
                obtain ⟨t229, A65, H⟩ := bindE H
                try dsimp only at H
                obtain ⟨t230, A66, H⟩ := bindE H
                try dsimp only at H
                obtain ⟨t231, A67, H⟩ := bindE H
                try dsimp only at H
                obtain ⟨t232, A68, H⟩ := bindE H
                try dsimp only at H
                obtain ⟨t233, A69, H⟩ := bindE H
                try dsimp only at H
                obtain rfl := Option.some.inj H
                have hnb70 := NB220_221.out
                have hnc70 := NB221_220.out
                obtain ⟨hcz71_0, hcz71_1, hcz71_2, hcz71_3, hfz71_0, hfz71_1, hfz71_2, hfz71_3⟩ := blkc4 BK220
                obtain ⟨hcz72_0, hcz72_1, hcz72_2, hcz72_3, hfz72_0, hfz72_1, hfz72_2, hfz72_3⟩ := blkc4 BK221
                try go_wp2
                replace BK220 := Aside0.mk (blk_drew BK220.out)
                replace BK221 := Aside0.mk (blk_drew BK221.out)
                have HBo := HB
                replace HB := Aside0.mk (below_drew1 HB.out)
                refine start_ (n := 28) (S := fun w' => w'.cell? ⟨gb220, 0, none⟩ = some (.int .i64 a0_0) ∧ w'.cell? ⟨gb220, 1, none⟩ = some (.int .i64 a0_1) ∧ w'.cell? ⟨gb220, 2, none⟩ = some (.int .i64 a0_2) ∧ w'.cell? ⟨gb220, 3, none⟩ = some (.int .i64 a0_3) ∧ w'.cell? ⟨gb221, 0, none⟩ = some (.int .i64 a1_0) ∧ w'.cell? ⟨gb221, 1, none⟩ = some (.int .i64 a1_1) ∧ w'.cell? ⟨gb221, 2, none⟩ = some (.int .i64 a1_2) ∧ w'.cell? ⟨gb221, 3, none⟩ = some (.int .i64 a1_3)) (ds := []) (mb 28 0) (by kernel_rfl) rfl rfl ⟨(blk_cell BK220.out 0).trans rfl, (blk_cell BK220.out 1).trans rfl, (blk_cell BK220.out 2).trans rfl, (blk_cell BK220.out 3).trans rfl, (blk_cell BK221.out 0).trans rfl, (blk_cell BK221.out 1).trans rfl, (blk_cell BK221.out 2).trans rfl, (blk_cell BK221.out 3).trans rfl⟩ (fun hHeld => ?_); refine with_tabW impl_Conflict.tab7 impl_Conflict.bits7 (fun HT_ HW_ => ?_)
                generalize wc.drew = w73 at BK220 BK221 HB hHeld ⊢
                refine pA (i := 0) (N := some 53) (mb 28 1) HT_ ?_
                refine pA (i := 2) (N := some 55) (mb 28 5) HT_ ?_
                refine tA8 (i := 1) (N := some 54) (mb 28 7) HT_ HW_ hHeld ?_
                refine tA8 (i := 3) (N := some 56) (mb 28 15) HT_ HW_ hHeld ?_
                refine pA (i := 4) (N := some 57) (mb 28 31) HT_ ?_
                refine pA (i := 5) (N := some 58) (mb 28 63) HT_ ?_
                refine pA (i := 6) (N := some 59) (mb 28 127) HT_ ?_
                refine pA (i := 8) (N := some 61) (mb 28 383) HT_ ?_
                refine tA8 (i := 7) (N := some 60) (mb 28 511) HT_ HW_ hHeld ?_
                refine tA8 (i := 9) (N := some 62) (mb 28 1023) HT_ HW_ hHeld ?_
                refine pA (i := 10) (N := some 63) (mb 28 2047) HT_ ?_
                refine pA (i := 11) (N := some 64) (mb 28 4095) HT_ ?_
                refine pA (i := 12) (N := some 65) (mb 28 8191) HT_ ?_
                refine pA (i := 13) (N := some 66) (mb 28 16383) HT_ ?_
                refine pA (i := 16) (N := some 69) (mb 28 81919) HT_ ?_
                refine pA (i := 19) (N := some 72) (mb 28 606207) HT_ ?_
                refine pA (i := 22) (N := some 75) (mb 28 4800511) HT_ ?_
                refine tA8 (i := 14) (N := some 67) (mb 28 4816895) HT_ HW_ hHeld ?_
                refine tA8 (i := 17) (N := some 70) (mb 28 4947967) HT_ HW_ hHeld ?_
                refine tA8 (i := 20) (N := some 73) (mb 28 5996543) HT_ HW_ hHeld ?_
                refine tA8 (i := 23) (N := some 76) (mb 28 14385151) HT_ HW_ hHeld ?_
                refine oA (i := 15) (N := some 68) (mb 28 14417919) HT_ (fun K hK => ?_)
                refine gA Try.func97 #[.int .i64 a0_2] ?_
                with_reducible refine (impl_InPlace.calls a0_2 t229 _ A65.out).mono ?_
                rintro e w' ⟨rfl, ⟨nd, rfl⟩⟩
                refine ⟨_, rfl, ?_⟩
                refine hK.out _ _ ⟨(blk_cell BK220.out 0).trans rfl, (blk_cell BK220.out 1).trans rfl, (blk_cell BK220.out 2).trans rfl, (blk_cell BK220.out 3).trans rfl, (blk_cell BK221.out 0).trans rfl, (blk_cell BK221.out 1).trans rfl, (blk_cell BK221.out 2).trans rfl, (blk_cell BK221.out 3).trans rfl⟩ (fun hHeld => ?_)
                clear hK K
                refine nA ?_
                refine oA (i := 18) (N := some 71) (mb 28 14680063) HT_ (fun K hK => ?_)
                refine gA Try.func98 #[.int .i64 a0_3] ?_
                with_reducible refine (impl_OutPlace.calls a0_3 t230 _ A66.out).mono ?_
                rintro e w' ⟨rfl, ⟨nd, rfl⟩⟩
                refine ⟨_, rfl, ?_⟩
                refine hK.out _ _ ⟨(blk_cell BK220.out 0).trans rfl, (blk_cell BK220.out 1).trans rfl, (blk_cell BK220.out 2).trans rfl, (blk_cell BK220.out 3).trans rfl, (blk_cell BK221.out 0).trans rfl, (blk_cell BK221.out 1).trans rfl, (blk_cell BK221.out 2).trans rfl, (blk_cell BK221.out 3).trans rfl⟩ (fun hHeld => ?_)
                clear hK K
                refine nA ?_
                refine oA (i := 21) (N := some 74) (mb 28 16777215) HT_ (fun K hK => ?_)
                refine gA Try.func97 #[.int .i64 a1_2] ?_
                with_reducible refine (impl_InPlace.calls a1_2 t231 _ A67.out).mono ?_
                rintro e w' ⟨rfl, ⟨nd, rfl⟩⟩
                refine ⟨_, rfl, ?_⟩
                refine hK.out _ _ ⟨(blk_cell BK220.out 0).trans rfl, (blk_cell BK220.out 1).trans rfl, (blk_cell BK220.out 2).trans rfl, (blk_cell BK220.out 3).trans rfl, (blk_cell BK221.out 0).trans rfl, (blk_cell BK221.out 1).trans rfl, (blk_cell BK221.out 2).trans rfl, (blk_cell BK221.out 3).trans rfl⟩ (fun hHeld => ?_)
                clear hK K
                refine nA ?_
                refine oA (i := 24) (N := some 77) (mb 28 33554431) HT_ (fun K hK => ?_)
                refine gA Try.func98 #[.int .i64 a1_3] ?_
                with_reducible refine (impl_OutPlace.calls a1_3 t232 _ A68.out).mono ?_
                rintro e w' ⟨rfl, ⟨nd, rfl⟩⟩
                refine ⟨_, rfl, ?_⟩
                refine hK.out _ _ ⟨(blk_cell BK220.out 0).trans rfl, (blk_cell BK220.out 1).trans rfl, (blk_cell BK220.out 2).trans rfl, (blk_cell BK220.out 3).trans rfl, (blk_cell BK221.out 0).trans rfl, (blk_cell BK221.out 1).trans rfl, (blk_cell BK221.out 2).trans rfl, (blk_cell BK221.out 3).trans rfl⟩ (fun hHeld => ?_)
                clear hK K
                refine nA ?_
                refine oA (i := 25) (N := some 78) (mb 28 67108863) HT_ (fun K hK => ?_)
                refine gA Try.func96 #[.int .i64 t229, .int .i64 t230, .int .i64 t231, .int .i64 t232] ?_
                with_reducible refine (impl_Interleave.calls kj2 t229 t230 t231 t232 t233 _ A69.out).mono ?_
                rintro e w74 ⟨rfl, hb⟩
                refine ⟨_, rfl, ?_⟩
                replace BK220 := Aside0.mk (blk_below (g := gb220) (bK BK220) hb)
                replace BK221 := Aside0.mk (blk_below (g := gb221) (bK BK221) hb)
                replace HB := Aside0.mk (below_step bG hb)
                (try clear hb)
                (try clear hb2)
                (try clear hk)
                (try clear hi)
                refine hK.out _ _ ⟨(blk_cell BK220.out 0).trans rfl, (blk_cell BK220.out 1).trans rfl, (blk_cell BK220.out 2).trans rfl, (blk_cell BK220.out 3).trans rfl, (blk_cell BK221.out 0).trans rfl, (blk_cell BK221.out 1).trans rfl, (blk_cell BK221.out 2).trans rfl, (blk_cell BK221.out 3).trans rfl⟩ (fun hHeld => ?_)
                clear hK K
                refine nA ?_
                refine pA (i := 26) (N := some 79) (mb 28 134217727) HT_ ?_
                refine pA (i := 27) (N := some 4) (mb 28 268435455) HT_ ?_
                refine eA HT_ ?_
                try go_wp2
                go_ret
                exact ⟨rA, bG⟩

/-! ### impl_IsTogether: function 59 -/
mutual
def impl_IsTogether.l0 : Nat → List (S58) → List Int → List Int → Int → Int → Option (Bool)
  | 0, _, _, _, _, _ => none
  | k + 1, x0, x1, x13, x14, x15 => if x15 < x14 then (if 0 ≤ x15 then (if x15 < (x13.length : Int) then ((impl_FindPath.f x0 (rd x13 x15)).bind fun t236 => (if t236 < 0 then (impl_IsTogether.j1 k x0 x1 x15 t236 x13 x14 x15 true) else (if x15 > 0 then (if 0 ≤ (wrap64 (x15 - 1)) then (if (wrap64 (x15 - 1)) < (x1.length : Int) then (impl_IsTogether.j1 k x0 x1 x15 t236 x13 x14 x15 (decide ((rd x13 x15) ≤ (rd x1 (wrap64 (x15 - 1)))))) else (none)) else (none)) else (impl_IsTogether.j1 k x0 x1 x15 t236 x13 x14 x15 false)))) else (none)) else (none)) else (some true)
def impl_IsTogether.j1 : Nat → List (S58) → List Int → Int → Int → List Int → Int → Int → Bool → Option (Bool)
  | 0, _, _, _, _, _, _, _, _ => none
  | k + 1, x0, x1, x5, x7, x13, x14, x15, x37 => if x37 = true then (some false) else (if 0 ≤ x5 then (if x5 ≤ (x1.length : Int) then (impl_IsTogether.l1 k x0 x1 x7 x13 x14 x15 (x1.take (x5 : Int).toNat) ((x1.take (x5 : Int).toNat).length : Int) 0) else (none)) else (none))
def impl_IsTogether.l1 : Nat → List (S58) → List Int → Int → List Int → Int → Int → List Int → Int → Int → Option (Bool)
  | 0, _, _, _, _, _, _, _, _, _ => none
  | k + 1, x0, x1, x7, x13, x14, x15, x40, x41, x42 => if x42 < x41 then (if 0 ≤ x42 then (if x42 < (x40.length : Int) then (if 0 ≤ x7 then (if x7 < (x0.length : Int) then ((impl_FindPath.f x0 (rd x40 x42)).bind fun t241 => (if 0 ≤ t241 then (if t241 < (x0.length : Int) then ((impl_Conflict.f k ((rd_T58 x0 x7).f0) ((rd_T58 x0 x7).f1) ((rd_T58 x0 x7).f2) ((rd_T58 x0 x7).f3) ((rd_T58 x0 t241).f0) ((rd_T58 x0 t241).f1) ((rd_T58 x0 t241).f2) ((rd_T58 x0 t241).f3)).bind fun t243 => (if t243 = true then (some false) else (impl_IsTogether.l1 k x0 x1 x7 x13 x14 x15 x40 x41 (wrap64 (x42 + 1))))) else (none)) else (none))) else (none)) else (none)) else (none)) else (none)) else (impl_IsTogether.l0 k x0 x1 x13 x14 (wrap64 (x15 + 1)))
end
def impl_IsTogether.f (k : Nat) (l0 : List (S58)) (l1 : List Int) : Option (Bool) := (impl_ArePaths.f k l0).bind fun t234 => (if t234 = true then (impl_IsTogether.l0 k l0 l1 l1 (l1.length : Int) 0) else (some false))
theorem impl_IsTogether.mono_l : ∀ k, (∀ y0 y1 y2 y3 y4, LeO (impl_IsTogether.l0 k y0 y1 y2 y3 y4) (impl_IsTogether.l0 (k + 1) y0 y1 y2 y3 y4)) ∧ (∀ y0 y1 y2 y3 y4 y5 y6 y7, LeO (impl_IsTogether.j1 k y0 y1 y2 y3 y4 y5 y6 y7) (impl_IsTogether.j1 (k + 1) y0 y1 y2 y3 y4 y5 y6 y7)) ∧ (∀ y0 y1 y2 y3 y4 y5 y6 y7 y8, LeO (impl_IsTogether.l1 k y0 y1 y2 y3 y4 y5 y6 y7 y8) (impl_IsTogether.l1 (k + 1) y0 y1 y2 y3 y4 y5 y6 y7 y8))
  | 0 => ⟨fun _ _ _ _ _ r h => by simp [impl_IsTogether.l0] at h, fun _ _ _ _ _ _ _ _ r h => by simp [impl_IsTogether.j1] at h, fun _ _ _ _ _ _ _ _ _ r h => by simp [impl_IsTogether.l1] at h⟩
  | k + 1 => by
    obtain ⟨ih0, ih1, ih2⟩ := impl_IsTogether.mono_l k
    refine ⟨?_, ?_, ?_⟩
    · intro y0 y1 y2 y3 y4
      unfold impl_IsTogether.l0
      repeat' first | (with_reducible first | exact LeO.refl _ | exact LeO.none _ | refine LeO.ite ?_ ?_ | refine LeO.bind ?_ (fun _ => ?_) | exact ih0 _ _ _ _ _ | exact ih1 _ _ _ _ _ _ _ _ | exact ih2 _ _ _ _ _ _ _ _ _ | exact impl_ArePaths.mono _ _ | exact impl_Conflict.mono _ _ _ _ _ _ _ _ _) | exact LeO.none _ | refine LeO.ite ?_ ?_ | refine LeO.bind ?_ (fun _ => ?_) | exact ih0 _ _ _ _ _ | exact ih1 _ _ _ _ _ _ _ _ | exact ih2 _ _ _ _ _ _ _ _ _ | exact impl_ArePaths.mono _ _ | exact impl_Conflict.mono _ _ _ _ _ _ _ _ _
    · intro y0 y1 y2 y3 y4 y5 y6 y7
      unfold impl_IsTogether.j1
      repeat' first | (with_reducible first | exact LeO.refl _ | exact LeO.none _ | refine LeO.ite ?_ ?_ | refine LeO.bind ?_ (fun _ => ?_) | exact ih0 _ _ _ _ _ | exact ih1 _ _ _ _ _ _ _ _ | exact ih2 _ _ _ _ _ _ _ _ _ | exact impl_ArePaths.mono _ _ | exact impl_Conflict.mono _ _ _ _ _ _ _ _ _) | exact LeO.none _ | refine LeO.ite ?_ ?_ | refine LeO.bind ?_ (fun _ => ?_) | exact ih0 _ _ _ _ _ | exact ih1 _ _ _ _ _ _ _ _ | exact ih2 _ _ _ _ _ _ _ _ _ | exact impl_ArePaths.mono _ _ | exact impl_Conflict.mono _ _ _ _ _ _ _ _ _
    · intro y0 y1 y2 y3 y4 y5 y6 y7 y8
      unfold impl_IsTogether.l1
      repeat' first | (with_reducible first | exact LeO.refl _ | exact LeO.none _ | refine LeO.ite ?_ ?_ | refine LeO.bind ?_ (fun _ => ?_) | exact ih0 _ _ _ _ _ | exact ih1 _ _ _ _ _ _ _ _ | exact ih2 _ _ _ _ _ _ _ _ _ | exact impl_ArePaths.mono _ _ | exact impl_Conflict.mono _ _ _ _ _ _ _ _ _) | exact LeO.none _ | refine LeO.ite ?_ ?_ | refine LeO.bind ?_ (fun _ => ?_) | exact ih0 _ _ _ _ _ | exact ih1 _ _ _ _ _ _ _ _ | exact ih2 _ _ _ _ _ _ _ _ _ | exact impl_ArePaths.mono _ _ | exact impl_Conflict.mono _ _ _ _ _ _ _ _ _
theorem impl_IsTogether.mono : ∀ a0 a1 k, LeO (impl_IsTogether.f k a0 a1) (impl_IsTogether.f (k + 1) a0 a1) := by
  intro a0 a1 k
  obtain ⟨ih0, ih1, ih2⟩ := impl_IsTogether.mono_l k
  unfold impl_IsTogether.f
  repeat' first | (with_reducible first | exact LeO.refl _ | exact LeO.none _ | refine LeO.ite ?_ ?_ | refine LeO.bind ?_ (fun _ => ?_) | exact ih0 _ _ _ _ _ | exact ih1 _ _ _ _ _ _ _ _ | exact ih2 _ _ _ _ _ _ _ _ _ | exact impl_ArePaths.mono _ _ | exact impl_Conflict.mono _ _ _ _ _ _ _ _ _) | exact LeO.none _ | refine LeO.ite ?_ ?_ | refine LeO.bind ?_ (fun _ => ?_) | exact ih0 _ _ _ _ _ | exact ih1 _ _ _ _ _ _ _ _ | exact ih2 _ _ _ _ _ _ _ _ _ | exact impl_ArePaths.mono _ _ | exact impl_Conflict.mono _ _ _ _ _ _ _ _ _
def impl_IsTogether.T12 : Bool × List (List Nat × List Nat) := (true, [([], []), ([], []), ([0, 1], [0, 1]), ([2], [2]), ([], []), ([], []), ([], []), ([5, 6], [5, 6]), ([4, 7], [4, 7]), ([8], [8]), ([3, 9, 7], [3, 9])])
def impl_IsTogether.B12 : List Nat := [0, 0, 3, 7, 0, 0, 0, 96, 240, 496, 1023]
theorem impl_IsTogether.tab12 : rtab .any (opsOf Try.f59 12) = impl_IsTogether.T12 := by kernel_rfl
theorem impl_IsTogether.bits12 : waitsOk impl_IsTogether.T12.2 impl_IsTogether.B12 = true := by kernel_rfl
set_option maxHeartbeats 8000000 in
set_option maxRecDepth 100000 in
theorem impl_IsTogether.calls (k : Nat) (A0 : Option Addr) (c0 : Nat) (l0 : List (S58)) (A1 : Option Addr) (c1 : Nat) (l1 : List Int) (r : Bool) (w : World) (hr0 : Kd.C k58 w A0 l0.length l0) (hc0 : l0.length ≤ c0) (hr1 : Kd.C (Kd.int .i64) w A1 l1.length l1) (hc1 : l1.length ≤ c1) (h : impl_IsTogether.f k l0 l1 = some r) :
    Calls Try.prog 59 #[.slice A0 l0.length c0, .slice A1 l1.length c1] w fun e w' => e = .returned (.bool r) ∧ Below w.heap.size w w' := by
  have hu58 := Try.underlying58
  have HR0 := Aside0.mk hr0
  have HC0 := Aside0.mk hc0
  clear hr0 hc0
  have HR1 := Aside0.mk hr1
  have HC1 := Aside0.mk hc1
  clear hr1 hc1
  have HB := Aside0.mk (Below.refl w.heap.size w)
  have H : ((impl_ArePaths.f k l0).bind fun t234 => (if t234 = true then (impl_IsTogether.l0 k l0 l1 l1 (l1.length : Int) 0) else (some false))) = some r := h
  clear h
  obtain ⟨t234, A3, H⟩ := bindE H
  try dsimp only at H
  by_cases c4 : t234 = true
  · subst c4
    have H1 : (impl_IsTogether.l0 k l0 l1 l1 (l1.length : Int) 0) = some r := by rw [if_pos rfl] at H; exact H
    clear H
    have H := H1
    clear H1
    have H' := Aside0.mk H
    clear H
    go_enter Try.func59, Try.ntmps59
    go_wp2_with (first | ((with_reducible refine gate_callee (f := 80) rfl ?_); refine gL (some 11) Try.func80 #[.slice A0 l0.length c0] ?_; (with_reducible refine (impl_ArePaths.calls k _ _ l0 true _ ?side1 ?side2 A3.out).mono ?_); (case side1 => exact cO HR0); (case side2 => exact HC0.out); rintro e w5 ⟨rfl, hb⟩; refine ⟨_, rfl, ?_⟩; replace HB := Aside0.mk (below_step bA hb); (try clear hb); (try clear hb2); (try clear hk); (try clear hi)))
    go_loopg [15] k (fun kq v15 w' => ∃ (x15_1 : Int), v15 = .int .i64 x15_1 ∧ Aside0 (impl_IsTogether.l0 kq l0 l1 l1 (l1.length : Int) x15_1 = some r) ∧ Aside0 (kq ≤ k) ∧ Aside0 (Below w.heap.size w w'))
    case atStart => exact ⟨(0), rS, H', ⟨Nat.le_refl _⟩, ⟨bA⟩⟩
    case round =>
      clear H'
      try clear c1
      try clear p2
      try clear c4
      try clear c5
      obtain ⟨x15_1, rfl, HA, HK1, HB⟩ := hrel
      cases gk with
      | zero => exact absurd HA.out (by simp [impl_IsTogether.l0])
      | succ k1 =>
        have H := HA.out
        clear HA
        simp only [impl_IsTogether.l0] at H
        by_cases c6 : x15_1 < (l1.length : Int)
        · rw [if_pos c6] at H
          have c6b0 : decide (x15_1 < (l1.length : Int)) = true := decide_eq_true c6
          clear c6
          have c7 : 0 ≤ x15_1 := ifN H
          replace H := ifT H
          have c7b0 : decide (0 ≤ x15_1) = true := decide_eq_true c7
          clear c7
          have c8 : x15_1 < (l1.length : Int) := ifN H
          replace H := ifT H
          have c8b0 : decide (x15_1 < (l1.length : Int)) = true := decide_eq_true c8
          clear c8
          obtain ⟨t236, A9, H⟩ := bindE H
          try dsimp only at H
          have HC10 := Aside0.mk H
          clear H
          have p235 : 0 ≤ (x15_1 : Int) := dA
          have q235 : x15_1 < (l1.length : Int) := dA
          obtain ⟨ad235, e235, hx235_0⟩ := Kd.at_int HR1.out x15_1 p235 q235
          cases e235
          replace hx235_0 := hC HB hx235_0
          replace p235 := eq_true p235
          replace q235 := eq_true q235
          go_upto_region 7 with (first | ((with_reducible refine gate_callee (f := 70) rfl ?_); refine gL (some 22) Try.func70 #[.slice A0 l0.length c0, .int .i64 (rd l1 x15_1)] ?_; (with_reducible refine (impl_FindPath.calls _ _ l0 (rd l1 x15_1) t236 _ ?side1 ?side2 A9.out).mono ?_); (case side1 => exact cB HR0); (case side2 => exact HC0.out); rintro e w11 ⟨rfl, hb⟩; refine ⟨_, rfl, ?_⟩; replace HB := Aside0.mk (below_step bA hb); (try clear hb); (try clear hb2); (try clear hk); (try clear hi)))
          (try simp only [Act.put, List.setIfInBounds_toArray, List.set_cons_zero, List.set_cons_succ])
          go_cut [37] (fun v37 wc => ∃ (kq : Nat) (x37_9 : Bool), v37 = .bool x37_9 ∧ Aside0 (impl_IsTogether.j1 kq l0 l1 x15_1 t236 l1 (l1.length : Int) x15_1 x37_9 = some r) ∧ Aside0 (kq ≤ k1) ∧ Aside0 (Below w.heap.size w wc))
          case first =>
            have H := HC10.out
            clear HC10
            by_cases c12 : t236 < 0
            · rw [if_pos c12] at H
              have c12b0 : decide (t236 < 0) = true := decide_eq_true c12
              clear c12
              (first | rw [c12b0] | (simp only [i64_w, i32_w]; rw [c12b0]) | skip)
              have H' := Aside0.mk H
              clear H
              go_wp2
              go_meet
              case rel => exact ⟨_, (true), rS, H', ⟨by have := HK1.out; first | omega | exact Nat.le_refl _⟩, ⟨bA⟩⟩
            · rw [if_neg c12] at H
              have c12b0 : decide (t236 < 0) = false := decide_eq_false c12
              clear c12
              (first | rw [c12b0] | (simp only [i64_w, i32_w]; rw [c12b0]) | skip)
              by_cases c13 : x15_1 > 0
              · rw [if_pos c13] at H
                have c13b0 : decide (0 < x15_1) = true := decide_eq_true c13
                clear c13
                obtain ⟨ji14, hji14⟩ : ∃ j_ : Int, (wrap64 (x15_1 - 1)) = j_ := ⟨_, rfl⟩
                replace H : (if 0 ≤ (ji14) then (if (ji14) < (l1.length : Int) then (impl_IsTogether.j1 k1 l0 l1 x15_1 t236 l1 (l1.length : Int) x15_1 (decide ((rd l1 x15_1) ≤ (rd l1 (ji14))))) else (none)) else (none)) = some r := by first | (rw [hji14] at H; exact H) | (simp only [hji14] at H ⊢; exact H)
                have hji14w : (IntKind.i64.wrap (x15_1 - 1)) = ji14 := (i64_w _).trans hji14
                have c15 : 0 ≤ (ji14) := ifN H
                replace H := ifT H
                have c15b0 : decide (0 ≤ (ji14)) = true := decide_eq_true c15
                clear c15
                have c16 : (ji14) < (l1.length : Int) := ifN H
                replace H := ifT H
                have c16b0 : decide ((ji14) < (l1.length : Int)) = true := decide_eq_true c16
                clear c16
                have H' := Aside0.mk H
                clear H
                have p237 : 0 ≤ ((ji14) : Int) := dA
                have q237 : (ji14) < (l1.length : Int) := dA
                obtain ⟨ad237, e237, hx237_0⟩ := Kd.at_int HR1.out (ji14) p237 q237
                obtain rfl : ad235 = ad237 := (by injection e237)
                replace hx237_0 := hC HB hx237_0
                replace p237 := eq_true p237
                replace q237 := eq_true q237
                go_wp2
                go_meet
                case rel => exact ⟨_, (decide ((rd l1 x15_1) ≤ (rd l1 (ji14)))), (by first | rfl | (simp; done) | (simp only [← hji14] <;> (first | rfl | simp)) | (simp [*]; done)), H', ⟨by have := HK1.out; first | omega | exact Nat.le_refl _⟩, ⟨bA⟩⟩
              · rw [if_neg c13] at H
                have c13b0 : decide (0 < x15_1) = false := decide_eq_false c13
                clear c13
                have H' := Aside0.mk H
                clear H
                go_wp2
                go_meet
                case rel => exact ⟨_, (false), rS, H', ⟨by have := HK1.out; first | omega | exact Nat.le_refl _⟩, ⟨bA⟩⟩
          case rest =>
            clear HC10
            try clear c1
            try clear p2
            try clear q2
            try clear hx2
            try clear c4
            try clear c5
            try clear c6
            try clear c6b0
            try clear p6
            try clear c7
            try clear c7b0
            try clear c8
            try clear c8b0
            try clear c12
            try clear c12b0
            try clear c13
            try clear c13b0
            try clear c15
            try clear c15b0
            try clear c16
            try clear c16b0
            try clear hx235_0
            try clear hx237_0
            try clear p2
            try clear p235
            try clear p237
            try clear q235
            try clear q237
            obtain ⟨kq, x37_9, rfl, HA, HJ9, HB⟩ := hcut
            cases kq with
            | zero => exact absurd HA.out (by simp [impl_IsTogether.j1])
            | succ kj9 =>
              have H := HA.out
              clear HA
              simp only [impl_IsTogether.j1] at H
              by_cases c17 : x37_9 = true
              · subst c17
                have H1 : (some false) = some r := by rw [if_pos rfl] at H; exact H
                clear H
                have H := H1
                clear H1
                obtain rfl := Option.some.inj H
                go_wp2
                go_ret
                exact ⟨rA, bA⟩
              · replace c17 := Bool.eq_false_iff.mpr c17
                subst c17
                have H1 : (if 0 ≤ x15_1 then (if x15_1 ≤ (l1.length : Int) then (impl_IsTogether.l1 kj9 l0 l1 t236 l1 (l1.length : Int) x15_1 (l1.take (x15_1 : Int).toNat) ((l1.take (x15_1 : Int).toNat).length : Int) 0) else (none)) else (none)) = some r := by rw [if_neg (show ¬ (false = true) by decide)] at H; exact H
                clear H
                have H := H1
                clear H1
                have c18 : 0 ≤ x15_1 := ifN H
                replace H := ifT H
                have c18b0 := eq_true c18
                have c18b1 : decide (0 ≤ x15_1) = true := decide_eq_true c18
                clear c18
                have c19 : x15_1 ≤ (l1.length : Int) := ifN H
                replace H := ifT H
                have c19b0 := eq_true c19
                have c19b1 : decide (x15_1 ≤ (l1.length : Int)) = true := decide_eq_true c19
                clear c19
                have H' := Aside0.mk H
                clear H
                obtain ⟨i020, hi020, _, hsz20, _⟩ := info_parts info3
                obtain ⟨hcut20, hA20, hC20⟩ := print_take_of (P := Try.prog) (Value.int .i64) 0 41 3 .i64 Try.underlying41 hi020 hsz20 (some ad235) c1 l1 x15_1 (dA) (dA) HC1.out
                have HR238 := Aside0.mk (Kd.C_of_reads (h1 := fun _ => rfl) (hA20 _ (Kd.reads_of_C HR1.out)))
                have HC238 := Aside0.mk hC20
                clear hA20 hC20 hi020 hsz20
                have HL238 := Aside0.mk (show (x15_1 : Int) ≤ (l1.length : Int) from (dA))
                go_wp2
                go_loopg [42] kj9 (fun kq v42 w' => ∃ (x42_3 : Int), v42 = .int .i64 x42_3 ∧ Aside0 (impl_IsTogether.l1 kq l0 l1 t236 l1 (l1.length : Int) x15_1 (l1.take (x15_1 : Int).toNat) ((l1.take (x15_1 : Int).toNat).length : Int) x42_3 = some r) ∧ Aside0 (kq ≤ kj9) ∧ Aside0 (Below w.heap.size w w'))
                case atStart => exact ⟨(0), rS, H', ⟨Nat.le_refl _⟩, ⟨bA⟩⟩
                case round =>
                  clear H'
                  try clear c1
                  try clear p2
                  try clear q2
                  try clear hx2
                  try clear c4
                  try clear c5
                  try clear c6
                  try clear c6b0
                  try clear p6
                  try clear c7
                  try clear c7b0
                  try clear c8
                  try clear c8b0
                  try clear c12
                  try clear c12b0
                  try clear c13
                  try clear c13b0
                  try clear c15
                  try clear c15b0
                  try clear c16
                  try clear c16b0
                  try clear c17
                  try clear c18
                  try clear c18b0
                  try clear c18b1
                  try clear c19
                  try clear c19b0
                  try clear c19b1
                  try clear hx235_0
                  try clear hx237_0
                  try clear p2
                  try clear p235
                  try clear p237
                  try clear p6
                  try clear q2
                  try clear q235
                  try clear q237
                  obtain ⟨x42_3, rfl, HA, HK3, HB⟩ := hrel
                  cases gk with
                  | zero => exact absurd HA.out (by simp [impl_IsTogether.l1])
                  | succ k3 =>
                    have H := HA.out
                    clear HA
                    simp only [impl_IsTogether.l1] at H
                    by_cases c21 : x42_3 < ((l1.take (x15_1 : Int).toNat).length : Int)
                    · rw [if_pos c21] at H
                      have c21b0 : decide (x42_3 < ((l1.take (x15_1 : Int).toNat).length : Int)) = true := decide_eq_true c21
                      (try (have c21b1 : decide (x42_3 < max x15_1 0) = true := decide_eq_true (by rw [List.length_take] at c21; omega)))
                      clear c21
                      have c22 : 0 ≤ x42_3 := ifN H
                      replace H := ifT H
                      have c22b0 : decide (0 ≤ x42_3) = true := decide_eq_true c22
                      clear c22
                      have c23 : x42_3 < ((l1.take (x15_1 : Int).toNat).length : Int) := ifN H
                      replace H := ifT H
                      have c23b0 : decide (x42_3 < ((l1.take (x15_1 : Int).toNat).length : Int)) = true := decide_eq_true c23
                      (try (have c23b1 : decide (x42_3 < max x15_1 0) = true := decide_eq_true (by rw [List.length_take] at c23; omega)))
                      clear c23
                      have c24 : 0 ≤ t236 := ifN H
                      replace H := ifT H
                      have c24b0 : decide (0 ≤ t236) = true := decide_eq_true c24
                      clear c24
                      have c25 : t236 < (l0.length : Int) := ifN H
                      replace H := ifT H
                      have c25b0 : decide (t236 < (l0.length : Int)) = true := decide_eq_true c25
                      clear c25
                      obtain ⟨t241, A26, H⟩ := bindE H
                      try dsimp only at H
                      have c27 : 0 ≤ t241 := ifN H
                      replace H := ifT H
                      have c27b0 : decide (0 ≤ t241) = true := decide_eq_true c27
                      clear c27
                      have c28 : t241 < (l0.length : Int) := ifN H
                      replace H := ifT H
                      have c28b0 : decide (t241 < (l0.length : Int)) = true := decide_eq_true c28
                      clear c28
                      obtain ⟨t243, A29, H⟩ := bindE H
                      try dsimp only at H
                      by_cases c30 : t243 = true
                      · subst c30
                        have H1 : (some false) = some r := by rw [if_pos rfl] at H; exact H
                        clear H
                        have H := H1
                        clear H1
                        obtain rfl := Option.some.inj H
                        have p239 : 0 ≤ (x42_3 : Int) := dA
                        have q239 : x42_3 < ((l1.take (x15_1 : Int).toNat).length : Int) := dA
                        (try have q239m : (x42_3 < max x15_1 0) = True := eq_true (of_decide_eq_true (by assumption)))
                        obtain ⟨ad239, e239, hx239_0⟩ := Kd.at_int HR238.out x42_3 p239 q239
                        obtain rfl : ad235 = ad239 := (by injection e239)
                        replace hx239_0 := hC HB hx239_0
                        replace p239 := eq_true p239
                        replace q239 := eq_true q239
                        try go_wp2
                        have HBo := HB
                        replace HB := Aside0.mk (below_drew1 HB.out)
                        have p240 : 0 ≤ (t236 : Int) := dA
                        have q240 : t236 < (l0.length : Int) := dA
                        obtain ⟨ad240, e240, hx240_0, hx240_1, hx240_2, hx240_3⟩ := at_T58 HR0.out t236 p240 q240
                        have hw240_3 := hx240_3
                        have hw240_2 := hx240_2
                        have hw240_1 := hx240_1
                        have hw240_0 := hx240_0
                        cases e240
                        replace hx240_0 := hC HB hx240_0
                        replace hx240_1 := hC HB hx240_1
                        replace hx240_2 := hC HB hx240_2
                        replace hx240_3 := hC HB hx240_3
                        replace p240 := eq_true p240
                        replace q240 := eq_true q240
                        have p242 : 0 ≤ (t241 : Int) := dA
                        have q242 : t241 < (l0.length : Int) := dA
                        obtain ⟨ad242, e242, hx242_0, hx242_1, hx242_2, hx242_3⟩ := at_T58 HR0.out t241 p242 q242
                        have hw242_3 := hx242_3
                        have hw242_2 := hx242_2
                        have hw242_1 := hx242_1
                        have hw242_0 := hx242_0
                        obtain rfl : ad240 = ad242 := (by injection e242)
                        replace hx242_0 := hC HB hx242_0
                        replace hx242_1 := hC HB hx242_1
                        replace hx242_2 := hC HB hx242_2
                        replace hx242_3 := hC HB hx242_3
                        replace p242 := eq_true p242
                        replace q242 := eq_true q242
                        refine start_ (n := 11) (S := fun w' => w'.cell? (ad240.add ((t236).toNat * 4)) = some (.int .i64 ((rd_T58 l0 t236).f0)) ∧ w'.cell? ⟨(ad240.add ((t236).toNat * 4)).block, (ad240.add ((t236).toNat * 4)).off + 1, none⟩ = some (.int .i64 ((rd_T58 l0 t236).f1)) ∧ w'.cell? ⟨(ad240.add ((t236).toNat * 4)).block, (ad240.add ((t236).toNat * 4)).off + 2, none⟩ = some (.int .i64 ((rd_T58 l0 t236).f2)) ∧ w'.cell? ⟨(ad240.add ((t236).toNat * 4)).block, (ad240.add ((t236).toNat * 4)).off + 3, none⟩ = some (.int .i64 ((rd_T58 l0 t236).f3)) ∧ w'.cell? (ad240.add ((t241).toNat * 4)) = some (.int .i64 ((rd_T58 l0 t241).f0)) ∧ w'.cell? ⟨(ad240.add ((t241).toNat * 4)).block, (ad240.add ((t241).toNat * 4)).off + 1, none⟩ = some (.int .i64 ((rd_T58 l0 t241).f1)) ∧ w'.cell? ⟨(ad240.add ((t241).toNat * 4)).block, (ad240.add ((t241).toNat * 4)).off + 2, none⟩ = some (.int .i64 ((rd_T58 l0 t241).f2)) ∧ w'.cell? ⟨(ad240.add ((t241).toNat * 4)).block, (ad240.add ((t241).toNat * 4)).off + 3, none⟩ = some (.int .i64 ((rd_T58 l0 t241).f3))) (ds := []) (mb 11 0) (by kernel_rfl) rfl rfl ⟨(hC HB hw240_0), (hC HB hw240_1), (hC HB hw240_2), (hC HB hw240_3), (hC HB hw242_0), (hC HB hw242_1), (hC HB hw242_2), (hC HB hw242_3)⟩ (fun hHeld => ?_); refine with_tabW impl_IsTogether.tab12 impl_IsTogether.bits12 (fun HT_ HW_ => ?_)
                        generalize wr.drew = w31 at HB hx240_0 hx240_1 hx240_2 hx240_3 hx242_0 hx242_1 hx242_2 hx242_3 hHeld ⊢
                        refine pA (i := 0) (N := some 46) (mb 11 1) HT_ ?_
                        refine pA (i := 1) (N := some 47) (mb 11 3) HT_ ?_
                        refine pA (i := 2) (N := some 48) (mb 11 7) HT_ ?_
                        refine pA (i := 4) (N := some 50) (mb 11 23) HT_ ?_
                        refine pA (i := 5) (N := some 51) (mb 11 55) HT_ ?_
                        refine pA (i := 6) (N := some 52) (mb 11 119) HT_ ?_
                        refine tA8 (i := 3) (N := some 49) (mb 11 127) HT_ HW_ hHeld ?_
                        refine oA (i := 7) (N := some 53) (mb 11 255) HT_ (fun K hK => ?_)
                        refine gA Try.func70 #[.slice (some ad240) l0.length c0, .int .i64 (rd (l1.take (x15_1 : Int).toNat) x42_3)] ?_
                        with_reducible refine (impl_FindPath.calls _ _ l0 (rd (l1.take (x15_1 : Int).toNat) x42_3) t241 _ ?side1 ?side2 A26.out).mono ?_
                        (case side1 => exact cB HR0)
                        (case side2 => exact HC0.out)
                        rintro e w32 ⟨rfl, hb⟩
                        refine ⟨_, rfl, ?_⟩
                        replace HB := Aside0.mk (below_step bA hb)
                        (try clear hb)
                        (try clear hb2)
                        (try clear hk)
                        (try clear hi)
                        refine hK.out _ _ ⟨(hC HB hw240_0), (hC HB hw240_1), (hC HB hw240_2), (hC HB hw240_3), (hC HB hw242_0), (hC HB hw242_1), (hC HB hw242_2), (hC HB hw242_3)⟩ (fun hHeld => ?_)
                        clear hK K
                        refine nA ?_
                        refine pA (i := 8) (N := some 54) (mb 11 511) HT_ ?_
                        refine tA8 (i := 9) (N := some 55) (mb 11 1023) HT_ HW_ hHeld ?_
                        refine oA (i := 10) (N := some 56) (mb 11 2047) HT_ (fun K hK => ?_)
                        refine gA Try.func81 #[.agg #[.int .i64 ((rd_T58 l0 t236).f0), .int .i64 ((rd_T58 l0 t236).f1), .int .i64 ((rd_T58 l0 t236).f2), .int .i64 ((rd_T58 l0 t236).f3)], .agg #[.int .i64 ((rd_T58 l0 t241).f0), .int .i64 ((rd_T58 l0 t241).f1), .int .i64 ((rd_T58 l0 t241).f2), .int .i64 ((rd_T58 l0 t241).f3)]] ?_
                        with_reducible refine (impl_Conflict.calls k3 ((rd_T58 l0 t236).f0) ((rd_T58 l0 t236).f1) ((rd_T58 l0 t236).f2) ((rd_T58 l0 t236).f3) ((rd_T58 l0 t241).f0) ((rd_T58 l0 t241).f1) ((rd_T58 l0 t241).f2) ((rd_T58 l0 t241).f3) true _ A29.out).mono ?_
                        rintro e w33 ⟨rfl, hb⟩
                        refine ⟨_, rfl, ?_⟩
                        replace HB := Aside0.mk (below_step bA hb)
                        (try clear hb)
                        (try clear hb2)
                        (try clear hk)
                        (try clear hi)
                        refine hK.out _ _ ⟨(hC HB hw240_0), (hC HB hw240_1), (hC HB hw240_2), (hC HB hw240_3), (hC HB hw242_0), (hC HB hw242_1), (hC HB hw242_2), (hC HB hw242_3)⟩ (fun hHeld => ?_)
                        clear hK K
                        refine nA ?_
                        refine eA HT_ ?_
                        try go_wp2
                        go_ret
                        exact ⟨rA, bA⟩
                      · replace c30 := Bool.eq_false_iff.mpr c30
                        subst c30
                        have H1 : (impl_IsTogether.l1 k3 l0 l1 t236 l1 (l1.length : Int) x15_1 (l1.take (x15_1 : Int).toNat) ((l1.take (x15_1 : Int).toNat).length : Int) (wrap64 (x42_3 + 1))) = some r := by rw [if_neg (show ¬ (false = true) by decide)] at H; exact H
                        clear H
                        have H := H1
                        clear H1
                        have H' := Aside0.mk H
                        clear H
                        have p239 : 0 ≤ (x42_3 : Int) := dA
                        have q239 : x42_3 < ((l1.take (x15_1 : Int).toNat).length : Int) := dA
                        (try have q239m : (x42_3 < max x15_1 0) = True := eq_true (of_decide_eq_true (by assumption)))
                        obtain ⟨ad239, e239, hx239_0⟩ := Kd.at_int HR238.out x42_3 p239 q239
                        obtain rfl : ad235 = ad239 := (by injection e239)
                        replace hx239_0 := hC HB hx239_0
                        replace p239 := eq_true p239
                        replace q239 := eq_true q239
                        try go_wp2
                        have HBo := HB
                        replace HB := Aside0.mk (below_drew1 HB.out)
                        have p240 : 0 ≤ (t236 : Int) := dA
                        have q240 : t236 < (l0.length : Int) := dA
                        obtain ⟨ad240, e240, hx240_0, hx240_1, hx240_2, hx240_3⟩ := at_T58 HR0.out t236 p240 q240
                        have hw240_3 := hx240_3
                        have hw240_2 := hx240_2
                        have hw240_1 := hx240_1
                        have hw240_0 := hx240_0
                        cases e240
                        replace hx240_0 := hC HB hx240_0
                        replace hx240_1 := hC HB hx240_1
                        replace hx240_2 := hC HB hx240_2
                        replace hx240_3 := hC HB hx240_3
                        replace p240 := eq_true p240
                        replace q240 := eq_true q240
                        have p242 : 0 ≤ (t241 : Int) := dA
                        have q242 : t241 < (l0.length : Int) := dA
                        obtain ⟨ad242, e242, hx242_0, hx242_1, hx242_2, hx242_3⟩ := at_T58 HR0.out t241 p242 q242
                        have hw242_3 := hx242_3
                        have hw242_2 := hx242_2
                        have hw242_1 := hx242_1
                        have hw242_0 := hx242_0
                        obtain rfl : ad240 = ad242 := (by injection e242)
                        replace hx242_0 := hC HB hx242_0
                        replace hx242_1 := hC HB hx242_1
                        replace hx242_2 := hC HB hx242_2
                        replace hx242_3 := hC HB hx242_3
                        replace p242 := eq_true p242
                        replace q242 := eq_true q242
                        refine start_ (n := 11) (S := fun w' => w'.cell? (ad240.add ((t236).toNat * 4)) = some (.int .i64 ((rd_T58 l0 t236).f0)) ∧ w'.cell? ⟨(ad240.add ((t236).toNat * 4)).block, (ad240.add ((t236).toNat * 4)).off + 1, none⟩ = some (.int .i64 ((rd_T58 l0 t236).f1)) ∧ w'.cell? ⟨(ad240.add ((t236).toNat * 4)).block, (ad240.add ((t236).toNat * 4)).off + 2, none⟩ = some (.int .i64 ((rd_T58 l0 t236).f2)) ∧ w'.cell? ⟨(ad240.add ((t236).toNat * 4)).block, (ad240.add ((t236).toNat * 4)).off + 3, none⟩ = some (.int .i64 ((rd_T58 l0 t236).f3)) ∧ w'.cell? (ad240.add ((t241).toNat * 4)) = some (.int .i64 ((rd_T58 l0 t241).f0)) ∧ w'.cell? ⟨(ad240.add ((t241).toNat * 4)).block, (ad240.add ((t241).toNat * 4)).off + 1, none⟩ = some (.int .i64 ((rd_T58 l0 t241).f1)) ∧ w'.cell? ⟨(ad240.add ((t241).toNat * 4)).block, (ad240.add ((t241).toNat * 4)).off + 2, none⟩ = some (.int .i64 ((rd_T58 l0 t241).f2)) ∧ w'.cell? ⟨(ad240.add ((t241).toNat * 4)).block, (ad240.add ((t241).toNat * 4)).off + 3, none⟩ = some (.int .i64 ((rd_T58 l0 t241).f3))) (ds := []) (mb 11 0) (by kernel_rfl) rfl rfl ⟨(hC HB hw240_0), (hC HB hw240_1), (hC HB hw240_2), (hC HB hw240_3), (hC HB hw242_0), (hC HB hw242_1), (hC HB hw242_2), (hC HB hw242_3)⟩ (fun hHeld => ?_); refine with_tabW impl_IsTogether.tab12 impl_IsTogether.bits12 (fun HT_ HW_ => ?_)
                        generalize wr.drew = w34 at HB hx240_0 hx240_1 hx240_2 hx240_3 hx242_0 hx242_1 hx242_2 hx242_3 hHeld ⊢
                        refine pA (i := 0) (N := some 46) (mb 11 1) HT_ ?_
                        refine pA (i := 1) (N := some 47) (mb 11 3) HT_ ?_
                        refine pA (i := 2) (N := some 48) (mb 11 7) HT_ ?_
                        refine pA (i := 4) (N := some 50) (mb 11 23) HT_ ?_
                        refine pA (i := 5) (N := some 51) (mb 11 55) HT_ ?_
                        refine pA (i := 6) (N := some 52) (mb 11 119) HT_ ?_
                        refine tA8 (i := 3) (N := some 49) (mb 11 127) HT_ HW_ hHeld ?_
                        refine oA (i := 7) (N := some 53) (mb 11 255) HT_ (fun K hK => ?_)
                        refine gA Try.func70 #[.slice (some ad240) l0.length c0, .int .i64 (rd (l1.take (x15_1 : Int).toNat) x42_3)] ?_
                        with_reducible refine (impl_FindPath.calls _ _ l0 (rd (l1.take (x15_1 : Int).toNat) x42_3) t241 _ ?side1 ?side2 A26.out).mono ?_
                        (case side1 => exact cB HR0)
                        (case side2 => exact HC0.out)
                        rintro e w35 ⟨rfl, hb⟩
                        refine ⟨_, rfl, ?_⟩
                        replace HB := Aside0.mk (below_step bA hb)
                        (try clear hb)
                        (try clear hb2)
                        (try clear hk)
                        (try clear hi)
                        refine hK.out _ _ ⟨(hC HB hw240_0), (hC HB hw240_1), (hC HB hw240_2), (hC HB hw240_3), (hC HB hw242_0), (hC HB hw242_1), (hC HB hw242_2), (hC HB hw242_3)⟩ (fun hHeld => ?_)
                        clear hK K
                        refine nA ?_
                        refine pA (i := 8) (N := some 54) (mb 11 511) HT_ ?_
                        refine tA8 (i := 9) (N := some 55) (mb 11 1023) HT_ HW_ hHeld ?_
                        refine oA (i := 10) (N := some 56) (mb 11 2047) HT_ (fun K hK => ?_)
                        refine gA Try.func81 #[.agg #[.int .i64 ((rd_T58 l0 t236).f0), .int .i64 ((rd_T58 l0 t236).f1), .int .i64 ((rd_T58 l0 t236).f2), .int .i64 ((rd_T58 l0 t236).f3)], .agg #[.int .i64 ((rd_T58 l0 t241).f0), .int .i64 ((rd_T58 l0 t241).f1), .int .i64 ((rd_T58 l0 t241).f2), .int .i64 ((rd_T58 l0 t241).f3)]] ?_
                        with_reducible refine (impl_Conflict.calls k3 ((rd_T58 l0 t236).f0) ((rd_T58 l0 t236).f1) ((rd_T58 l0 t236).f2) ((rd_T58 l0 t236).f3) ((rd_T58 l0 t241).f0) ((rd_T58 l0 t241).f1) ((rd_T58 l0 t241).f2) ((rd_T58 l0 t241).f3) false _ A29.out).mono ?_
                        rintro e w36 ⟨rfl, hb⟩
                        refine ⟨_, rfl, ?_⟩
                        replace HB := Aside0.mk (below_step bA hb)
                        (try clear hb)
                        (try clear hb2)
                        (try clear hk)
                        (try clear hi)
                        refine hK.out _ _ ⟨(hC HB hw240_0), (hC HB hw240_1), (hC HB hw240_2), (hC HB hw240_3), (hC HB hw242_0), (hC HB hw242_1), (hC HB hw242_2), (hC HB hw242_3)⟩ (fun hHeld => ?_)
                        clear hK K
                        refine nA ?_
                        refine eA HT_ ?_
                        try go_wp2
                        go_roundg k3
                        case measure => have := HK1.out; have := HJ9.out; have := HK3.out; omega
                        case rel => exact ⟨(wrap64 (x42_3 + 1)), rS, H', ⟨by have := HK1.out; have := HJ9.out; have := HK3.out; omega⟩, ⟨bA⟩⟩
                    · rw [if_neg c21] at H
                      have c21b0 : decide (x42_3 < ((l1.take (x15_1 : Int).toNat).length : Int)) = false := decide_eq_false c21
                      (try (have c21b1 : decide (x42_3 < max x15_1 0) = false := decide_eq_false (by have g_ : x15_1 ≤ (l1.length : Int) := (by first | exact dA | exact Int.le_of_lt dA | exact (show Aside0 (x15_1 ≤ (l1.length : Int)) by assumption).out); rw [List.length_take] at c21; omega)))
                      clear c21
                      have H' := Aside0.mk H
                      clear H
                      go_wp2
                      go_roundg k3
                      case measure => have := HK1.out; have := HJ9.out; have := HK3.out; omega
                      case rel => exact ⟨(wrap64 (x15_1 + 1)), rS, H', ⟨by have := HK1.out; have := HJ9.out; have := HK3.out; omega⟩, ⟨bA⟩⟩
        · rw [if_neg c6] at H
          have c6b0 : decide (x15_1 < (l1.length : Int)) = false := decide_eq_false c6
          clear c6
          obtain rfl := Option.some.inj H
          go_wp2
          go_ret
          exact ⟨rA, bA⟩
  · replace c4 := Bool.eq_false_iff.mpr c4
    subst c4
    have H1 : (some false) = some r := by rw [if_neg (show ¬ (false = true) by decide)] at H; exact H
    clear H
    have H := H1
    clear H1
    obtain rfl := Option.some.inj H
    go_enter Try.func59, Try.ntmps59
    go_wp2_with (first | ((with_reducible refine gate_callee (f := 80) rfl ?_); refine gL (some 11) Try.func80 #[.slice A0 l0.length c0] ?_; (with_reducible refine (impl_ArePaths.calls k _ _ l0 false _ ?side1 ?side2 A3.out).mono ?_); (case side1 => exact cO HR0); (case side2 => exact HC0.out); rintro e w37 ⟨rfl, hb⟩; refine ⟨_, rfl, ?_⟩; replace HB := Aside0.mk (below_step bA hb); (try clear hb); (try clear hb2); (try clear hk); (try clear hi)))
    go_ret
    exact ⟨rA, bA⟩

end Go.Proofs.Ytbpnbflfpgakmaa.P
