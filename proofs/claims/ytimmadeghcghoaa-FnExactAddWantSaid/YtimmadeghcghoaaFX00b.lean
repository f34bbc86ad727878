/- Printed by myprint.py (wip/tools) over the kit's print: what Go's functions compute, and that they do. Lean checks it. -/
import Derived.Test.YtimmadeghcghoaaF0
import Derived.Test.YtimmadeghcghoaaFX00
namespace Go.Proofs.Ytimmadeghcghoaa.P
open Go.RowKit Go.Proofs.YtimmadeghcghoaaW.PrintWords Go.Proofs.YtimmadeghcghoaaW.PrintLast Go.Proofs.YtimmadeghcghoaaW.PrintMore Go.Proofs.Ytimmadeghcghoaa.Sq
attribute [local go_sem] max2_int min2_int max_two min_two max_three min_three max_four min_four
set_option linter.unusedVariables false
set_option linter.unusedSimpArgs false

/-! ### spec_AddWant: function 50 -/
def spec_AddWant.l0 : Nat → List (S90) → List (S87) → Int → Int → Option ((List (S87)) × Bool)
 | 0, _, _, _, _ => none
 | k + 1, x0, x1, x2, x8 => if x8 < (x1.length : Int) then (if 0 ≤ x8 then (if ((rd_T87 x1 x8).f0) < x2 then (spec_AddWant.l0 k x0 x1 x2 (wrap64 (x8 + 1))) else ((some (([] : List (S87)) : List (S87))).bind fun y155 => (if x8 ≤ (x1.length : Int) then ((some (x1.take (x8 : Int).toNat : List (S87))).bind fun y158 => (if y155.length + y158.length < 8796093022208 then ((some (y155 ++ y158 : List (S87))).bind fun y162 => ((some (([(⟨x2, 0⟩ : S87)] : List (S87)) : List (S87))).bind fun y165 => (if y162.length + y165.length < 8796093022208 then ((some (y162 ++ y165 : List (S87))).bind fun y168 => ((some (x1.drop (x8 : Int).toNat : List (S87))).bind fun y171 => (if y168.length + y171.length < 8796093022208 then ((some (y168 ++ y171 : List (S87))).bind fun y175 => ((spec_AreWants.f k x0 y175).bind fun t178 => (if t178 = true then (some (y175, true)) else ((some (([] : List (S87)) : List (S87))).bind fun y179 => (if y179.length + x1.length < 8796093022208 then (some ((y179 ++ x1), false)) else (none)))))) else (none)))) else (none)))) else (none))) else (none)))) else (none)) else ((some (([] : List (S87)) : List (S87))).bind fun y185 => (if 0 ≤ x8 then (if x8 ≤ (x1.length : Int) then ((some (x1.take (x8 : Int).toNat : List (S87))).bind fun y188 => (if y185.length + y188.length < 8796093022208 then ((some (y185 ++ y188 : List (S87))).bind fun y192 => ((some (([(⟨x2, 0⟩ : S87)] : List (S87)) : List (S87))).bind fun y195 => (if y192.length + y195.length < 8796093022208 then ((some (y192 ++ y195 : List (S87))).bind fun y198 => ((some (x1.drop (x8 : Int).toNat : List (S87))).bind fun y201 => (if y198.length + y201.length < 8796093022208 then ((some (y198 ++ y201 : List (S87))).bind fun y205 => ((spec_AreWants.f k x0 y205).bind fun t208 => (if t208 = true then (some (y205, true)) else ((some (([] : List (S87)) : List (S87))).bind fun y209 => (if y209.length + x1.length < 8796093022208 then (some ((y209 ++ x1), false)) else (none)))))) else (none)))) else (none)))) else (none))) else (none)) else (none)))
def spec_AddWant.f (k : Nat) (l0 : List (S90)) (l1 : List (S87)) (a2 : Int) : Option ((List (S87)) × Bool) := spec_AddWant.l0 k l0 l1 a2 0
theorem spec_AddWant.mono_l : ∀ k, (∀ y0 y1 y2 y3, LeO (spec_AddWant.l0 k y0 y1 y2 y3) (spec_AddWant.l0 (k + 1) y0 y1 y2 y3))
 | 0 => fun _ _ _ _ r h => by simp [spec_AddWant.l0] at h
 | k + 1 => by
  have ih0 := spec_AddWant.mono_l k
  ·
   intro y0 y1 y2 y3
   unfold spec_AddWant.l0
   repeat' first | (with_reducible first | exact LeO.refl _ | exact LeO.none _ | refine LeO.ite ?_ ?_ | refine LeO.bind ?_ (fun _ => ?_) | exact ih0 _ _ _ _ | exact spec_AreWants.mono _ _ _) | exact LeO.none _ | refine LeO.ite ?_ ?_ | refine LeO.bind ?_ (fun _ => ?_) | exact ih0 _ _ _ _ | exact spec_AreWants.mono _ _ _
theorem spec_AddWant.mono : ∀ a0 a1 a2 k, LeO (spec_AddWant.f k a0 a1 a2) (spec_AddWant.f (k + 1) a0 a1 a2) := by
 intro a0 a1 a2 k
 have ih0 := spec_AddWant.mono_l k
 unfold spec_AddWant.f
 repeat' first | (with_reducible first | exact LeO.refl _ | exact LeO.none _ | refine LeO.ite ?_ ?_ | refine LeO.bind ?_ (fun _ => ?_) | exact ih0 _ _ _ _ | exact spec_AreWants.mono _ _ _) | exact LeO.none _ | refine LeO.ite ?_ ?_ | refine LeO.bind ?_ (fun _ => ?_) | exact ih0 _ _ _ _ | exact spec_AreWants.mono _ _ _
def spec_AddWant.T4 : Bool × List (List Nat × List Nat) := (true, [([], []), ([], []), ([], []), ([1, 2], [1, 2]), ([0, 3], [0, 3]), ([], []), ([5], [5]), ([6], [6]), ([4, 7, 4], [4, 7]), ([], []), ([], []), ([9, 10], [9, 10]), ([8, 11, 8], [8, 11]), ([12, 12, 0, 1, 2, 3, 4, 5, 6, 7, 8, 9, 10, 11, 12], [12])])
def spec_AddWant.B4 : List Nat := [0, 0, 0, 6, 15, 0, 32, 96, 255, 0, 0, 1536, 4095, 8191]
theorem spec_AddWant.tab4 : rtab .any (opsOf Try.f50 4) = spec_AddWant.T4 := by kernel_rfl
theorem spec_AddWant.bits4 : waitsOk spec_AddWant.T4.2 spec_AddWant.B4 = true := by kernel_rfl
set_option maxHeartbeats 8000000 in
set_option maxRecDepth 100000 in
theorem spec_AddWant.calls (k : Nat) (A0 : Option Addr) (c0 : Nat) (l0 : List (S90)) (A1 : Option Addr) (c1 : Nat) (l1 : List (S87)) (a2 : Int) (r1 : List (S87)) (r2 : Bool) (w : World) (hr0 : Kd.C k90 w A0 l0.length l0) (hc0 : l0.length ≤ c0) (hr1 : Kd.C k87 w A1 l1.length l1) (hc1 : l1.length ≤ c1) (h : spec_AddWant.f k l0 l1 a2 = some (r1, r2)) :
  Calls Try.prog 50 #[.slice A0 l0.length c0, .slice A1 l1.length c1, .int .i64 a2] w fun e w' => ∃ v0_ : Value, e = .returned (.tuple #[v0_, .bool r2]) ∧ Kd.R k87 87 w' w.heap.size (fun _ => True) v0_ r1 ∧ Below w.heap.size w w' := by
 have hu87 := Try.underlying87
 have HR0 := Aside0.mk hr0
 have HC0 := Aside0.mk hc0
 clear hr0 hc0
 have HR1 := Aside0.mk hr1
 have HC1 := Aside0.mk hc1
 clear hr1 hc1
 have HB := Aside0.mk (Below.refl w.heap.size w)
 have H : (spec_AddWant.l0 k l0 l1 a2 0) = some (r1, r2) := h
 clear h
 have H' := Aside0.mk H
 clear H
 go_enter Try.func50, Try.ntmps50
 go_wp2
 go_loopg [8] k (fun kq v8 w' => ∃ (x8_1 : Int), v8 = .int .i64 x8_1 ∧ Aside0 (spec_AddWant.l0 kq l0 l1 a2 x8_1 = some (r1, r2)) ∧ Aside0 (kq ≤ k) ∧ Aside0 (Below w.heap.size w w'))
 case atStart => exact ⟨(0), rS, H', ⟨Nat.le_refl _⟩, ⟨bA⟩⟩
 case round =>
  clear H'
  try clear c1
  try clear p2
  obtain ⟨x8_1, rfl, HA, HK1, HB⟩ := hrel
  cases gk with
  | zero => exact absurd HA.out (by simp [spec_AddWant.l0])
  | succ k1 =>
   have H := HA.out
   clear HA
   simp only [spec_AddWant.l0] at H
   by_cases c4 : x8_1 < (l1.length : Int)
   ·
    rw [if_pos c4] at H
    have c4b0 : decide (x8_1 < (l1.length : Int)) = true := decide_eq_true c4
    clear c4
    have c5 : 0 ≤ x8_1 := ifN H
    replace H := ifT H
    have c5b0 : decide (0 ≤ x8_1) = true := decide_eq_true c5
    clear c5
    by_cases c6 : ((rd_T87 l1 x8_1).f0) < a2
    ·
     rw [if_pos c6] at H
     have c6b0 : decide (((rd_T87 l1 x8_1).f0) < a2) = true := decide_eq_true c6
     clear c6
     have H' := Aside0.mk H
     clear H
     have p154 : 0 ≤ (x8_1 : Int) := dA
     have q154 : x8_1 < (l1.length : Int) := dA
     obtain ⟨ad154, e154, hx154_0, hx154_1⟩ := at_T87 HR1.out x8_1 p154 q154
     cases e154
     replace hx154_0 := hC HB hx154_0
     replace hx154_1 := hC HB hx154_1
     replace p154 := eq_true p154
     replace q154 := eq_true q154
     go_wp2
     go_roundg k1
     case measure => have := HK1.out; omega
     case rel => exact ⟨(wrap64 (x8_1 + 1)), rS, H', ⟨by have := HK1.out; omega⟩, ⟨bA⟩⟩
    ·
     rw [if_neg c6] at H
     have c6b0 : decide (((rd_T87 l1 x8_1).f0) < a2) = false := decide_eq_false c6
     clear c6
     obtain ⟨y155, hy155⟩ : ∃ y_ : List (S87), y_ = (([] : List (S87))) := ⟨_, rfl⟩
     replace H : (if x8_1 ≤ (l1.length : Int) then ((some (l1.take (x8_1 : Int).toNat : List (S87))).bind fun y158 => (if y155.length + y158.length < 8796093022208 then ((some (y155 ++ y158 : List (S87))).bind fun y162 => ((some (([(⟨a2, 0⟩ : S87)] : List (S87)) : List (S87))).bind fun y165 => (if y162.length + y165.length < 8796093022208 then ((some (y162 ++ y165 : List (S87))).bind fun y168 => ((some (l1.drop (x8_1 : Int).toNat : List (S87))).bind fun y171 => (if y168.length + y171.length < 8796093022208 then ((some (y168 ++ y171 : List (S87))).bind fun y175 => ((spec_AreWants.f k1 l0 y175).bind fun t178 => (if t178 = true then (some (y175, true)) else ((some (([] : List (S87)) : List (S87))).bind fun y179 => (if y179.length + l1.length < 8796093022208 then (some ((y179 ++ l1), false)) else (none)))))) else (none)))) else (none)))) else (none))) else (none)) = some (r1, r2) := by first | (rw [hy155]; with_reducible exact H) | (have H2_ := (Option.bind_some _ _).symm.trans H; rw [hy155]; with_reducible exact H2_) | (have H2_ := (Option.bind_some _ _).symm.trans H; with_reducible exact H2_) | with_reducible exact H | (rw [hy155]; exact H) | exact H
     have Ny155 := Aside0.mk hy155
     clear hy155
     have c7b0 := eq_true (dA : 0 ≤ x8_1)
     have c8 : x8_1 ≤ (l1.length : Int) := ifN H
     replace H := ifT H
     have c8b0 := eq_true c8
     have c8b1 : decide (x8_1 ≤ (l1.length : Int)) = true := decide_eq_true c8
     clear c8
     obtain ⟨y158, hy158⟩ : ∃ y_ : List (S87), y_ = (l1.take (x8_1 : Int).toNat) := ⟨_, rfl⟩
     replace H : (if y155.length + y158.length < 8796093022208 then ((some (y155 ++ y158 : List (S87))).bind fun y162 => ((some (([(⟨a2, 0⟩ : S87)] : List (S87)) : List (S87))).bind fun y165 => (if y162.length + y165.length < 8796093022208 then ((some (y162 ++ y165 : List (S87))).bind fun y168 => ((some (l1.drop (x8_1 : Int).toNat : List (S87))).bind fun y171 => (if y168.length + y171.length < 8796093022208 then ((some (y168 ++ y171 : List (S87))).bind fun y175 => ((spec_AreWants.f k1 l0 y175).bind fun t178 => (if t178 = true then (some (y175, true)) else ((some (([] : List (S87)) : List (S87))).bind fun y179 => (if y179.length + l1.length < 8796093022208 then (some ((y179 ++ l1), false)) else (none)))))) else (none)))) else (none)))) else (none)) = some (r1, r2) := by first | (rw [hy158]; with_reducible exact H) | (have H2_ := (Option.bind_some _ _).symm.trans H; rw [hy158]; with_reducible exact H2_) | (have H2_ := (Option.bind_some _ _).symm.trans H; with_reducible exact H2_) | with_reducible exact H | (rw [hy158]; exact H) | exact H
     have Ny158 := Aside0.mk hy158
     clear hy158
     have c9 : y155.length + y158.length < 8796093022208 := ifN H
     replace H := ifT H
     have LMc9 := Aside0.mk c9
     clear c9
     obtain ⟨y162, hy162⟩ : ∃ y_ : List (S87), y_ = (y155 ++ y158) := ⟨_, rfl⟩
     replace H : ((some (([(⟨a2, 0⟩ : S87)] : List (S87)) : List (S87))).bind fun y165 => (if y162.length + y165.length < 8796093022208 then ((some (y162 ++ y165 : List (S87))).bind fun y168 => ((some (l1.drop (x8_1 : Int).toNat : List (S87))).bind fun y171 => (if y168.length + y171.length < 8796093022208 then ((some (y168 ++ y171 : List (S87))).bind fun y175 => ((spec_AreWants.f k1 l0 y175).bind fun t178 => (if t178 = true then (some (y175, true)) else ((some (([] : List (S87)) : List (S87))).bind fun y179 => (if y179.length + l1.length < 8796093022208 then (some ((y179 ++ l1), false)) else (none)))))) else (none)))) else (none))) = some (r1, r2) := by first | (rw [hy162]; with_reducible exact H) | (have H2_ := (Option.bind_some _ _).symm.trans H; rw [hy162]; with_reducible exact H2_) | (have H2_ := (Option.bind_some _ _).symm.trans H; with_reducible exact H2_) | with_reducible exact H | (rw [hy162]; exact H) | exact H
     have Ny162 := Aside0.mk hy162
     clear hy162
     obtain ⟨y165, hy165⟩ : ∃ y_ : List (S87), y_ = (([(⟨a2, 0⟩ : S87)] : List (S87))) := ⟨_, rfl⟩
     replace H : (if y162.length + y165.length < 8796093022208 then ((some (y162 ++ y165 : List (S87))).bind fun y168 => ((some (l1.drop (x8_1 : Int).toNat : List (S87))).bind fun y171 => (if y168.length + y171.length < 8796093022208 then ((some (y168 ++ y171 : List (S87))).bind fun y175 => ((spec_AreWants.f k1 l0 y175).bind fun t178 => (if t178 = true then (some (y175, true)) else ((some (([] : List (S87)) : List (S87))).bind fun y179 => (if y179.length + l1.length < 8796093022208 then (some ((y179 ++ l1), false)) else (none)))))) else (none)))) else (none)) = some (r1, r2) := by first | (rw [hy165]; with_reducible exact H) | (have H2_ := (Option.bind_some _ _).symm.trans H; rw [hy165]; with_reducible exact H2_) | (have H2_ := (Option.bind_some _ _).symm.trans H; with_reducible exact H2_) | with_reducible exact H | (rw [hy165]; exact H) | exact H
     have Ny165 := Aside0.mk hy165
     clear hy165
     have c10 : y162.length + y165.length < 8796093022208 := ifN H
     replace H := ifT H
     have LMc10 := Aside0.mk c10
     clear c10
     obtain ⟨y168, hy168⟩ : ∃ y_ : List (S87), y_ = (y162 ++ y165) := ⟨_, rfl⟩
     replace H : ((some (l1.drop (x8_1 : Int).toNat : List (S87))).bind fun y171 => (if y168.length + y171.length < 8796093022208 then ((some (y168 ++ y171 : List (S87))).bind fun y175 => ((spec_AreWants.f k1 l0 y175).bind fun t178 => (if t178 = true then (some (y175, true)) else ((some (([] : List (S87)) : List (S87))).bind fun y179 => (if y179.length + l1.length < 8796093022208 then (some ((y179 ++ l1), false)) else (none)))))) else (none))) = some (r1, r2) := by first | (rw [hy168]; with_reducible exact H) | (have H2_ := (Option.bind_some _ _).symm.trans H; rw [hy168]; with_reducible exact H2_) | (have H2_ := (Option.bind_some _ _).symm.trans H; with_reducible exact H2_) | with_reducible exact H | (rw [hy168]; exact H) | exact H
     have Ny168 := Aside0.mk hy168
     clear hy168
     have c11b0 := eq_true (dA : 0 ≤ x8_1)
     have c12b0 := eq_true (dA : x8_1 ≤ (l1.length : Int))
     obtain ⟨y171, hy171⟩ : ∃ y_ : List (S87), y_ = (l1.drop (x8_1 : Int).toNat) := ⟨_, rfl⟩
     replace H : (if y168.length + y171.length < 8796093022208 then ((some (y168 ++ y171 : List (S87))).bind fun y175 => ((spec_AreWants.f k1 l0 y175).bind fun t178 => (if t178 = true then (some (y175, true)) else ((some (([] : List (S87)) : List (S87))).bind fun y179 => (if y179.length + l1.length < 8796093022208 then (some ((y179 ++ l1), false)) else (none)))))) else (none)) = some (r1, r2) := by first | (rw [hy171]; with_reducible exact H) | (have H2_ := (Option.bind_some _ _).symm.trans H; rw [hy171]; with_reducible exact H2_) | (have H2_ := (Option.bind_some _ _).symm.trans H; with_reducible exact H2_) | with_reducible exact H | (rw [hy171]; exact H) | exact H
     have Ny171 := Aside0.mk hy171
     clear hy171
     have c13 : y168.length + y171.length < 8796093022208 := ifN H
     replace H := ifT H
     have LMc13 := Aside0.mk c13
     clear c13
     obtain ⟨y175, hy175⟩ : ∃ y_ : List (S87), y_ = (y168 ++ y171) := ⟨_, rfl⟩
     replace H : ((spec_AreWants.f k1 l0 y175).bind fun t178 => (if t178 = true then (some (y175, true)) else ((some (([] : List (S87)) : List (S87))).bind fun y179 => (if y179.length + l1.length < 8796093022208 then (some ((y179 ++ l1), false)) else (none))))) = some (r1, r2) := by first | (rw [hy175]; with_reducible exact H) | (have H2_ := (Option.bind_some _ _).symm.trans H; rw [hy175]; with_reducible exact H2_) | (have H2_ := (Option.bind_some _ _).symm.trans H; with_reducible exact H2_) | with_reducible exact H | (rw [hy175]; exact H) | exact H
     have Ny175 := Aside0.mk hy175
     clear hy175
     obtain ⟨t178, A14, H⟩ := bindE H
     try dsimp only at H
     by_cases c15 : t178 = true
     ·
      subst c15
      have H1 : (some (y175, true)) = some (r1, r2) := by rw [if_pos rfl] at H; exact H
      clear H
      have H := H1
      clear H1
      simp only [Option.some.injEq, Prod.mk.injEq] at H
      obtain ⟨rfl, rfl⟩ := H
      have p154 : 0 ≤ (x8_1 : Int) := dA
      have q154 : x8_1 < (l1.length : Int) := dA
      obtain ⟨ad154, e154, hx154_0, hx154_1⟩ := at_T87 HR1.out x8_1 p154 q154
      cases e154
      replace hx154_0 := hC HB hx154_0
      replace hx154_1 := hC HB hx154_1
      replace p154 := eq_true p154
      replace q154 := eq_true q154
      try go_wp2
      have HBo := HB
      replace HB := Aside0.mk (below_drew1 HB.out)
      have q17 : (x8_1 : Int) ≤ ((l1.length : Int) : Int) := dA
      obtain ⟨i017, hi017, _, hsz17, _⟩ := info_parts info87
      have hroom17 : l1.length ≤ c1 := HC1.out
      have hC17 : Kd.C k87 _ (some ad154) l1.length l1 := HR1.out
      have hcut17 := cut_to (P := Try.prog) 45 87 .i64 Try.underlying45 hi017 (some ad154) l1.length c1 x8_1 (dA) q17 hroom17
      have hr17 := Kd.C_take (m := (x8_1 : Int).toNat) hC17 (by omega)
      have hy17 : y158.length = (x8_1 : Int).toNat := (by rw [Ny158.out, List.length_take]; omega)
      rw [← Ny158.out] at hr17
      rw [← hy17] at hcut17
      have HR161 := Aside0.mk hr17
      have HC161 := Aside0.mk (show y158.length ≤ c1 from by omega)
      clear hr17 hC17 hroom17 hi017 hsz17
      have KY17 := Aside0.mk hy17
      clear hy17
      replace q17 := eq_true q17
      have q18 : (x8_1 : Int) ≤ ((l1.length : Int) : Int) := dA
      obtain ⟨i018, hi018, _, hsz18, _⟩ := info_parts info87
      have hroom18 : l1.length ≤ c1 := HC1.out
      have hC18 : Kd.C k87 _ (some ad154) l1.length l1 := HR1.out
      have q018 : (0 : Int) ≤ (x8_1 : Int) := dA
      have hcut18 := cut_from (P := Try.prog) 45 87 .i64 Try.underlying45 hi018 2 hsz18 (some ad154) l1.length c1 x8_1 q018 q18
      have hr18 := Kd.C_drop (m := (x8_1 : Int).toNat) (c := c1) hC18 (by omega) hroom18
      obtain ⟨A18, hA18⟩ : ∃ z_, z_ = (if c1 = (x8_1 : Int).toNat then (some ad154) else ((some ad154) : Option Addr).map (·.add ((x8_1 : Int).toNat * 2))) := ⟨_, rfl⟩
      obtain ⟨c18, hc18⟩ : ∃ z_, z_ = c1 - (x8_1 : Int).toNat := ⟨_, rfl⟩
      have hy18 : y171.length = l1.length - (x8_1 : Int).toNat := (by rw [Ny171.out, List.length_drop] <;> omega)
      rw [show (l1).drop (x8_1 : Int).toNat = y171 from Ny171.out.symm] at hr18
      replace hr18 : Kd.C k87 _ A18 y171.length y171 := (by rw [hA18]; exact hr18)
      rw [← hy18, ← hA18, ← hc18] at hcut18
      have HR174 := Aside0.mk hr18
      have HC174 := Aside0.mk (show y171.length ≤ c18 from by rw [hy18, hc18]; exact Nat.sub_le_sub_right hroom18 _)
      clear hr18 hC18 hroom18 hi018 hsz18 hc18
      have KY18 := Aside0.mk hy18
      have KA18 := Aside0.mk hA18
      clear hy18 hA18
      replace q18 := eq_true q18
      refine start_ (n := 14) (S := fun w' => True) (ds := []) (mb 14 0) (by kernel_rfl) rfl rfl trivial (fun hHeld => ?_); refine with_tabW spec_AddWant.tab4 spec_AddWant.bits4 (fun HT_ HW_ => ?_)
      generalize wr.drew = w16 at HB HR161 HR174 hHeld ⊢
      refine pA (i := 1) (N := some 26) (mb 14 2) HT_ ?_
      refine pA (i := 2) (N := some 27) (mb 14 6) HT_ ?_
      refine pA (i := 3) (N := some 28) (mb 14 14) HT_ ?_
      refine pA (i := 5) (N := some 30) (mb 14 46) HT_ ?_
      refine pA (i := 6) (N := some 31) (mb 14 110) HT_ ?_
      refine pA (i := 9) (N := some 34) (mb 14 622) HT_ ?_
      refine pA (i := 10) (N := some 35) (mb 14 1646) HT_ ?_
      refine pA (i := 11) (N := some 36) (mb 14 3694) HT_ ?_
      refine join_ (σ := Value × Value × Value) 3 (mb 14 3839) (fun s_ => [(25, s_.1), (29, s_.2.1), (32, s_.2.2)]) (fun s_ w' => (Kd.R k87 87 w' w.heap.size (fun k_ => some k_ ≠ (s_.2.2 : Value).ownBlock) s_.2.1 y162) ∧ (Kd.R k87 87 w' w.heap.size (fun k_ => some k_ ≠ (s_.2.1 : Value).ownBlock) s_.2.2 y165) ∧ (Below w.heap.size w w')) ?_ ?_
      rotate_left
      ·
       intro hCont
       refine two_ (i := 0) (j := 7) (Ni := some 25) (Nj := some 32) (mb 14 3695) (mb 14 3822) rfl rfl rfl rfl (two_of HT_.out (by kernel_rfl)) (by decide) (by decide) (fun K hK => ?_) (fun K hK => ?_)
       ·
        skip
        refine Kd.R_lit_step k87 _ 87 ?hg (N := 25) ?hd (xs := ([] : List (S87))) (inner := []) (ok := fun _ => True) (okp := fun _ => True) ?hr ?hp (fun _ hk => hk) trivial (Below.refl _ _) (Nat.le_refl _) (by simp) ?_; (case hd => rfl); (case hg => rfl); (case hr => first | (go_simp; done) | (go_simp; rfl)); (case hp => exact (Reps.none _ _))
        intro v156 w19 ho20 hb hg_ hnew_
        clear hg_ hnew_
        (first | rw [← Ny155.out] at ho20 | (simp only [Int.reduceToNat] at ho20; rw [← Ny155.out] at ho20))
        have HO157 := Aside0.mk (Kd.R_lower ho20 (below_size bA))
        replace HB := Aside0.mk (below_step bA hb)
        clear hb ho20
        refine hK.out _ _ trivial (fun hHeld => ?_)
        clear hK K
        refine nB ?_
        refine two_ (i := 4) (j := 7) (Ni := some 29) (Nj := some 32) (mb 14 3711) (mb 14 3823) rfl rfl rfl rfl (two_of HT_.out (by kernel_rfl)) (by decide) (by decide) (fun K hK => ?_) (fun K hK => ?_)
        ·
         skip
         refine Kd.R_append_rows_step k87 (w0 := w) w.heap.size (by rfl) (.tmp 25) (.tmp 28) 45 87 (.agg #[(.int .i64 0), (.int .i64 0)]) 16 rfl Try.underlying45 info87 rfl (by decide) (by omega) v156 y155 y158 _ _ _ (fun _ => True) (fun _ => False) rfl rfl ?aO ?aR (fun _ _ h => h) (fun _ h => h.elim) ?aF ?aB ?aS ?aL ?_
         (case aR => repeat (first | exact (Kd.C_below HR161.out HB.out) | (with_reducible refine Kd.C_alloc ?_ _) | (with_reducible refine Kd.C_drewN ?_ _) | (with_reducible refine Kd.C_drew ?_)))
         (case aB => exact bA)
         (case aF => exact (fun _ _ => trivial))
         (case aO => exact (rK HO157))
         (case aS => exact (below_size bA))
         (case aL => have := LMc9.out; omega)
         intro v163 w21 ho hb hg hat
         rw [← Ny162.out] at ho
         have n0_ := Aside0.mk (hb)
         have n1_ := Aside0.mk (ho)
         clear HB
         clear HO157
         have HB := n0_
         have HO164 := n1_
         clear n0_ n1_
         clear ho hb hg hat
         refine hK.out _ _ trivial (fun hHeld => ?_)
         clear hK K
         refine nB ?_
         refine oA (i := 7) (N := some 32) (mb 14 3839) HT_ (fun K hK => ?_)
         refine Kd.R_lit_step k87 _ 87 ?hg (N := 32) ?hd (xs := ([(⟨a2, 0⟩ : S87)] : List (S87))) (inner := [.int .i64 a2, .int .i64 0]) (ok := fun _ => True) (okp := fun _ => True) ?hr ?hp (fun _ hk => hk) trivial (Below.refl _ _) (Nat.le_refl _) (by simp) ?_; (case hd => rfl); (case hg => rfl); (case hr => first | (go_simp; done) | (go_simp; rfl)); (case hp => exact (Reps.c2 (show Kd.M k87 _ _ _ (⟨a2, 0⟩ : S87) [.int .i64 a2, .int .i64 0] from (k87_mkM _ _ _ (⟨a2, 0⟩ : S87) )) (Reps.none _ _)))
         intro v166 w22 ho23 hb hg_ hnew_
         clear hg_ hnew_
         (first | rw [← Ny165.out] at ho23 | (simp only [Int.reduceToNat] at ho23; rw [← Ny165.out] at ho23))
         have HO167 := Aside0.mk (Kd.R_lower (Kd.R_new' ho23 (Kd.R_lt (rK HO164))) (below_size bA))
         replace HO164 := Aside0.mk (Kd.R_elder' (rK HO164) (Kd.R_base ho23) hb)
         replace HB := Aside0.mk (below_step bA hb)
         clear hb ho23
         refine hK.out _ _ trivial (fun hHeld => ?_)
         clear hK K
         refine nB ?_
         exact mB (hCont (v156, v163, v166) _ ⟨(by (with_reducible repeat (first | apply Kd.R_alloc | apply Kd.R_drewN | apply Kd.R_drew)); exact Kd.R_mono HO164.out (fun _ hk => hk.2)), (by (with_reducible repeat (first | apply Kd.R_alloc | apply Kd.R_drewN | apply Kd.R_drew)); exact Kd.R_mono HO167.out (fun _ hk => hk.2)), bA⟩)
        ·
         skip
         refine Kd.R_lit_step k87 _ 87 ?hg (N := 32) ?hd (xs := ([(⟨a2, 0⟩ : S87)] : List (S87))) (inner := [.int .i64 a2, .int .i64 0]) (ok := fun _ => True) (okp := fun _ => True) ?hr ?hp (fun _ hk => hk) trivial (Below.refl _ _) (Nat.le_refl _) (by simp) ?_; (case hd => rfl); (case hg => rfl); (case hr => first | (go_simp; done) | (go_simp; rfl)); (case hp => exact (Reps.c2 (show Kd.M k87 _ _ _ (⟨a2, 0⟩ : S87) [.int .i64 a2, .int .i64 0] from (k87_mkM _ _ _ (⟨a2, 0⟩ : S87) )) (Reps.none _ _)))
         intro v166 w21 ho22 hb hg_ hnew_
         clear hg_ hnew_
         (first | rw [← Ny165.out] at ho22 | (simp only [Int.reduceToNat] at ho22; rw [← Ny165.out] at ho22))
         have HO167 := Aside0.mk (Kd.R_lower (Kd.R_new' ho22 (Kd.R_lt (rK HO157))) (below_size bA))
         replace HO157 := Aside0.mk (Kd.R_elder' (rK HO157) (Kd.R_base ho22) hb)
         replace HB := Aside0.mk (below_step bA hb)
         clear hb ho22
         refine hK.out _ _ trivial (fun hHeld => ?_)
         clear hK K
         refine nB ?_
         refine oA (i := 4) (N := some 29) (mb 14 3839) HT_ (fun K hK => ?_)
         refine Kd.R_append_rows_step k87 (w0 := w) w.heap.size (by rfl) (.tmp 25) (.tmp 28) 45 87 (.agg #[(.int .i64 0), (.int .i64 0)]) 16 rfl Try.underlying45 info87 rfl (by decide) (by omega) v156 y155 y158 _ _ _ (fun k_ => some k_ ≠ (v166 : Value).ownBlock) (fun _ => False) rfl rfl ?aO ?aR (fun _ _ h => h) (fun _ h => h.elim) ?aF ?aB ?aS ?aL ?_
         (case aR => repeat (first | exact (Kd.C_below HR161.out HB.out) | (with_reducible refine Kd.C_alloc ?_ _) | (with_reducible refine Kd.C_drewN ?_ _) | (with_reducible refine Kd.C_drew ?_)))
         (case aB => exact bA)
         (case aF => exact (fun k_ hk => Kd.fresh' (Kd.R_lt (rK HO167)) k_ hk))
         (case aO => exact (by (with_reducible repeat (first | apply Kd.R_alloc | apply Kd.R_drewN | apply Kd.R_drew)); exact Kd.R_mono HO157.out (fun _ hk => hk.2)))
         (case aS => exact (below_size bA))
         (case aL => have := LMc9.out; omega)
         intro v163 w23 ho hb hg hat
         rw [← Ny162.out] at ho
         have n0_ := Aside0.mk (Kd.R_after (ok := (fun _ => True)) (rK HO167) hg hat)
         have n1_ := Aside0.mk (hb)
         have n2_ := Aside0.mk (ho)
         clear HO167
         clear HB
         clear HO157
         have HO167 := n0_
         have HB := n1_
         have HO164 := n2_
         clear n0_ n1_ n2_
         clear ho hb hg hat
         refine hK.out _ _ trivial (fun hHeld => ?_)
         clear hK K
         refine nB ?_
         exact mB (hCont (v156, v163, v166) _ ⟨(rK HO164), (by (with_reducible repeat (first | apply Kd.R_alloc | apply Kd.R_drewN | apply Kd.R_drew)); exact Kd.R_mono HO167.out (fun _ hk => hk.2)), bA⟩)
       ·
        skip
        refine Kd.R_lit_step k87 _ 87 ?hg (N := 32) ?hd (xs := ([(⟨a2, 0⟩ : S87)] : List (S87))) (inner := [.int .i64 a2, .int .i64 0]) (ok := fun _ => True) (okp := fun _ => True) ?hr ?hp (fun _ hk => hk) trivial (Below.refl _ _) (Nat.le_refl _) (by simp) ?_; (case hd => rfl); (case hg => rfl); (case hr => first | (go_simp; done) | (go_simp; rfl)); (case hp => exact (Reps.c2 (show Kd.M k87 _ _ _ (⟨a2, 0⟩ : S87) [.int .i64 a2, .int .i64 0] from (k87_mkM _ _ _ (⟨a2, 0⟩ : S87) )) (Reps.none _ _)))
        intro v166 w19 ho20 hb hg_ hnew_
        clear hg_ hnew_
        (first | rw [← Ny165.out] at ho20 | (simp only [Int.reduceToNat] at ho20; rw [← Ny165.out] at ho20))
        have HO167 := Aside0.mk (Kd.R_lower ho20 (below_size bA))
        replace HB := Aside0.mk (below_step bA hb)
        clear hb ho20
        refine hK.out _ _ trivial (fun hHeld => ?_)
        clear hK K
        refine nB ?_
        refine oA (i := 0) (N := some 25) (mb 14 3823) HT_ (fun K hK => ?_)
        refine Kd.R_lit_step k87 _ 87 ?hg (N := 25) ?hd (xs := ([] : List (S87))) (inner := []) (ok := fun _ => True) (okp := fun _ => True) ?hr ?hp (fun _ hk => hk) trivial (Below.refl _ _) (Nat.le_refl _) (by simp) ?_; (case hd => rfl); (case hg => rfl); (case hr => first | (go_simp; done) | (go_simp; rfl)); (case hp => exact (Reps.none _ _))
        intro v156 w21 ho22 hb hg_ hnew_
        clear hg_ hnew_
        (first | rw [← Ny155.out] at ho22 | (simp only [Int.reduceToNat] at ho22; rw [← Ny155.out] at ho22))
        have HO157 := Aside0.mk (Kd.R_lower (Kd.R_new' ho22 (Kd.R_lt (rK HO167))) (below_size bA))
        replace HO167 := Aside0.mk (Kd.R_elder' (rK HO167) (Kd.R_base ho22) hb)
        replace HB := Aside0.mk (below_step bA hb)
        clear hb ho22
        refine hK.out _ _ trivial (fun hHeld => ?_)
        clear hK K
        refine nB ?_
        refine oA (i := 4) (N := some 29) (mb 14 3839) HT_ (fun K hK => ?_)
        refine Kd.R_append_rows_step k87 (w0 := w) w.heap.size (by rfl) (.tmp 25) (.tmp 28) 45 87 (.agg #[(.int .i64 0), (.int .i64 0)]) 16 rfl Try.underlying45 info87 rfl (by decide) (by omega) v156 y155 y158 _ _ _ (fun k_ => some k_ ≠ (v166 : Value).ownBlock) (fun _ => False) rfl rfl ?aO ?aR (fun _ _ h => h) (fun _ h => h.elim) ?aF ?aB ?aS ?aL ?_
        (case aR => repeat (first | exact (Kd.C_below HR161.out HB.out) | (with_reducible refine Kd.C_alloc ?_ _) | (with_reducible refine Kd.C_drewN ?_ _) | (with_reducible refine Kd.C_drew ?_)))
        (case aB => exact bA)
        (case aF => exact (fun k_ hk => Kd.fresh' (Kd.R_lt (rK HO167)) k_ hk))
        (case aO => exact (by (with_reducible repeat (first | apply Kd.R_alloc | apply Kd.R_drewN | apply Kd.R_drew)); exact Kd.R_mono HO157.out (fun _ hk => hk.2)))
        (case aS => exact (below_size bA))
        (case aL => have := LMc9.out; omega)
        intro v163 w23 ho hb hg hat
        rw [← Ny162.out] at ho
        have n0_ := Aside0.mk (Kd.R_after (ok := (fun _ => True)) (rK HO167) hg hat)
        have n1_ := Aside0.mk (hb)
        have n2_ := Aside0.mk (ho)
        clear HO167
        clear HB
        clear HO157
        have HO167 := n0_
        have HB := n1_
        have HO164 := n2_
        clear n0_ n1_ n2_
        clear ho hb hg hat
        refine hK.out _ _ trivial (fun hHeld => ?_)
        clear hK K
        refine nB ?_
        exact mB (hCont (v156, v163, v166) _ ⟨(rK HO164), (by (with_reducible repeat (first | apply Kd.R_alloc | apply Kd.R_drewN | apply Kd.R_drew)); exact Kd.R_mono HO167.out (fun _ hk => hk.2)), bA⟩)
      rintro ⟨v156, v163, v166⟩ w24 ⟨h0_, h1_, h2_⟩
      have n0_ : Aside0 (Kd.R k87 87 w24 w.heap.size (fun k_ => some k_ ≠ (v166 : Value).ownBlock) v163 y162) := ⟨h0_⟩
      have n1_ : Aside0 (Kd.R k87 87 w24 w.heap.size (fun k_ => some k_ ≠ (v163 : Value).ownBlock) v166 y165) := ⟨h1_⟩
      have n2_ : Aside0 (Below w.heap.size w w24) := ⟨h2_⟩
      clear HB
      clear h0_ h1_ h2_
      have HO164 := n0_
      have HO167 := n1_
      have HB := n2_
      clear n0_ n1_ n2_
      have hHeld := trivial
      obtain ⟨Ao26, co26, eo26⟩ := Kd.R_slice HO167.out
      (first | subst eo26 | (injection eo26 with f1_ f2_ f3_; have f4_ := f1_.symm; have f5_ := f3_.symm; clear f1_ f2_ f3_; subst f4_; subst f5_))
      refine norm_ (a' := ?_) ?_ ?_
      rotate_left
      ·
       simp only [putAll, Act.put, List.setIfInBounds_toArray, List.set_cons_zero, List.set_cons_succ]
       rfl
      refine oA (i := 8) (N := some 33) (mb 14 4095) HT_ (fun K hK => ?_)
      refine Kd.R_append_rows_step k87 (w0 := w) w.heap.size (by rfl) (.tmp 29) (.tmp 32) 45 87 (.agg #[(.int .i64 0), (.int .i64 0)]) 16 rfl Try.underlying45 info87 rfl (by decide) (by omega) v163 y162 y165 _ _ _ (fun k_ => some k_ ≠ (.slice Ao26 y165.length co26 : Value).ownBlock) (fun _ => False) rfl rfl ?aO ?aR (fun _ _ h => h) (fun _ h => h.elim) ?aF ?aB ?aS ?aL ?_
      (case aR => repeat (first | exact (Kd.R_reads' HO167.out).2.2 | (with_reducible refine Kd.C_alloc ?_ _) | (with_reducible refine Kd.C_drewN ?_ _) | (with_reducible refine Kd.C_drew ?_)))
      (case aB => exact bA)
      (case aF => exact (fun k_ hk => Kd.fresh' (Kd.R_lt (rK HO167)) k_ hk))
      (case aO => exact (rK HO164))
      (case aS => exact (below_size bA))
      (case aL => have := LMc10.out; omega)
      intro v169 w25 ho hb hg hat
      rw [← Ny168.out] at ho
      have n0_ := Aside0.mk (Kd.R_after (ok := (fun _ => True)) (by (with_reducible repeat (first | apply Kd.R_alloc | apply Kd.R_drewN | apply Kd.R_drew)); exact Kd.R_mono HO167.out (fun _ hk => ⟨trivial, hk⟩)) hg hat)
      have n1_ := Aside0.mk (hb)
      have n2_ := Aside0.mk (ho)
      clear HO167
      clear HB
      clear HO164
      have HO167 := n0_
      have HB := n1_
      have HO170 := n2_
      clear n0_ n1_ n2_
      clear ho hb hg hat
      refine hK.out _ _ trivial (fun hHeld => ?_)
      clear hK K
      refine nB ?_
      refine oA (i := 12) (N := some 37) (mb 14 8191) HT_ (fun K hK => ?_)
      refine Kd.R_append_rows_step k87 (w0 := w) w.heap.size (by rfl) (.tmp 33) (.tmp 36) 45 87 (.agg #[(.int .i64 0), (.int .i64 0)]) 16 rfl Try.underlying45 info87 rfl (by decide) (by omega) v169 y168 y171 _ _ _ (fun k_ => some k_ ≠ (.slice Ao26 y165.length co26 : Value).ownBlock) (fun _ => False) rfl rfl ?aO ?aR (fun _ _ h => h) (fun _ h => h.elim) ?aF ?aB ?aS ?aL ?_
      (case aR => repeat (first | exact (Kd.C_below HR174.out HB.out) | (with_reducible refine Kd.C_alloc ?_ _) | (with_reducible refine Kd.C_drewN ?_ _) | (with_reducible refine Kd.C_drew ?_)))
      (case aB => exact bA)
      (case aF => exact (fun k_ hk => Kd.fresh' (Kd.R_lt (rK HO167)) k_ hk))
      (case aO => exact (rK HO170))
      (case aS => exact (below_size bA))
      (case aL => have := LMc13.out; omega)
      intro v176 w27 ho hb hg hat
      rw [← Ny175.out] at ho
      have n0_ := Aside0.mk (Kd.R_after (ok := (fun _ => True)) (rK HO167) hg hat)
      have n1_ := Aside0.mk (hb)
      have n2_ := Aside0.mk (ho)
      clear HO167
      clear HB
      clear HO170
      have HO167 := n0_
      have HB := n1_
      have HO177 := n2_
      clear n0_ n1_ n2_
      clear ho hb hg hat
      refine hK.out _ _ trivial (fun hHeld => ?_)
      clear hK K
      refine nB ?_
      refine pA (i := 13) (N := some 9) (mb 14 16383) HT_ ?_
      refine eA HT_ ?_
      obtain ⟨Ao28, co28, eo28⟩ := Kd.R_slice HO177.out
      subst eo28
      try go_wp2_with (first | ((with_reducible refine gate_callee (f := 33) rfl ?_); refine gL (some 40) Try.func33 #[.slice A0 l0.length c0, .slice Ao28 y175.length co28] ?_; (with_reducible refine (spec_AreWants.calls k1 _ _ l0 _ _ y175 true _ ?side1 ?side2 ?side3 ?side4 A14.out).mono ?_); (case side1 => exact cB HR0); (case side2 => exact HC0.out); (case side3 => exact cO ⟨(Kd.R_reads' HO177.out).2.2⟩); (case side4 => exact (Kd.R_reads' HO177.out).2.1); rintro e w29 ⟨rfl, hb⟩; refine ⟨_, rfl, ?_⟩; replace HO167 := Aside0.mk (Kd.R_below (rK HO167) hb); replace HO177 := Aside0.mk (Kd.R_below (rK HO177) hb); replace HB := Aside0.mk (below_step bA hb); (try clear hb); (try clear hb2); (try clear hk); (try clear hi)))
      go_ret2
      exact ⟨_, by first | rfl | (simp [errW_none, errW_some] <;> rfl) | (simp [*, errW_none, errW_some] <;> rfl), by (with_reducible repeat (first | apply Kd.R_alloc | apply Kd.R_drewN | apply Kd.R_drew)); exact Kd.R_mono HO177.out (fun _ hk => trivial), bA⟩
     ·
      replace c15 := Bool.eq_false_iff.mpr c15
      subst c15
      have H1 : ((some (([] : List (S87)) : List (S87))).bind fun y179 => (if y179.length + l1.length < 8796093022208 then (some ((y179 ++ l1), false)) else (none))) = some (r1, r2) := by rw [if_neg (show ¬ (false = true) by decide)] at H; exact H
      clear H
      have H := H1
      clear H1
      obtain ⟨y179, hy179⟩ : ∃ y_ : List (S87), y_ = (([] : List (S87))) := ⟨_, rfl⟩
      replace H : (if y179.length + l1.length < 8796093022208 then (some ((y179 ++ l1), false)) else (none)) = some (r1, r2) := by first | (rw [hy179]; with_reducible exact H) | (have H2_ := (Option.bind_some _ _).symm.trans H; rw [hy179]; with_reducible exact H2_) | (have H2_ := (Option.bind_some _ _).symm.trans H; with_reducible exact H2_) | with_reducible exact H | (rw [hy179]; exact H) | exact H
      have Ny179 := Aside0.mk hy179
      clear hy179
      have c30 : y179.length + l1.length < 8796093022208 := ifN H
      replace H := ifT H
      have LMc30 := Aside0.mk c30
      clear c30
      obtain ⟨y182, hy182⟩ : ∃ y_ : List (S87), y_ = (y179 ++ l1) := ⟨_, rfl⟩
      replace H : (some (y182, false)) = some (r1, r2) := by first | (rw [hy182]; with_reducible exact H) | (have H2_ := (Option.bind_some _ _).symm.trans H; rw [hy182]; with_reducible exact H2_) | (have H2_ := (Option.bind_some _ _).symm.trans H; with_reducible exact H2_) | with_reducible exact H | (rw [hy182]; exact H) | exact H
      have Ny182 := Aside0.mk hy182
      clear hy182
      simp only [Option.some.injEq, Prod.mk.injEq] at H
      obtain ⟨rfl, rfl⟩ := H
      have p154 : 0 ≤ (x8_1 : Int) := dA
      have q154 : x8_1 < (l1.length : Int) := dA
      obtain ⟨ad154, e154, hx154_0, hx154_1⟩ := at_T87 HR1.out x8_1 p154 q154
      cases e154
      replace hx154_0 := hC HB hx154_0
      replace hx154_1 := hC HB hx154_1
      replace p154 := eq_true p154
      replace q154 := eq_true q154
      try go_wp2
      have HBo := HB
      replace HB := Aside0.mk (below_drew1 HB.out)
      have q32 : (x8_1 : Int) ≤ ((l1.length : Int) : Int) := dA
      obtain ⟨i032, hi032, _, hsz32, _⟩ := info_parts info87
      have hroom32 : l1.length ≤ c1 := HC1.out
      have hC32 : Kd.C k87 _ (some ad154) l1.length l1 := HR1.out
      have hcut32 := cut_to (P := Try.prog) 45 87 .i64 Try.underlying45 hi032 (some ad154) l1.length c1 x8_1 (dA) q32 hroom32
      have hr32 := Kd.C_take (m := (x8_1 : Int).toNat) hC32 (by omega)
      have hy32 : y158.length = (x8_1 : Int).toNat := (by rw [Ny158.out, List.length_take]; omega)
      rw [← Ny158.out] at hr32
      rw [← hy32] at hcut32
      have HR161 := Aside0.mk hr32
      have HC161 := Aside0.mk (show y158.length ≤ c1 from by omega)
      clear hr32 hC32 hroom32 hi032 hsz32
      have KY32 := Aside0.mk hy32
      clear hy32
      replace q32 := eq_true q32
      have q33 : (x8_1 : Int) ≤ ((l1.length : Int) : Int) := dA
      obtain ⟨i033, hi033, _, hsz33, _⟩ := info_parts info87
      have hroom33 : l1.length ≤ c1 := HC1.out
      have hC33 : Kd.C k87 _ (some ad154) l1.length l1 := HR1.out
      have q033 : (0 : Int) ≤ (x8_1 : Int) := dA
      have hcut33 := cut_from (P := Try.prog) 45 87 .i64 Try.underlying45 hi033 2 hsz33 (some ad154) l1.length c1 x8_1 q033 q33
      have hr33 := Kd.C_drop (m := (x8_1 : Int).toNat) (c := c1) hC33 (by omega) hroom33
      obtain ⟨A33, hA33⟩ : ∃ z_, z_ = (if c1 = (x8_1 : Int).toNat then (some ad154) else ((some ad154) : Option Addr).map (·.add ((x8_1 : Int).toNat * 2))) := ⟨_, rfl⟩
      obtain ⟨c33, hc33⟩ : ∃ z_, z_ = c1 - (x8_1 : Int).toNat := ⟨_, rfl⟩
      have hy33 : y171.length = l1.length - (x8_1 : Int).toNat := (by rw [Ny171.out, List.length_drop] <;> omega)
      rw [show (l1).drop (x8_1 : Int).toNat = y171 from Ny171.out.symm] at hr33
      replace hr33 : Kd.C k87 _ A33 y171.length y171 := (by rw [hA33]; exact hr33)
      rw [← hy33, ← hA33, ← hc33] at hcut33
      have HR174 := Aside0.mk hr33
      have HC174 := Aside0.mk (show y171.length ≤ c33 from by rw [hy33, hc33]; exact Nat.sub_le_sub_right hroom33 _)
      clear hr33 hC33 hroom33 hi033 hsz33 hc33
      have KY33 := Aside0.mk hy33
      have KA33 := Aside0.mk hA33
      clear hy33 hA33
      replace q33 := eq_true q33
      refine start_ (n := 14) (S := fun w' => True) (ds := []) (mb 14 0) (by kernel_rfl) rfl rfl trivial (fun hHeld => ?_); refine with_tabW spec_AddWant.tab4 spec_AddWant.bits4 (fun HT_ HW_ => ?_)
      generalize wr.drew = w31 at HB HR161 HR174 hHeld ⊢
      refine pA (i := 1) (N := some 26) (mb 14 2) HT_ ?_
      refine pA (i := 2) (N := some 27) (mb 14 6) HT_ ?_
      refine pA (i := 3) (N := some 28) (mb 14 14) HT_ ?_
      refine pA (i := 5) (N := some 30) (mb 14 46) HT_ ?_
      refine pA (i := 6) (N := some 31) (mb 14 110) HT_ ?_
      refine pA (i := 9) (N := some 34) (mb 14 622) HT_ ?_
      refine pA (i := 10) (N := some 35) (mb 14 1646) HT_ ?_
      refine pA (i := 11) (N := some 36) (mb 14 3694) HT_ ?_
      refine join_ (σ := Value × Value × Value) 3 (mb 14 3839) (fun s_ => [(25, s_.1), (29, s_.2.1), (32, s_.2.2)]) (fun s_ w' => (Kd.R k87 87 w' w.heap.size (fun k_ => some k_ ≠ (s_.2.2 : Value).ownBlock) s_.2.1 y162) ∧ (Kd.R k87 87 w' w.heap.size (fun k_ => some k_ ≠ (s_.2.1 : Value).ownBlock) s_.2.2 y165) ∧ (Below w.heap.size w w')) ?_ ?_
      rotate_left
      ·
       intro hCont
       refine two_ (i := 0) (j := 7) (Ni := some 25) (Nj := some 32) (mb 14 3695) (mb 14 3822) rfl rfl rfl rfl (two_of HT_.out (by kernel_rfl)) (by decide) (by decide) (fun K hK => ?_) (fun K hK => ?_)
       ·
        skip
        refine Kd.R_lit_step k87 _ 87 ?hg (N := 25) ?hd (xs := ([] : List (S87))) (inner := []) (ok := fun _ => True) (okp := fun _ => True) ?hr ?hp (fun _ hk => hk) trivial (Below.refl _ _) (Nat.le_refl _) (by simp) ?_; (case hd => rfl); (case hg => rfl); (case hr => first | (go_simp; done) | (go_simp; rfl)); (case hp => exact (Reps.none _ _))
        intro v156 w34 ho35 hb hg_ hnew_
        clear hg_ hnew_
        (first | rw [← Ny155.out] at ho35 | (simp only [Int.reduceToNat] at ho35; rw [← Ny155.out] at ho35))
        have HO157 := Aside0.mk (Kd.R_lower ho35 (below_size bA))
        replace HB := Aside0.mk (below_step bA hb)
        clear hb ho35
        refine hK.out _ _ trivial (fun hHeld => ?_)
        clear hK K
        refine nB ?_
        refine two_ (i := 4) (j := 7) (Ni := some 29) (Nj := some 32) (mb 14 3711) (mb 14 3823) rfl rfl rfl rfl (two_of HT_.out (by kernel_rfl)) (by decide) (by decide) (fun K hK => ?_) (fun K hK => ?_)
        ·
         skip
         refine Kd.R_append_rows_step k87 (w0 := w) w.heap.size (by rfl) (.tmp 25) (.tmp 28) 45 87 (.agg #[(.int .i64 0), (.int .i64 0)]) 16 rfl Try.underlying45 info87 rfl (by decide) (by omega) v156 y155 y158 _ _ _ (fun _ => True) (fun _ => False) rfl rfl ?aO ?aR (fun _ _ h => h) (fun _ h => h.elim) ?aF ?aB ?aS ?aL ?_
         (case aR => repeat (first | exact (Kd.C_below HR161.out HB.out) | (with_reducible refine Kd.C_alloc ?_ _) | (with_reducible refine Kd.C_drewN ?_ _) | (with_reducible refine Kd.C_drew ?_)))
         (case aB => exact bA)
         (case aF => exact (fun _ _ => trivial))
         (case aO => exact (rK HO157))
         (case aS => exact (below_size bA))
         (case aL => have := LMc9.out; omega)
         intro v163 w36 ho hb hg hat
         rw [← Ny162.out] at ho
         have n0_ := Aside0.mk (hb)
         have n1_ := Aside0.mk (ho)
         clear HB
         clear HO157
         have HB := n0_
         have HO164 := n1_
         clear n0_ n1_
         clear ho hb hg hat
         refine hK.out _ _ trivial (fun hHeld => ?_)
         clear hK K
         refine nB ?_
         refine oA (i := 7) (N := some 32) (mb 14 3839) HT_ (fun K hK => ?_)
         refine Kd.R_lit_step k87 _ 87 ?hg (N := 32) ?hd (xs := ([(⟨a2, 0⟩ : S87)] : List (S87))) (inner := [.int .i64 a2, .int .i64 0]) (ok := fun _ => True) (okp := fun _ => True) ?hr ?hp (fun _ hk => hk) trivial (Below.refl _ _) (Nat.le_refl _) (by simp) ?_; (case hd => rfl); (case hg => rfl); (case hr => first | (go_simp; done) | (go_simp; rfl)); (case hp => exact (Reps.c2 (show Kd.M k87 _ _ _ (⟨a2, 0⟩ : S87) [.int .i64 a2, .int .i64 0] from (k87_mkM _ _ _ (⟨a2, 0⟩ : S87) )) (Reps.none _ _)))
         intro v166 w37 ho38 hb hg_ hnew_
         clear hg_ hnew_
         (first | rw [← Ny165.out] at ho38 | (simp only [Int.reduceToNat] at ho38; rw [← Ny165.out] at ho38))
         have HO167 := Aside0.mk (Kd.R_lower (Kd.R_new' ho38 (Kd.R_lt (rK HO164))) (below_size bA))
         replace HO164 := Aside0.mk (Kd.R_elder' (rK HO164) (Kd.R_base ho38) hb)
         replace HB := Aside0.mk (below_step bA hb)
         clear hb ho38
         refine hK.out _ _ trivial (fun hHeld => ?_)
         clear hK K
         refine nB ?_
         exact mB (hCont (v156, v163, v166) _ ⟨(by (with_reducible repeat (first | apply Kd.R_alloc | apply Kd.R_drewN | apply Kd.R_drew)); exact Kd.R_mono HO164.out (fun _ hk => hk.2)), (by (with_reducible repeat (first | apply Kd.R_alloc | apply Kd.R_drewN | apply Kd.R_drew)); exact Kd.R_mono HO167.out (fun _ hk => hk.2)), bA⟩)
        ·
         skip
         refine Kd.R_lit_step k87 _ 87 ?hg (N := 32) ?hd (xs := ([(⟨a2, 0⟩ : S87)] : List (S87))) (inner := [.int .i64 a2, .int .i64 0]) (ok := fun _ => True) (okp := fun _ => True) ?hr ?hp (fun _ hk => hk) trivial (Below.refl _ _) (Nat.le_refl _) (by simp) ?_; (case hd => rfl); (case hg => rfl); (case hr => first | (go_simp; done) | (go_simp; rfl)); (case hp => exact (Reps.c2 (show Kd.M k87 _ _ _ (⟨a2, 0⟩ : S87) [.int .i64 a2, .int .i64 0] from (k87_mkM _ _ _ (⟨a2, 0⟩ : S87) )) (Reps.none _ _)))
         intro v166 w36 ho37 hb hg_ hnew_
         clear hg_ hnew_
         (first | rw [← Ny165.out] at ho37 | (simp only [Int.reduceToNat] at ho37; rw [← Ny165.out] at ho37))
         have HO167 := Aside0.mk (Kd.R_lower (Kd.R_new' ho37 (Kd.R_lt (rK HO157))) (below_size bA))
         replace HO157 := Aside0.mk (Kd.R_elder' (rK HO157) (Kd.R_base ho37) hb)
         replace HB := Aside0.mk (below_step bA hb)
         clear hb ho37
         refine hK.out _ _ trivial (fun hHeld => ?_)
         clear hK K
         refine nB ?_
         refine oA (i := 4) (N := some 29) (mb 14 3839) HT_ (fun K hK => ?_)
         refine Kd.R_append_rows_step k87 (w0 := w) w.heap.size (by rfl) (.tmp 25) (.tmp 28) 45 87 (.agg #[(.int .i64 0), (.int .i64 0)]) 16 rfl Try.underlying45 info87 rfl (by decide) (by omega) v156 y155 y158 _ _ _ (fun k_ => some k_ ≠ (v166 : Value).ownBlock) (fun _ => False) rfl rfl ?aO ?aR (fun _ _ h => h) (fun _ h => h.elim) ?aF ?aB ?aS ?aL ?_
         (case aR => repeat (first | exact (Kd.C_below HR161.out HB.out) | (with_reducible refine Kd.C_alloc ?_ _) | (with_reducible refine Kd.C_drewN ?_ _) | (with_reducible refine Kd.C_drew ?_)))
         (case aB => exact bA)
         (case aF => exact (fun k_ hk => Kd.fresh' (Kd.R_lt (rK HO167)) k_ hk))
         (case aO => exact (by (with_reducible repeat (first | apply Kd.R_alloc | apply Kd.R_drewN | apply Kd.R_drew)); exact Kd.R_mono HO157.out (fun _ hk => hk.2)))
         (case aS => exact (below_size bA))
         (case aL => have := LMc9.out; omega)
         intro v163 w38 ho hb hg hat
         rw [← Ny162.out] at ho
         have n0_ := Aside0.mk (Kd.R_after (ok := (fun _ => True)) (rK HO167) hg hat)
         have n1_ := Aside0.mk (hb)
         have n2_ := Aside0.mk (ho)
         clear HO167
         clear HB
         clear HO157
         have HO167 := n0_
         have HB := n1_
         have HO164 := n2_
         clear n0_ n1_ n2_
         clear ho hb hg hat
         refine hK.out _ _ trivial (fun hHeld => ?_)
         clear hK K
         refine nB ?_
         exact mB (hCont (v156, v163, v166) _ ⟨(rK HO164), (by (with_reducible repeat (first | apply Kd.R_alloc | apply Kd.R_drewN | apply Kd.R_drew)); exact Kd.R_mono HO167.out (fun _ hk => hk.2)), bA⟩)
       ·
        skip
        refine Kd.R_lit_step k87 _ 87 ?hg (N := 32) ?hd (xs := ([(⟨a2, 0⟩ : S87)] : List (S87))) (inner := [.int .i64 a2, .int .i64 0]) (ok := fun _ => True) (okp := fun _ => True) ?hr ?hp (fun _ hk => hk) trivial (Below.refl _ _) (Nat.le_refl _) (by simp) ?_; (case hd => rfl); (case hg => rfl); (case hr => first | (go_simp; done) | (go_simp; rfl)); (case hp => exact (Reps.c2 (show Kd.M k87 _ _ _ (⟨a2, 0⟩ : S87) [.int .i64 a2, .int .i64 0] from (k87_mkM _ _ _ (⟨a2, 0⟩ : S87) )) (Reps.none _ _)))
        intro v166 w34 ho35 hb hg_ hnew_
        clear hg_ hnew_
        (first | rw [← Ny165.out] at ho35 | (simp only [Int.reduceToNat] at ho35; rw [← Ny165.out] at ho35))
        have HO167 := Aside0.mk (Kd.R_lower ho35 (below_size bA))
        replace HB := Aside0.mk (below_step bA hb)
        clear hb ho35
        refine hK.out _ _ trivial (fun hHeld => ?_)
        clear hK K
        refine nB ?_
        refine oA (i := 0) (N := some 25) (mb 14 3823) HT_ (fun K hK => ?_)
        refine Kd.R_lit_step k87 _ 87 ?hg (N := 25) ?hd (xs := ([] : List (S87))) (inner := []) (ok := fun _ => True) (okp := fun _ => True) ?hr ?hp (fun _ hk => hk) trivial (Below.refl _ _) (Nat.le_refl _) (by simp) ?_; (case hd => rfl); (case hg => rfl); (case hr => first | (go_simp; done) | (go_simp; rfl)); (case hp => exact (Reps.none _ _))
        intro v156 w36 ho37 hb hg_ hnew_
        clear hg_ hnew_
        (first | rw [← Ny155.out] at ho37 | (simp only [Int.reduceToNat] at ho37; rw [← Ny155.out] at ho37))
        have HO157 := Aside0.mk (Kd.R_lower (Kd.R_new' ho37 (Kd.R_lt (rK HO167))) (below_size bA))
        replace HO167 := Aside0.mk (Kd.R_elder' (rK HO167) (Kd.R_base ho37) hb)
        replace HB := Aside0.mk (below_step bA hb)
        clear hb ho37
        refine hK.out _ _ trivial (fun hHeld => ?_)
        clear hK K
        refine nB ?_
        refine oA (i := 4) (N := some 29) (mb 14 3839) HT_ (fun K hK => ?_)
        refine Kd.R_append_rows_step k87 (w0 := w) w.heap.size (by rfl) (.tmp 25) (.tmp 28) 45 87 (.agg #[(.int .i64 0), (.int .i64 0)]) 16 rfl Try.underlying45 info87 rfl (by decide) (by omega) v156 y155 y158 _ _ _ (fun k_ => some k_ ≠ (v166 : Value).ownBlock) (fun _ => False) rfl rfl ?aO ?aR (fun _ _ h => h) (fun _ h => h.elim) ?aF ?aB ?aS ?aL ?_
        (case aR => repeat (first | exact (Kd.C_below HR161.out HB.out) | (with_reducible refine Kd.C_alloc ?_ _) | (with_reducible refine Kd.C_drewN ?_ _) | (with_reducible refine Kd.C_drew ?_)))
        (case aB => exact bA)
        (case aF => exact (fun k_ hk => Kd.fresh' (Kd.R_lt (rK HO167)) k_ hk))
        (case aO => exact (by (with_reducible repeat (first | apply Kd.R_alloc | apply Kd.R_drewN | apply Kd.R_drew)); exact Kd.R_mono HO157.out (fun _ hk => hk.2)))
        (case aS => exact (below_size bA))
        (case aL => have := LMc9.out; omega)
        intro v163 w38 ho hb hg hat
        rw [← Ny162.out] at ho
        have n0_ := Aside0.mk (Kd.R_after (ok := (fun _ => True)) (rK HO167) hg hat)
        have n1_ := Aside0.mk (hb)
        have n2_ := Aside0.mk (ho)
        clear HO167
        clear HB
        clear HO157
        have HO167 := n0_
        have HB := n1_
        have HO164 := n2_
        clear n0_ n1_ n2_
        clear ho hb hg hat
        refine hK.out _ _ trivial (fun hHeld => ?_)
        clear hK K
        refine nB ?_
        exact mB (hCont (v156, v163, v166) _ ⟨(rK HO164), (by (with_reducible repeat (first | apply Kd.R_alloc | apply Kd.R_drewN | apply Kd.R_drew)); exact Kd.R_mono HO167.out (fun _ hk => hk.2)), bA⟩)
      rintro ⟨v156, v163, v166⟩ w39 ⟨h0_, h1_, h2_⟩
      have n0_ : Aside0 (Kd.R k87 87 w39 w.heap.size (fun k_ => some k_ ≠ (v166 : Value).ownBlock) v163 y162) := ⟨h0_⟩
      have n1_ : Aside0 (Kd.R k87 87 w39 w.heap.size (fun k_ => some k_ ≠ (v163 : Value).ownBlock) v166 y165) := ⟨h1_⟩
      have n2_ : Aside0 (Below w.heap.size w w39) := ⟨h2_⟩
      clear HB
      clear h0_ h1_ h2_
      have HO164 := n0_
      have HO167 := n1_
      have HB := n2_
      clear n0_ n1_ n2_
      have hHeld := trivial
      obtain ⟨Ao41, co41, eo41⟩ := Kd.R_slice HO167.out
      (first | subst eo41 | (injection eo41 with f1_ f2_ f3_; have f4_ := f1_.symm; have f5_ := f3_.symm; clear f1_ f2_ f3_; subst f4_; subst f5_))
      refine norm_ (a' := ?_) ?_ ?_
      rotate_left
      ·
       simp only [putAll, Act.put, List.setIfInBounds_toArray, List.set_cons_zero, List.set_cons_succ]
       rfl
      refine oA (i := 8) (N := some 33) (mb 14 4095) HT_ (fun K hK => ?_)
      refine Kd.R_append_rows_step k87 (w0 := w) w.heap.size (by rfl) (.tmp 29) (.tmp 32) 45 87 (.agg #[(.int .i64 0), (.int .i64 0)]) 16 rfl Try.underlying45 info87 rfl (by decide) (by omega) v163 y162 y165 _ _ _ (fun k_ => some k_ ≠ (.slice Ao41 y165.length co41 : Value).ownBlock) (fun _ => False) rfl rfl ?aO ?aR (fun _ _ h => h) (fun _ h => h.elim) ?aF ?aB ?aS ?aL ?_
      (case aR => repeat (first | exact (Kd.R_reads' HO167.out).2.2 | (with_reducible refine Kd.C_alloc ?_ _) | (with_reducible refine Kd.C_drewN ?_ _) | (with_reducible refine Kd.C_drew ?_)))
      (case aB => exact bA)
      (case aF => exact (fun k_ hk => Kd.fresh' (Kd.R_lt (rK HO167)) k_ hk))
      (case aO => exact (rK HO164))
      (case aS => exact (below_size bA))
      (case aL => have := LMc10.out; omega)
      intro v169 w40 ho hb hg hat
      rw [← Ny168.out] at ho
      have n0_ := Aside0.mk (Kd.R_after (ok := (fun _ => True)) (by (with_reducible repeat (first | apply Kd.R_alloc | apply Kd.R_drewN | apply Kd.R_drew)); exact Kd.R_mono HO167.out (fun _ hk => ⟨trivial, hk⟩)) hg hat)
      have n1_ := Aside0.mk (hb)
      have n2_ := Aside0.mk (ho)
      clear HO167
      clear HB
      clear HO164
      have HO167 := n0_
      have HB := n1_
      have HO170 := n2_
      clear n0_ n1_ n2_
      clear ho hb hg hat
      refine hK.out _ _ trivial (fun hHeld => ?_)
      clear hK K
      refine nB ?_
      refine oA (i := 12) (N := some 37) (mb 14 8191) HT_ (fun K hK => ?_)
      refine Kd.R_append_rows_step k87 (w0 := w) w.heap.size (by rfl) (.tmp 33) (.tmp 36) 45 87 (.agg #[(.int .i64 0), (.int .i64 0)]) 16 rfl Try.underlying45 info87 rfl (by decide) (by omega) v169 y168 y171 _ _ _ (fun k_ => some k_ ≠ (.slice Ao41 y165.length co41 : Value).ownBlock) (fun _ => False) rfl rfl ?aO ?aR (fun _ _ h => h) (fun _ h => h.elim) ?aF ?aB ?aS ?aL ?_
      (case aR => repeat (first | exact (Kd.C_below HR174.out HB.out) | (with_reducible refine Kd.C_alloc ?_ _) | (with_reducible refine Kd.C_drewN ?_ _) | (with_reducible refine Kd.C_drew ?_)))
      (case aB => exact bA)
      (case aF => exact (fun k_ hk => Kd.fresh' (Kd.R_lt (rK HO167)) k_ hk))
      (case aO => exact (rK HO170))
      (case aS => exact (below_size bA))
      (case aL => have := LMc13.out; omega)
      intro v176 w42 ho hb hg hat
      rw [← Ny175.out] at ho
      have n0_ := Aside0.mk (Kd.R_after (ok := (fun _ => True)) (rK HO167) hg hat)
      have n1_ := Aside0.mk (hb)
      have n2_ := Aside0.mk (ho)
      clear HO167
      clear HB
      clear HO170
      have HO167 := n0_
      have HB := n1_
      have HO177 := n2_
      clear n0_ n1_ n2_
      clear ho hb hg hat
      refine hK.out _ _ trivial (fun hHeld => ?_)
      clear hK K
      refine nB ?_
      refine pA (i := 13) (N := some 9) (mb 14 16383) HT_ ?_
      refine eA HT_ ?_
      obtain ⟨Ao43, co43, eo43⟩ := Kd.R_slice HO177.out
      subst eo43
      try go_wp2_with (first | ((with_reducible refine gate_callee (f := 33) rfl ?_); refine gL (some 40) Try.func33 #[.slice A0 l0.length c0, .slice Ao43 y175.length co43] ?_; (with_reducible refine (spec_AreWants.calls k1 _ _ l0 _ _ y175 false _ ?side1 ?side2 ?side3 ?side4 A14.out).mono ?_); (case side1 => exact cB HR0); (case side2 => exact HC0.out); (case side3 => exact cO ⟨(Kd.R_reads' HO177.out).2.2⟩); (case side4 => exact (Kd.R_reads' HO177.out).2.1); rintro e w44 ⟨rfl, hb⟩; refine ⟨_, rfl, ?_⟩; replace HO167 := Aside0.mk (Kd.R_below (rK HO167) hb); replace HO177 := Aside0.mk (Kd.R_below (rK HO177) hb); replace HB := Aside0.mk (below_step bA hb); (try clear hb); (try clear hb2); (try clear hk); (try clear hi)) | ((with_reducible refine gate_dst (N := 42) rfl ?_); refine Kd.R_lit k87 _ 87 ?hg (N := 42) ?hd (xs := ([] : List (S87))) (inner := []) (ok := fun _ => True) (okp := fun _ => True) ?hr ?hp (fun _ hk => hk) trivial (Below.refl _ _) (Nat.le_refl _) (by simp) ?_; (case hd => rfl); (case hg => rfl); (case hr => first | (go_simp; done) | (go_simp; rfl)); (case hp => exact (Reps.none _ _)); intro v180 w45 ho46 hb hg_ hnew_; clear hg_ hnew_; (first | rw [← Ny179.out] at ho46 | (simp only [Int.reduceToNat] at ho46; rw [← Ny179.out] at ho46)); have HO181 := Aside0.mk (Kd.R_lower (Kd.R_new' (Kd.R_new' ho46 (Kd.R_lt (rK HO167))) (Kd.R_lt (rK HO177))) (below_size bA)); replace HO167 := Aside0.mk (Kd.R_elder' (rK HO167) (Kd.R_base ho46) hb); replace HO177 := Aside0.mk (Kd.R_elder' (rK HO177) (Kd.R_base ho46) hb); replace HB := Aside0.mk (below_step bA hb); clear hb ho46) | ((with_reducible refine gate_builtin (b := .append) (xs := #[.tmp 42, .tmp 43]) rfl ?_); at_builtin; refine Kd.R_append_rows k87 (w0 := w) w.heap.size rfl (.tmp 42) (.tmp 43) 45 87 (.agg #[(.int .i64 0), (.int .i64 0)]) 16 rfl Try.underlying45 info87 rfl (by decide) (by omega) v180 y179 l1 _ _ _ (fun k_ => some k_ ≠ (.slice Ao41 y165.length co41 : Value).ownBlock ∧ some k_ ≠ (.slice Ao43 y175.length co43 : Value).ownBlock) (fun _ => False) rfl rfl ?aO ?aR (fun _ _ h => h) (fun _ h => h.elim) ?aF ?aB ?aS ?aL ?_; (case aR => repeat (first | exact (Kd.C_below HR1.out HB.out) | (with_reducible refine Kd.C_alloc ?_ _) | (with_reducible refine Kd.C_drewN ?_ _) | (with_reducible refine Kd.C_drew ?_))); (case aB => exact bA); (case aF => exact (fun k_ hk => ⟨Kd.fresh' (Kd.R_lt (rK HO167)) k_ hk, Kd.fresh' (Kd.R_lt (rK HO177)) k_ hk⟩)); (case aO => exact (by (with_reducible repeat (first | apply Kd.R_alloc | apply Kd.R_drewN | apply Kd.R_drew)); exact Kd.R_mono HO181.out (fun _ hk => ⟨hk.1.2, hk.2⟩))); (case aS => exact (below_size bA)); (case aL => have := LMc30.out; omega); intro v183 w47 ho hb hg hat; rw [← Ny182.out] at ho; have n0_ := Aside0.mk (Kd.R_after (ok := (fun k_ => some k_ ≠ (.slice Ao43 y175.length co43 : Value).ownBlock)) (by (with_reducible repeat (first | apply Kd.R_alloc | apply Kd.R_drewN | apply Kd.R_drew)); exact Kd.R_mono HO167.out (fun _ hk => ⟨hk.1.2, hk.2⟩)) hg hat); have n1_ := Aside0.mk (Kd.R_after (ok := (fun k_ => some k_ ≠ (.slice Ao41 y165.length co41 : Value).ownBlock)) (rK HO177) hg hat); have n2_ := Aside0.mk (hb); have n3_ := Aside0.mk (ho); clear HO167; clear HO177; clear HB; clear HO181; have HO167 := n0_; have HO177 := n1_; have HB := n2_; have HO184 := n3_; clear n0_ n1_ n2_ n3_; clear ho hb hg hat))
      go_ret2
      exact ⟨_, by first | rfl | (simp [errW_none, errW_some] <;> rfl) | (simp [*, errW_none, errW_some] <;> rfl), by (with_reducible repeat (first | apply Kd.R_alloc | apply Kd.R_drewN | apply Kd.R_drew)); exact Kd.R_mono HO184.out (fun _ hk => trivial), bA⟩
   ·
    rw [if_neg c4] at H
    have c4b0 : decide (x8_1 < (l1.length : Int)) = false := decide_eq_false c4
    clear c4
    obtain ⟨y185, hy185⟩ : ∃ y_ : List (S87), y_ = (([] : List (S87))) := ⟨_, rfl⟩
    replace H : (if 0 ≤ x8_1 then (if x8_1 ≤ (l1.length : Int) then ((some (l1.take (x8_1 : Int).toNat : List (S87))).bind fun y188 => (if y185.length + y188.length < 8796093022208 then ((some (y185 ++ y188 : List (S87))).bind fun y192 => ((some (([(⟨a2, 0⟩ : S87)] : List (S87)) : List (S87))).bind fun y195 => (if y192.length + y195.length < 8796093022208 then ((some (y192 ++ y195 : List (S87))).bind fun y198 => ((some (l1.drop (x8_1 : Int).toNat : List (S87))).bind fun y201 => (if y198.length + y201.length < 8796093022208 then ((some (y198 ++ y201 : List (S87))).bind fun y205 => ((spec_AreWants.f k1 l0 y205).bind fun t208 => (if t208 = true then (some (y205, true)) else ((some (([] : List (S87)) : List (S87))).bind fun y209 => (if y209.length + l1.length < 8796093022208 then (some ((y209 ++ l1), false)) else (none)))))) else (none)))) else (none)))) else (none))) else (none)) else (none)) = some (r1, r2) := by first | (rw [hy185]; with_reducible exact H) | (have H2_ := (Option.bind_some _ _).symm.trans H; rw [hy185]; with_reducible exact H2_) | (have H2_ := (Option.bind_some _ _).symm.trans H; with_reducible exact H2_) | with_reducible exact H | (rw [hy185]; exact H) | exact H
    have Ny185 := Aside0.mk hy185
    clear hy185
    have c48 : 0 ≤ x8_1 := ifN H
    replace H := ifT H
    have c48b0 := eq_true c48
    have c48b1 : decide (0 ≤ x8_1) = true := decide_eq_true c48
    clear c48
    have c49 : x8_1 ≤ (l1.length : Int) := ifN H
    replace H := ifT H
    have c49b0 := eq_true c49
    have c49b1 : decide (x8_1 ≤ (l1.length : Int)) = true := decide_eq_true c49
    clear c49
    obtain ⟨y188, hy188⟩ : ∃ y_ : List (S87), y_ = (l1.take (x8_1 : Int).toNat) := ⟨_, rfl⟩
    replace H : (if y185.length + y188.length < 8796093022208 then ((some (y185 ++ y188 : List (S87))).bind fun y192 => ((some (([(⟨a2, 0⟩ : S87)] : List (S87)) : List (S87))).bind fun y195 => (if y192.length + y195.length < 8796093022208 then ((some (y192 ++ y195 : List (S87))).bind fun y198 => ((some (l1.drop (x8_1 : Int).toNat : List (S87))).bind fun y201 => (if y198.length + y201.length < 8796093022208 then ((some (y198 ++ y201 : List (S87))).bind fun y205 => ((spec_AreWants.f k1 l0 y205).bind fun t208 => (if t208 = true then (some (y205, true)) else ((some (([] : List (S87)) : List (S87))).bind fun y209 => (if y209.length + l1.length < 8796093022208 then (some ((y209 ++ l1), false)) else (none)))))) else (none)))) else (none)))) else (none)) = some (r1, r2) := by first | (rw [hy188]; with_reducible exact H) | (have H2_ := (Option.bind_some _ _).symm.trans H; rw [hy188]; with_reducible exact H2_) | (have H2_ := (Option.bind_some _ _).symm.trans H; with_reducible exact H2_) | with_reducible exact H | (rw [hy188]; exact H) | exact H
    have Ny188 := Aside0.mk hy188
    clear hy188
    have c50 : y185.length + y188.length < 8796093022208 := ifN H
    replace H := ifT H
    have LMc50 := Aside0.mk c50
    clear c50
    obtain ⟨y192, hy192⟩ : ∃ y_ : List (S87), y_ = (y185 ++ y188) := ⟨_, rfl⟩
    replace H : ((some (([(⟨a2, 0⟩ : S87)] : List (S87)) : List (S87))).bind fun y195 => (if y192.length + y195.length < 8796093022208 then ((some (y192 ++ y195 : List (S87))).bind fun y198 => ((some (l1.drop (x8_1 : Int).toNat : List (S87))).bind fun y201 => (if y198.length + y201.length < 8796093022208 then ((some (y198 ++ y201 : List (S87))).bind fun y205 => ((spec_AreWants.f k1 l0 y205).bind fun t208 => (if t208 = true then (some (y205, true)) else ((some (([] : List (S87)) : List (S87))).bind fun y209 => (if y209.length + l1.length < 8796093022208 then (some ((y209 ++ l1), false)) else (none)))))) else (none)))) else (none))) = some (r1, r2) := by first | (rw [hy192]; with_reducible exact H) | (have H2_ := (Option.bind_some _ _).symm.trans H; rw [hy192]; with_reducible exact H2_) | (have H2_ := (Option.bind_some _ _).symm.trans H; with_reducible exact H2_) | with_reducible exact H | (rw [hy192]; exact H) | exact H
    have Ny192 := Aside0.mk hy192
    clear hy192
    obtain ⟨y195, hy195⟩ : ∃ y_ : List (S87), y_ = (([(⟨a2, 0⟩ : S87)] : List (S87))) := ⟨_, rfl⟩
    replace H : (if y192.length + y195.length < 8796093022208 then ((some (y192 ++ y195 : List (S87))).bind fun y198 => ((some (l1.drop (x8_1 : Int).toNat : List (S87))).bind fun y201 => (if y198.length + y201.length < 8796093022208 then ((some (y198 ++ y201 : List (S87))).bind fun y205 => ((spec_AreWants.f k1 l0 y205).bind fun t208 => (if t208 = true then (some (y205, true)) else ((some (([] : List (S87)) : List (S87))).bind fun y209 => (if y209.length + l1.length < 8796093022208 then (some ((y209 ++ l1), false)) else (none)))))) else (none)))) else (none)) = some (r1, r2) := by first | (rw [hy195]; with_reducible exact H) | (have H2_ := (Option.bind_some _ _).symm.trans H; rw [hy195]; with_reducible exact H2_) | (have H2_ := (Option.bind_some _ _).symm.trans H; with_reducible exact H2_) | with_reducible exact H | (rw [hy195]; exact H) | exact H
    have Ny195 := Aside0.mk hy195
    clear hy195
    have c51 : y192.length + y195.length < 8796093022208 := ifN H
    replace H := ifT H
    have LMc51 := Aside0.mk c51
    clear c51
    obtain ⟨y198, hy198⟩ : ∃ y_ : List (S87), y_ = (y192 ++ y195) := ⟨_, rfl⟩
    replace H : ((some (l1.drop (x8_1 : Int).toNat : List (S87))).bind fun y201 => (if y198.length + y201.length < 8796093022208 then ((some (y198 ++ y201 : List (S87))).bind fun y205 => ((spec_AreWants.f k1 l0 y205).bind fun t208 => (if t208 = true then (some (y205, true)) else ((some (([] : List (S87)) : List (S87))).bind fun y209 => (if y209.length + l1.length < 8796093022208 then (some ((y209 ++ l1), false)) else (none)))))) else (none))) = some (r1, r2) := by first | (rw [hy198]; with_reducible exact H) | (have H2_ := (Option.bind_some _ _).symm.trans H; rw [hy198]; with_reducible exact H2_) | (have H2_ := (Option.bind_some _ _).symm.trans H; with_reducible exact H2_) | with_reducible exact H | (rw [hy198]; exact H) | exact H
    have Ny198 := Aside0.mk hy198
    clear hy198
    have c52b0 := eq_true (dA : 0 ≤ x8_1)
    have c53b0 := eq_true (dA : x8_1 ≤ (l1.length : Int))
    obtain ⟨y201, hy201⟩ : ∃ y_ : List (S87), y_ = (l1.drop (x8_1 : Int).toNat) := ⟨_, rfl⟩
    replace H : (if y198.length + y201.length < 8796093022208 then ((some (y198 ++ y201 : List (S87))).bind fun y205 => ((spec_AreWants.f k1 l0 y205).bind fun t208 => (if t208 = true then (some (y205, true)) else ((some (([] : List (S87)) : List (S87))).bind fun y209 => (if y209.length + l1.length < 8796093022208 then (some ((y209 ++ l1), false)) else (none)))))) else (none)) = some (r1, r2) := by first | (rw [hy201]; with_reducible exact H) | (have H2_ := (Option.bind_some _ _).symm.trans H; rw [hy201]; with_reducible exact H2_) | (have H2_ := (Option.bind_some _ _).symm.trans H; with_reducible exact H2_) | with_reducible exact H | (rw [hy201]; exact H) | exact H
    have Ny201 := Aside0.mk hy201
    clear hy201
    have c54 : y198.length + y201.length < 8796093022208 := ifN H
    replace H := ifT H
    have LMc54 := Aside0.mk c54
    clear c54
    obtain ⟨y205, hy205⟩ : ∃ y_ : List (S87), y_ = (y198 ++ y201) := ⟨_, rfl⟩
    replace H : ((spec_AreWants.f k1 l0 y205).bind fun t208 => (if t208 = true then (some (y205, true)) else ((some (([] : List (S87)) : List (S87))).bind fun y209 => (if y209.length + l1.length < 8796093022208 then (some ((y209 ++ l1), false)) else (none))))) = some (r1, r2) := by first | (rw [hy205]; with_reducible exact H) | (have H2_ := (Option.bind_some _ _).symm.trans H; rw [hy205]; with_reducible exact H2_) | (have H2_ := (Option.bind_some _ _).symm.trans H; with_reducible exact H2_) | with_reducible exact H | (rw [hy205]; exact H) | exact H
    have Ny205 := Aside0.mk hy205
    clear hy205
    obtain ⟨t208, A55, H⟩ := bindE H
    try dsimp only at H
    by_cases c56 : t208 = true
    ·
     subst c56
     have H1 : (some (y205, true)) = some (r1, r2) := by rw [if_pos rfl] at H; exact H
     clear H
     have H := H1
     clear H1
     simp only [Option.some.injEq, Prod.mk.injEq] at H
     obtain ⟨rfl, rfl⟩ := H
     try go_wp2
     have HBo := HB
     replace HB := Aside0.mk (below_drew1 HB.out)
     have q58 : (x8_1 : Int) ≤ ((l1.length : Int) : Int) := dA
     obtain ⟨i058, hi058, _, hsz58, _⟩ := info_parts info87
     have hroom58 : l1.length ≤ c1 := HC1.out
     have hC58 : Kd.C k87 _ A1 l1.length l1 := HR1.out
     have hcut58 := cut_to (P := Try.prog) 45 87 .i64 Try.underlying45 hi058 A1 l1.length c1 x8_1 (dA) q58 hroom58
     have hr58 := Kd.C_take (m := (x8_1 : Int).toNat) hC58 (by omega)
     have hy58 : y188.length = (x8_1 : Int).toNat := (by rw [Ny188.out, List.length_take]; omega)
     rw [← Ny188.out] at hr58
     rw [← hy58] at hcut58
     have HR191 := Aside0.mk hr58
     have HC191 := Aside0.mk (show y188.length ≤ c1 from by omega)
     clear hr58 hC58 hroom58 hi058 hsz58
     have KY58 := Aside0.mk hy58
     clear hy58
     replace q58 := eq_true q58
     have q59 : (x8_1 : Int) ≤ ((l1.length : Int) : Int) := dA
     obtain ⟨i059, hi059, _, hsz59, _⟩ := info_parts info87
     have hroom59 : l1.length ≤ c1 := HC1.out
     have hC59 : Kd.C k87 _ A1 l1.length l1 := HR1.out
     have q059 : (0 : Int) ≤ (x8_1 : Int) := dA
     have hcut59 := cut_from (P := Try.prog) 45 87 .i64 Try.underlying45 hi059 2 hsz59 A1 l1.length c1 x8_1 q059 q59
     have hr59 := Kd.C_drop (m := (x8_1 : Int).toNat) (c := c1) hC59 (by omega) hroom59
     obtain ⟨A59, hA59⟩ : ∃ z_, z_ = (if c1 = (x8_1 : Int).toNat then A1 else (A1 : Option Addr).map (·.add ((x8_1 : Int).toNat * 2))) := ⟨_, rfl⟩
     obtain ⟨c59, hc59⟩ : ∃ z_, z_ = c1 - (x8_1 : Int).toNat := ⟨_, rfl⟩
     have hy59 : y201.length = l1.length - (x8_1 : Int).toNat := (by rw [Ny201.out, List.length_drop] <;> omega)
     rw [show (l1).drop (x8_1 : Int).toNat = y201 from Ny201.out.symm] at hr59
     replace hr59 : Kd.C k87 _ A59 y201.length y201 := (by rw [hA59]; exact hr59)
     rw [← hy59, ← hA59, ← hc59] at hcut59
     have HR204 := Aside0.mk hr59
     have HC204 := Aside0.mk (show y201.length ≤ c59 from by rw [hy59, hc59]; exact Nat.sub_le_sub_right hroom59 _)
     clear hr59 hC59 hroom59 hi059 hsz59 hc59
     have KY59 := Aside0.mk hy59
     have KA59 := Aside0.mk hA59
     clear hy59 hA59
     replace q59 := eq_true q59
     refine start_ (n := 14) (S := fun w' => True) (ds := []) (mb 14 0) (by kernel_rfl) rfl rfl trivial (fun hHeld => ?_); refine with_tabW spec_AddWant.tab4 spec_AddWant.bits4 (fun HT_ HW_ => ?_)
     generalize wr.drew = w57 at HB HR191 HR204 hHeld ⊢
     refine pA (i := 1) (N := some 26) (mb 14 2) HT_ ?_
     refine pA (i := 2) (N := some 27) (mb 14 6) HT_ ?_
     refine pA (i := 3) (N := some 28) (mb 14 14) HT_ ?_
     refine pA (i := 5) (N := some 30) (mb 14 46) HT_ ?_
     refine pA (i := 6) (N := some 31) (mb 14 110) HT_ ?_
     refine pA (i := 9) (N := some 34) (mb 14 622) HT_ ?_
     refine pA (i := 10) (N := some 35) (mb 14 1646) HT_ ?_
     refine pA (i := 11) (N := some 36) (mb 14 3694) HT_ ?_
     refine join_ (σ := Value × Value × Value) 3 (mb 14 3839) (fun s_ => [(25, s_.1), (29, s_.2.1), (32, s_.2.2)]) (fun s_ w' => (Kd.R k87 87 w' w.heap.size (fun k_ => some k_ ≠ (s_.2.2 : Value).ownBlock) s_.2.1 y192) ∧ (Kd.R k87 87 w' w.heap.size (fun k_ => some k_ ≠ (s_.2.1 : Value).ownBlock) s_.2.2 y195) ∧ (Below w.heap.size w w')) ?_ ?_
     rotate_left
     ·
      intro hCont
      refine two_ (i := 0) (j := 7) (Ni := some 25) (Nj := some 32) (mb 14 3695) (mb 14 3822) rfl rfl rfl rfl (two_of HT_.out (by kernel_rfl)) (by decide) (by decide) (fun K hK => ?_) (fun K hK => ?_)
      ·
       skip
       refine Kd.R_lit_step k87 _ 87 ?hg (N := 25) ?hd (xs := ([] : List (S87))) (inner := []) (ok := fun _ => True) (okp := fun _ => True) ?hr ?hp (fun _ hk => hk) trivial (Below.refl _ _) (Nat.le_refl _) (by simp) ?_; (case hd => rfl); (case hg => rfl); (case hr => first | (go_simp; done) | (go_simp; rfl)); (case hp => exact (Reps.none _ _))
       intro v186 w60 ho61 hb hg_ hnew_
       clear hg_ hnew_
       (first | rw [← Ny185.out] at ho61 | (simp only [Int.reduceToNat] at ho61; rw [← Ny185.out] at ho61))
       have HO187 := Aside0.mk (Kd.R_lower ho61 (below_size bA))
       replace HB := Aside0.mk (below_step bA hb)
       clear hb ho61
       refine hK.out _ _ trivial (fun hHeld => ?_)
       clear hK K
       refine nB ?_
       refine two_ (i := 4) (j := 7) (Ni := some 29) (Nj := some 32) (mb 14 3711) (mb 14 3823) rfl rfl rfl rfl (two_of HT_.out (by kernel_rfl)) (by decide) (by decide) (fun K hK => ?_) (fun K hK => ?_)
       ·
        skip
        refine Kd.R_append_rows_step k87 (w0 := w) w.heap.size (by rfl) (.tmp 25) (.tmp 28) 45 87 (.agg #[(.int .i64 0), (.int .i64 0)]) 16 rfl Try.underlying45 info87 rfl (by decide) (by omega) v186 y185 y188 _ _ _ (fun _ => True) (fun _ => False) rfl rfl ?aO ?aR (fun _ _ h => h) (fun _ h => h.elim) ?aF ?aB ?aS ?aL ?_
        (case aR => repeat (first | exact (Kd.C_below HR191.out HB.out) | (with_reducible refine Kd.C_alloc ?_ _) | (with_reducible refine Kd.C_drewN ?_ _) | (with_reducible refine Kd.C_drew ?_)))
        (case aB => exact bA)
        (case aF => exact (fun _ _ => trivial))
        (case aO => exact (rK HO187))
        (case aS => exact (below_size bA))
        (case aL => have := LMc50.out; omega)
        intro v193 w62 ho hb hg hat
        rw [← Ny192.out] at ho
        have n0_ := Aside0.mk (hb)
        have n1_ := Aside0.mk (ho)
        clear HB
        clear HO187
        have HB := n0_
        have HO194 := n1_
        clear n0_ n1_
        clear ho hb hg hat
        refine hK.out _ _ trivial (fun hHeld => ?_)
        clear hK K
        refine nB ?_
        refine oA (i := 7) (N := some 32) (mb 14 3839) HT_ (fun K hK => ?_)
        refine Kd.R_lit_step k87 _ 87 ?hg (N := 32) ?hd (xs := ([(⟨a2, 0⟩ : S87)] : List (S87))) (inner := [.int .i64 a2, .int .i64 0]) (ok := fun _ => True) (okp := fun _ => True) ?hr ?hp (fun _ hk => hk) trivial (Below.refl _ _) (Nat.le_refl _) (by simp) ?_; (case hd => rfl); (case hg => rfl); (case hr => first | (go_simp; done) | (go_simp; rfl)); (case hp => exact (Reps.c2 (show Kd.M k87 _ _ _ (⟨a2, 0⟩ : S87) [.int .i64 a2, .int .i64 0] from (k87_mkM _ _ _ (⟨a2, 0⟩ : S87) )) (Reps.none _ _)))
        intro v196 w63 ho64 hb hg_ hnew_
        clear hg_ hnew_
        (first | rw [← Ny195.out] at ho64 | (simp only [Int.reduceToNat] at ho64; rw [← Ny195.out] at ho64))
        have HO197 := Aside0.mk (Kd.R_lower (Kd.R_new' ho64 (Kd.R_lt (rK HO194))) (below_size bA))
        replace HO194 := Aside0.mk (Kd.R_elder' (rK HO194) (Kd.R_base ho64) hb)
        replace HB := Aside0.mk (below_step bA hb)
        clear hb ho64
        refine hK.out _ _ trivial (fun hHeld => ?_)
        clear hK K
        refine nB ?_
        exact mB (hCont (v186, v193, v196) _ ⟨(by (with_reducible repeat (first | apply Kd.R_alloc | apply Kd.R_drewN | apply Kd.R_drew)); exact Kd.R_mono HO194.out (fun _ hk => hk.2)), (by (with_reducible repeat (first | apply Kd.R_alloc | apply Kd.R_drewN | apply Kd.R_drew)); exact Kd.R_mono HO197.out (fun _ hk => hk.2)), bA⟩)
       ·
        skip
        refine Kd.R_lit_step k87 _ 87 ?hg (N := 32) ?hd (xs := ([(⟨a2, 0⟩ : S87)] : List (S87))) (inner := [.int .i64 a2, .int .i64 0]) (ok := fun _ => True) (okp := fun _ => True) ?hr ?hp (fun _ hk => hk) trivial (Below.refl _ _) (Nat.le_refl _) (by simp) ?_; (case hd => rfl); (case hg => rfl); (case hr => first | (go_simp; done) | (go_simp; rfl)); (case hp => exact (Reps.c2 (show Kd.M k87 _ _ _ (⟨a2, 0⟩ : S87) [.int .i64 a2, .int .i64 0] from (k87_mkM _ _ _ (⟨a2, 0⟩ : S87) )) (Reps.none _ _)))
        intro v196 w62 ho63 hb hg_ hnew_
        clear hg_ hnew_
        (first | rw [← Ny195.out] at ho63 | (simp only [Int.reduceToNat] at ho63; rw [← Ny195.out] at ho63))
        have HO197 := Aside0.mk (Kd.R_lower (Kd.R_new' ho63 (Kd.R_lt (rK HO187))) (below_size bA))
        replace HO187 := Aside0.mk (Kd.R_elder' (rK HO187) (Kd.R_base ho63) hb)
        replace HB := Aside0.mk (below_step bA hb)
        clear hb ho63
        refine hK.out _ _ trivial (fun hHeld => ?_)
        clear hK K
        refine nB ?_
        refine oA (i := 4) (N := some 29) (mb 14 3839) HT_ (fun K hK => ?_)
        refine Kd.R_append_rows_step k87 (w0 := w) w.heap.size (by rfl) (.tmp 25) (.tmp 28) 45 87 (.agg #[(.int .i64 0), (.int .i64 0)]) 16 rfl Try.underlying45 info87 rfl (by decide) (by omega) v186 y185 y188 _ _ _ (fun k_ => some k_ ≠ (v196 : Value).ownBlock) (fun _ => False) rfl rfl ?aO ?aR (fun _ _ h => h) (fun _ h => h.elim) ?aF ?aB ?aS ?aL ?_
        (case aR => repeat (first | exact (Kd.C_below HR191.out HB.out) | (with_reducible refine Kd.C_alloc ?_ _) | (with_reducible refine Kd.C_drewN ?_ _) | (with_reducible refine Kd.C_drew ?_)))
        (case aB => exact bA)
        (case aF => exact (fun k_ hk => Kd.fresh' (Kd.R_lt (rK HO197)) k_ hk))
        (case aO => exact (by (with_reducible repeat (first | apply Kd.R_alloc | apply Kd.R_drewN | apply Kd.R_drew)); exact Kd.R_mono HO187.out (fun _ hk => hk.2)))
        (case aS => exact (below_size bA))
        (case aL => have := LMc50.out; omega)
        intro v193 w64 ho hb hg hat
        rw [← Ny192.out] at ho
        have n0_ := Aside0.mk (Kd.R_after (ok := (fun _ => True)) (rK HO197) hg hat)
        have n1_ := Aside0.mk (hb)
        have n2_ := Aside0.mk (ho)
        clear HO197
        clear HB
        clear HO187
        have HO197 := n0_
        have HB := n1_
        have HO194 := n2_
        clear n0_ n1_ n2_
        clear ho hb hg hat
        refine hK.out _ _ trivial (fun hHeld => ?_)
        clear hK K
        refine nB ?_
        exact mB (hCont (v186, v193, v196) _ ⟨(rK HO194), (by (with_reducible repeat (first | apply Kd.R_alloc | apply Kd.R_drewN | apply Kd.R_drew)); exact Kd.R_mono HO197.out (fun _ hk => hk.2)), bA⟩)
      ·
       skip
       refine Kd.R_lit_step k87 _ 87 ?hg (N := 32) ?hd (xs := ([(⟨a2, 0⟩ : S87)] : List (S87))) (inner := [.int .i64 a2, .int .i64 0]) (ok := fun _ => True) (okp := fun _ => True) ?hr ?hp (fun _ hk => hk) trivial (Below.refl _ _) (Nat.le_refl _) (by simp) ?_; (case hd => rfl); (case hg => rfl); (case hr => first | (go_simp; done) | (go_simp; rfl)); (case hp => exact (Reps.c2 (show Kd.M k87 _ _ _ (⟨a2, 0⟩ : S87) [.int .i64 a2, .int .i64 0] from (k87_mkM _ _ _ (⟨a2, 0⟩ : S87) )) (Reps.none _ _)))
       intro v196 w60 ho61 hb hg_ hnew_
       clear hg_ hnew_
       (first | rw [← Ny195.out] at ho61 | (simp only [Int.reduceToNat] at ho61; rw [← Ny195.out] at ho61))
       have HO197 := Aside0.mk (Kd.R_lower ho61 (below_size bA))
       replace HB := Aside0.mk (below_step bA hb)
       clear hb ho61
       refine hK.out _ _ trivial (fun hHeld => ?_)
       clear hK K
       refine nB ?_
       refine oA (i := 0) (N := some 25) (mb 14 3823) HT_ (fun K hK => ?_)
       refine Kd.R_lit_step k87 _ 87 ?hg (N := 25) ?hd (xs := ([] : List (S87))) (inner := []) (ok := fun _ => True) (okp := fun _ => True) ?hr ?hp (fun _ hk => hk) trivial (Below.refl _ _) (Nat.le_refl _) (by simp) ?_; (case hd => rfl); (case hg => rfl); (case hr => first | (go_simp; done) | (go_simp; rfl)); (case hp => exact (Reps.none _ _))
       intro v186 w62 ho63 hb hg_ hnew_
       clear hg_ hnew_
       (first | rw [← Ny185.out] at ho63 | (simp only [Int.reduceToNat] at ho63; rw [← Ny185.out] at ho63))
       have HO187 := Aside0.mk (Kd.R_lower (Kd.R_new' ho63 (Kd.R_lt (rK HO197))) (below_size bA))
       replace HO197 := Aside0.mk (Kd.R_elder' (rK HO197) (Kd.R_base ho63) hb)
       replace HB := Aside0.mk (below_step bA hb)
       clear hb ho63
       refine hK.out _ _ trivial (fun hHeld => ?_)
       clear hK K
       refine nB ?_
       refine oA (i := 4) (N := some 29) (mb 14 3839) HT_ (fun K hK => ?_)
       refine Kd.R_append_rows_step k87 (w0 := w) w.heap.size (by rfl) (.tmp 25) (.tmp 28) 45 87 (.agg #[(.int .i64 0), (.int .i64 0)]) 16 rfl Try.underlying45 info87 rfl (by decide) (by omega) v186 y185 y188 _ _ _ (fun k_ => some k_ ≠ (v196 : Value).ownBlock) (fun _ => False) rfl rfl ?aO ?aR (fun _ _ h => h) (fun _ h => h.elim) ?aF ?aB ?aS ?aL ?_
       (case aR => repeat (first | exact (Kd.C_below HR191.out HB.out) | (with_reducible refine Kd.C_alloc ?_ _) | (with_reducible refine Kd.C_drewN ?_ _) | (with_reducible refine Kd.C_drew ?_)))
       (case aB => exact bA)
       (case aF => exact (fun k_ hk => Kd.fresh' (Kd.R_lt (rK HO197)) k_ hk))
       (case aO => exact (by (with_reducible repeat (first | apply Kd.R_alloc | apply Kd.R_drewN | apply Kd.R_drew)); exact Kd.R_mono HO187.out (fun _ hk => hk.2)))
       (case aS => exact (below_size bA))
       (case aL => have := LMc50.out; omega)
       intro v193 w64 ho hb hg hat
       rw [← Ny192.out] at ho
       have n0_ := Aside0.mk (Kd.R_after (ok := (fun _ => True)) (rK HO197) hg hat)
       have n1_ := Aside0.mk (hb)
       have n2_ := Aside0.mk (ho)
       clear HO197
       clear HB
       clear HO187
       have HO197 := n0_
       have HB := n1_
       have HO194 := n2_
       clear n0_ n1_ n2_
       clear ho hb hg hat
       refine hK.out _ _ trivial (fun hHeld => ?_)
       clear hK K
       refine nB ?_
       exact mB (hCont (v186, v193, v196) _ ⟨(rK HO194), (by (with_reducible repeat (first | apply Kd.R_alloc | apply Kd.R_drewN | apply Kd.R_drew)); exact Kd.R_mono HO197.out (fun _ hk => hk.2)), bA⟩)
     rintro ⟨v186, v193, v196⟩ w65 ⟨h0_, h1_, h2_⟩
     have n0_ : Aside0 (Kd.R k87 87 w65 w.heap.size (fun k_ => some k_ ≠ (v196 : Value).ownBlock) v193 y192) := ⟨h0_⟩
     have n1_ : Aside0 (Kd.R k87 87 w65 w.heap.size (fun k_ => some k_ ≠ (v193 : Value).ownBlock) v196 y195) := ⟨h1_⟩
     have n2_ : Aside0 (Below w.heap.size w w65) := ⟨h2_⟩
     clear HB
     clear h0_ h1_ h2_
     have HO194 := n0_
     have HO197 := n1_
     have HB := n2_
     clear n0_ n1_ n2_
     have hHeld := trivial
     obtain ⟨Ao67, co67, eo67⟩ := Kd.R_slice HO197.out
     (first | subst eo67 | (injection eo67 with f1_ f2_ f3_; have f4_ := f1_.symm; have f5_ := f3_.symm; clear f1_ f2_ f3_; subst f4_; subst f5_))
     refine norm_ (a' := ?_) ?_ ?_
     rotate_left
     ·
      simp only [putAll, Act.put, List.setIfInBounds_toArray, List.set_cons_zero, List.set_cons_succ]
      rfl
     refine oA (i := 8) (N := some 33) (mb 14 4095) HT_ (fun K hK => ?_)
     refine Kd.R_append_rows_step k87 (w0 := w) w.heap.size (by rfl) (.tmp 29) (.tmp 32) 45 87 (.agg #[(.int .i64 0), (.int .i64 0)]) 16 rfl Try.underlying45 info87 rfl (by decide) (by omega) v193 y192 y195 _ _ _ (fun k_ => some k_ ≠ (.slice Ao67 y195.length co67 : Value).ownBlock) (fun _ => False) rfl rfl ?aO ?aR (fun _ _ h => h) (fun _ h => h.elim) ?aF ?aB ?aS ?aL ?_
     (case aR => repeat (first | exact (Kd.R_reads' HO197.out).2.2 | (with_reducible refine Kd.C_alloc ?_ _) | (with_reducible refine Kd.C_drewN ?_ _) | (with_reducible refine Kd.C_drew ?_)))
     (case aB => exact bA)
     (case aF => exact (fun k_ hk => Kd.fresh' (Kd.R_lt (rK HO197)) k_ hk))
     (case aO => exact (rK HO194))
     (case aS => exact (below_size bA))
     (case aL => have := LMc51.out; omega)
     intro v199 w66 ho hb hg hat
     rw [← Ny198.out] at ho
     have n0_ := Aside0.mk (Kd.R_after (ok := (fun _ => True)) (by (with_reducible repeat (first | apply Kd.R_alloc | apply Kd.R_drewN | apply Kd.R_drew)); exact Kd.R_mono HO197.out (fun _ hk => ⟨trivial, hk⟩)) hg hat)
     have n1_ := Aside0.mk (hb)
     have n2_ := Aside0.mk (ho)
     clear HO197
     clear HB
     clear HO194
     have HO197 := n0_
     have HB := n1_
     have HO200 := n2_
     clear n0_ n1_ n2_
     clear ho hb hg hat
     refine hK.out _ _ trivial (fun hHeld => ?_)
     clear hK K
     refine nB ?_
     refine oA (i := 12) (N := some 37) (mb 14 8191) HT_ (fun K hK => ?_)
     refine Kd.R_append_rows_step k87 (w0 := w) w.heap.size (by rfl) (.tmp 33) (.tmp 36) 45 87 (.agg #[(.int .i64 0), (.int .i64 0)]) 16 rfl Try.underlying45 info87 rfl (by decide) (by omega) v199 y198 y201 _ _ _ (fun k_ => some k_ ≠ (.slice Ao67 y195.length co67 : Value).ownBlock) (fun _ => False) rfl rfl ?aO ?aR (fun _ _ h => h) (fun _ h => h.elim) ?aF ?aB ?aS ?aL ?_
     (case aR => repeat (first | exact (Kd.C_below HR204.out HB.out) | (with_reducible refine Kd.C_alloc ?_ _) | (with_reducible refine Kd.C_drewN ?_ _) | (with_reducible refine Kd.C_drew ?_)))
     (case aB => exact bA)
     (case aF => exact (fun k_ hk => Kd.fresh' (Kd.R_lt (rK HO197)) k_ hk))
     (case aO => exact (rK HO200))
     (case aS => exact (below_size bA))
     (case aL => have := LMc54.out; omega)
     intro v206 w68 ho hb hg hat
     rw [← Ny205.out] at ho
     have n0_ := Aside0.mk (Kd.R_after (ok := (fun _ => True)) (rK HO197) hg hat)
     have n1_ := Aside0.mk (hb)
     have n2_ := Aside0.mk (ho)
     clear HO197
     clear HB
     clear HO200
     have HO197 := n0_
     have HB := n1_
     have HO207 := n2_
     clear n0_ n1_ n2_
     clear ho hb hg hat
     refine hK.out _ _ trivial (fun hHeld => ?_)
     clear hK K
     refine nB ?_
     refine pA (i := 13) (N := some 9) (mb 14 16383) HT_ ?_
     refine eA HT_ ?_
     obtain ⟨Ao69, co69, eo69⟩ := Kd.R_slice HO207.out
     subst eo69
     try go_wp2_with (first | ((with_reducible refine gate_callee (f := 33) rfl ?_); refine gL (some 40) Try.func33 #[.slice A0 l0.length c0, .slice Ao69 y205.length co69] ?_; (with_reducible refine (spec_AreWants.calls k1 _ _ l0 _ _ y205 true _ ?side1 ?side2 ?side3 ?side4 A55.out).mono ?_); (case side1 => exact cB HR0); (case side2 => exact HC0.out); (case side3 => exact cO ⟨(Kd.R_reads' HO207.out).2.2⟩); (case side4 => exact (Kd.R_reads' HO207.out).2.1); rintro e w70 ⟨rfl, hb⟩; refine ⟨_, rfl, ?_⟩; replace HO197 := Aside0.mk (Kd.R_below (rK HO197) hb); replace HO207 := Aside0.mk (Kd.R_below (rK HO207) hb); replace HB := Aside0.mk (below_step bA hb); (try clear hb); (try clear hb2); (try clear hk); (try clear hi)))
     go_ret2
     exact ⟨_, by first | rfl | (simp [errW_none, errW_some] <;> rfl) | (simp [*, errW_none, errW_some] <;> rfl), by (with_reducible repeat (first | apply Kd.R_alloc | apply Kd.R_drewN | apply Kd.R_drew)); exact Kd.R_mono HO207.out (fun _ hk => trivial), bA⟩
    ·
     replace c56 := Bool.eq_false_iff.mpr c56
     subst c56
     have H1 : ((some (([] : List (S87)) : List (S87))).bind fun y209 => (if y209.length + l1.length < 8796093022208 then (some ((y209 ++ l1), false)) else (none))) = some (r1, r2) := by rw [if_neg (show ¬ (false = true) by decide)] at H; exact H
     clear H
     have H := H1
     clear H1
     obtain ⟨y209, hy209⟩ : ∃ y_ : List (S87), y_ = (([] : List (S87))) := ⟨_, rfl⟩
     replace H : (if y209.length + l1.length < 8796093022208 then (some ((y209 ++ l1), false)) else (none)) = some (r1, r2) := by first | (rw [hy209]; with_reducible exact H) | (have H2_ := (Option.bind_some _ _).symm.trans H; rw [hy209]; with_reducible exact H2_) | (have H2_ := (Option.bind_some _ _).symm.trans H; with_reducible exact H2_) | with_reducible exact H | (rw [hy209]; exact H) | exact H
     have Ny209 := Aside0.mk hy209
     clear hy209
     have c71 : y209.length + l1.length < 8796093022208 := ifN H
     replace H := ifT H
     have LMc71 := Aside0.mk c71
     clear c71
     obtain ⟨y212, hy212⟩ : ∃ y_ : List (S87), y_ = (y209 ++ l1) := ⟨_, rfl⟩
     replace H : (some (y212, false)) = some (r1, r2) := by first | (rw [hy212]; with_reducible exact H) | (have H2_ := (Option.bind_some _ _).symm.trans H; rw [hy212]; with_reducible exact H2_) | (have H2_ := (Option.bind_some _ _).symm.trans H; with_reducible exact H2_) | with_reducible exact H | (rw [hy212]; exact H) | exact H
     have Ny212 := Aside0.mk hy212
     clear hy212
     simp only [Option.some.injEq, Prod.mk.injEq] at H
     obtain ⟨rfl, rfl⟩ := H
     try go_wp2
     have HBo := HB
     replace HB := Aside0.mk (below_drew1 HB.out)
     have q73 : (x8_1 : Int) ≤ ((l1.length : Int) : Int) := dA
     obtain ⟨i073, hi073, _, hsz73, _⟩ := info_parts info87
     have hroom73 : l1.length ≤ c1 := HC1.out
     have hC73 : Kd.C k87 _ A1 l1.length l1 := HR1.out
     have hcut73 := cut_to (P := Try.prog) 45 87 .i64 Try.underlying45 hi073 A1 l1.length c1 x8_1 (dA) q73 hroom73
     have hr73 := Kd.C_take (m := (x8_1 : Int).toNat) hC73 (by omega)
     have hy73 : y188.length = (x8_1 : Int).toNat := (by rw [Ny188.out, List.length_take]; omega)
     rw [← Ny188.out] at hr73
     rw [← hy73] at hcut73
     have HR191 := Aside0.mk hr73
     have HC191 := Aside0.mk (show y188.length ≤ c1 from by omega)
     clear hr73 hC73 hroom73 hi073 hsz73
     have KY73 := Aside0.mk hy73
     clear hy73
     replace q73 := eq_true q73
     have q74 : (x8_1 : Int) ≤ ((l1.length : Int) : Int) := dA
     obtain ⟨i074, hi074, _, hsz74, _⟩ := info_parts info87
     have hroom74 : l1.length ≤ c1 := HC1.out
     have hC74 : Kd.C k87 _ A1 l1.length l1 := HR1.out
     have q074 : (0 : Int) ≤ (x8_1 : Int) := dA
     have hcut74 := cut_from (P := Try.prog) 45 87 .i64 Try.underlying45 hi074 2 hsz74 A1 l1.length c1 x8_1 q074 q74
     have hr74 := Kd.C_drop (m := (x8_1 : Int).toNat) (c := c1) hC74 (by omega) hroom74
     obtain ⟨A74, hA74⟩ : ∃ z_, z_ = (if c1 = (x8_1 : Int).toNat then A1 else (A1 : Option Addr).map (·.add ((x8_1 : Int).toNat * 2))) := ⟨_, rfl⟩
     obtain ⟨c74, hc74⟩ : ∃ z_, z_ = c1 - (x8_1 : Int).toNat := ⟨_, rfl⟩
     have hy74 : y201.length = l1.length - (x8_1 : Int).toNat := (by rw [Ny201.out, List.length_drop] <;> omega)
     rw [show (l1).drop (x8_1 : Int).toNat = y201 from Ny201.out.symm] at hr74
     replace hr74 : Kd.C k87 _ A74 y201.length y201 := (by rw [hA74]; exact hr74)
     rw [← hy74, ← hA74, ← hc74] at hcut74
     have HR204 := Aside0.mk hr74
     have HC204 := Aside0.mk (show y201.length ≤ c74 from by rw [hy74, hc74]; exact Nat.sub_le_sub_right hroom74 _)
     clear hr74 hC74 hroom74 hi074 hsz74 hc74
     have KY74 := Aside0.mk hy74
     have KA74 := Aside0.mk hA74
     clear hy74 hA74
     replace q74 := eq_true q74
     refine start_ (n := 14) (S := fun w' => True) (ds := []) (mb 14 0) (by kernel_rfl) rfl rfl trivial (fun hHeld => ?_); refine with_tabW spec_AddWant.tab4 spec_AddWant.bits4 (fun HT_ HW_ => ?_)
     generalize wr.drew = w72 at HB HR191 HR204 hHeld ⊢
     refine pA (i := 1) (N := some 26) (mb 14 2) HT_ ?_
     refine pA (i := 2) (N := some 27) (mb 14 6) HT_ ?_
     refine pA (i := 3) (N := some 28) (mb 14 14) HT_ ?_
     refine pA (i := 5) (N := some 30) (mb 14 46) HT_ ?_
     refine pA (i := 6) (N := some 31) (mb 14 110) HT_ ?_
     refine pA (i := 9) (N := some 34) (mb 14 622) HT_ ?_
     refine pA (i := 10) (N := some 35) (mb 14 1646) HT_ ?_
     refine pA (i := 11) (N := some 36) (mb 14 3694) HT_ ?_
     refine join_ (σ := Value × Value × Value) 3 (mb 14 3839) (fun s_ => [(25, s_.1), (29, s_.2.1), (32, s_.2.2)]) (fun s_ w' => (Kd.R k87 87 w' w.heap.size (fun k_ => some k_ ≠ (s_.2.2 : Value).ownBlock) s_.2.1 y192) ∧ (Kd.R k87 87 w' w.heap.size (fun k_ => some k_ ≠ (s_.2.1 : Value).ownBlock) s_.2.2 y195) ∧ (Below w.heap.size w w')) ?_ ?_
     rotate_left
     ·
      intro hCont
      refine two_ (i := 0) (j := 7) (Ni := some 25) (Nj := some 32) (mb 14 3695) (mb 14 3822) rfl rfl rfl rfl (two_of HT_.out (by kernel_rfl)) (by decide) (by decide) (fun K hK => ?_) (fun K hK => ?_)
      ·
       skip
       refine Kd.R_lit_step k87 _ 87 ?hg (N := 25) ?hd (xs := ([] : List (S87))) (inner := []) (ok := fun _ => True) (okp := fun _ => True) ?hr ?hp (fun _ hk => hk) trivial (Below.refl _ _) (Nat.le_refl _) (by simp) ?_; (case hd => rfl); (case hg => rfl); (case hr => first | (go_simp; done) | (go_simp; rfl)); (case hp => exact (Reps.none _ _))
       intro v186 w75 ho76 hb hg_ hnew_
       clear hg_ hnew_
       (first | rw [← Ny185.out] at ho76 | (simp only [Int.reduceToNat] at ho76; rw [← Ny185.out] at ho76))
       have HO187 := Aside0.mk (Kd.R_lower ho76 (below_size bA))
       replace HB := Aside0.mk (below_step bA hb)
       clear hb ho76
       refine hK.out _ _ trivial (fun hHeld => ?_)
       clear hK K
       refine nB ?_
       refine two_ (i := 4) (j := 7) (Ni := some 29) (Nj := some 32) (mb 14 3711) (mb 14 3823) rfl rfl rfl rfl (two_of HT_.out (by kernel_rfl)) (by decide) (by decide) (fun K hK => ?_) (fun K hK => ?_)
       ·
        skip
        refine Kd.R_append_rows_step k87 (w0 := w) w.heap.size (by rfl) (.tmp 25) (.tmp 28) 45 87 (.agg #[(.int .i64 0), (.int .i64 0)]) 16 rfl Try.underlying45 info87 rfl (by decide) (by omega) v186 y185 y188 _ _ _ (fun _ => True) (fun _ => False) rfl rfl ?aO ?aR (fun _ _ h => h) (fun _ h => h.elim) ?aF ?aB ?aS ?aL ?_
        (case aR => repeat (first | exact (Kd.C_below HR191.out HB.out) | (with_reducible refine Kd.C_alloc ?_ _) | (with_reducible refine Kd.C_drewN ?_ _) | (with_reducible refine Kd.C_drew ?_)))
        (case aB => exact bA)
        (case aF => exact (fun _ _ => trivial))
        (case aO => exact (rK HO187))
        (case aS => exact (below_size bA))
        (case aL => have := LMc50.out; omega)
        intro v193 w77 ho hb hg hat
        rw [← Ny192.out] at ho
        have n0_ := Aside0.mk (hb)
        have n1_ := Aside0.mk (ho)
        clear HB
        clear HO187
        have HB := n0_
        have HO194 := n1_
        clear n0_ n1_
        clear ho hb hg hat
        refine hK.out _ _ trivial (fun hHeld => ?_)
        clear hK K
        refine nB ?_
        refine oA (i := 7) (N := some 32) (mb 14 3839) HT_ (fun K hK => ?_)
        refine Kd.R_lit_step k87 _ 87 ?hg (N := 32) ?hd (xs := ([(⟨a2, 0⟩ : S87)] : List (S87))) (inner := [.int .i64 a2, .int .i64 0]) (ok := fun _ => True) (okp := fun _ => True) ?hr ?hp (fun _ hk => hk) trivial (Below.refl _ _) (Nat.le_refl _) (by simp) ?_; (case hd => rfl); (case hg => rfl); (case hr => first | (go_simp; done) | (go_simp; rfl)); (case hp => exact (Reps.c2 (show Kd.M k87 _ _ _ (⟨a2, 0⟩ : S87) [.int .i64 a2, .int .i64 0] from (k87_mkM _ _ _ (⟨a2, 0⟩ : S87) )) (Reps.none _ _)))
        intro v196 w78 ho79 hb hg_ hnew_
        clear hg_ hnew_
        (first | rw [← Ny195.out] at ho79 | (simp only [Int.reduceToNat] at ho79; rw [← Ny195.out] at ho79))
        have HO197 := Aside0.mk (Kd.R_lower (Kd.R_new' ho79 (Kd.R_lt (rK HO194))) (below_size bA))
        replace HO194 := Aside0.mk (Kd.R_elder' (rK HO194) (Kd.R_base ho79) hb)
        replace HB := Aside0.mk (below_step bA hb)
        clear hb ho79
        refine hK.out _ _ trivial (fun hHeld => ?_)
        clear hK K
        refine nB ?_
        exact mB (hCont (v186, v193, v196) _ ⟨(by (with_reducible repeat (first | apply Kd.R_alloc | apply Kd.R_drewN | apply Kd.R_drew)); exact Kd.R_mono HO194.out (fun _ hk => hk.2)), (by (with_reducible repeat (first | apply Kd.R_alloc | apply Kd.R_drewN | apply Kd.R_drew)); exact Kd.R_mono HO197.out (fun _ hk => hk.2)), bA⟩)
       ·
        skip
        refine Kd.R_lit_step k87 _ 87 ?hg (N := 32) ?hd (xs := ([(⟨a2, 0⟩ : S87)] : List (S87))) (inner := [.int .i64 a2, .int .i64 0]) (ok := fun _ => True) (okp := fun _ => True) ?hr ?hp (fun _ hk => hk) trivial (Below.refl _ _) (Nat.le_refl _) (by simp) ?_; (case hd => rfl); (case hg => rfl); (case hr => first | (go_simp; done) | (go_simp; rfl)); (case hp => exact (Reps.c2 (show Kd.M k87 _ _ _ (⟨a2, 0⟩ : S87) [.int .i64 a2, .int .i64 0] from (k87_mkM _ _ _ (⟨a2, 0⟩ : S87) )) (Reps.none _ _)))
        intro v196 w77 ho78 hb hg_ hnew_
        clear hg_ hnew_
        (first | rw [← Ny195.out] at ho78 | (simp only [Int.reduceToNat] at ho78; rw [← Ny195.out] at ho78))
        have HO197 := Aside0.mk (Kd.R_lower (Kd.R_new' ho78 (Kd.R_lt (rK HO187))) (below_size bA))
        replace HO187 := Aside0.mk (Kd.R_elder' (rK HO187) (Kd.R_base ho78) hb)
        replace HB := Aside0.mk (below_step bA hb)
        clear hb ho78
        refine hK.out _ _ trivial (fun hHeld => ?_)
        clear hK K
        refine nB ?_
        refine oA (i := 4) (N := some 29) (mb 14 3839) HT_ (fun K hK => ?_)
        refine Kd.R_append_rows_step k87 (w0 := w) w.heap.size (by rfl) (.tmp 25) (.tmp 28) 45 87 (.agg #[(.int .i64 0), (.int .i64 0)]) 16 rfl Try.underlying45 info87 rfl (by decide) (by omega) v186 y185 y188 _ _ _ (fun k_ => some k_ ≠ (v196 : Value).ownBlock) (fun _ => False) rfl rfl ?aO ?aR (fun _ _ h => h) (fun _ h => h.elim) ?aF ?aB ?aS ?aL ?_
        (case aR => repeat (first | exact (Kd.C_below HR191.out HB.out) | (with_reducible refine Kd.C_alloc ?_ _) | (with_reducible refine Kd.C_drewN ?_ _) | (with_reducible refine Kd.C_drew ?_)))
        (case aB => exact bA)
        (case aF => exact (fun k_ hk => Kd.fresh' (Kd.R_lt (rK HO197)) k_ hk))
        (case aO => exact (by (with_reducible repeat (first | apply Kd.R_alloc | apply Kd.R_drewN | apply Kd.R_drew)); exact Kd.R_mono HO187.out (fun _ hk => hk.2)))
        (case aS => exact (below_size bA))
        (case aL => have := LMc50.out; omega)
        intro v193 w79 ho hb hg hat
        rw [← Ny192.out] at ho
        have n0_ := Aside0.mk (Kd.R_after (ok := (fun _ => True)) (rK HO197) hg hat)
        have n1_ := Aside0.mk (hb)
        have n2_ := Aside0.mk (ho)
        clear HO197
        clear HB
        clear HO187
        have HO197 := n0_
        have HB := n1_
        have HO194 := n2_
        clear n0_ n1_ n2_
        clear ho hb hg hat
        refine hK.out _ _ trivial (fun hHeld => ?_)
        clear hK K
        refine nB ?_
        exact mB (hCont (v186, v193, v196) _ ⟨(rK HO194), (by (with_reducible repeat (first | apply Kd.R_alloc | apply Kd.R_drewN | apply Kd.R_drew)); exact Kd.R_mono HO197.out (fun _ hk => hk.2)), bA⟩)
      ·
       skip
       refine Kd.R_lit_step k87 _ 87 ?hg (N := 32) ?hd (xs := ([(⟨a2, 0⟩ : S87)] : List (S87))) (inner := [.int .i64 a2, .int .i64 0]) (ok := fun _ => True) (okp := fun _ => True) ?hr ?hp (fun _ hk => hk) trivial (Below.refl _ _) (Nat.le_refl _) (by simp) ?_; (case hd => rfl); (case hg => rfl); (case hr => first | (go_simp; done) | (go_simp; rfl)); (case hp => exact (Reps.c2 (show Kd.M k87 _ _ _ (⟨a2, 0⟩ : S87) [.int .i64 a2, .int .i64 0] from (k87_mkM _ _ _ (⟨a2, 0⟩ : S87) )) (Reps.none _ _)))
       intro v196 w75 ho76 hb hg_ hnew_
       clear hg_ hnew_
       (first | rw [← Ny195.out] at ho76 | (simp only [Int.reduceToNat] at ho76; rw [← Ny195.out] at ho76))
       have HO197 := Aside0.mk (Kd.R_lower ho76 (below_size bA))
       replace HB := Aside0.mk (below_step bA hb)
       clear hb ho76
       refine hK.out _ _ trivial (fun hHeld => ?_)
       clear hK K
       refine nB ?_
       refine oA (i := 0) (N := some 25) (mb 14 3823) HT_ (fun K hK => ?_)
       refine Kd.R_lit_step k87 _ 87 ?hg (N := 25) ?hd (xs := ([] : List (S87))) (inner := []) (ok := fun _ => True) (okp := fun _ => True) ?hr ?hp (fun _ hk => hk) trivial (Below.refl _ _) (Nat.le_refl _) (by simp) ?_; (case hd => rfl); (case hg => rfl); (case hr => first | (go_simp; done) | (go_simp; rfl)); (case hp => exact (Reps.none _ _))
       intro v186 w77 ho78 hb hg_ hnew_
       clear hg_ hnew_
       (first | rw [← Ny185.out] at ho78 | (simp only [Int.reduceToNat] at ho78; rw [← Ny185.out] at ho78))
       have HO187 := Aside0.mk (Kd.R_lower (Kd.R_new' ho78 (Kd.R_lt (rK HO197))) (below_size bA))
       replace HO197 := Aside0.mk (Kd.R_elder' (rK HO197) (Kd.R_base ho78) hb)
       replace HB := Aside0.mk (below_step bA hb)
       clear hb ho78
       refine hK.out _ _ trivial (fun hHeld => ?_)
       clear hK K
       refine nB ?_
       refine oA (i := 4) (N := some 29) (mb 14 3839) HT_ (fun K hK => ?_)
       refine Kd.R_append_rows_step k87 (w0 := w) w.heap.size (by rfl) (.tmp 25) (.tmp 28) 45 87 (.agg #[(.int .i64 0), (.int .i64 0)]) 16 rfl Try.underlying45 info87 rfl (by decide) (by omega) v186 y185 y188 _ _ _ (fun k_ => some k_ ≠ (v196 : Value).ownBlock) (fun _ => False) rfl rfl ?aO ?aR (fun _ _ h => h) (fun _ h => h.elim) ?aF ?aB ?aS ?aL ?_
       (case aR => repeat (first | exact (Kd.C_below HR191.out HB.out) | (with_reducible refine Kd.C_alloc ?_ _) | (with_reducible refine Kd.C_drewN ?_ _) | (with_reducible refine Kd.C_drew ?_)))
       (case aB => exact bA)
       (case aF => exact (fun k_ hk => Kd.fresh' (Kd.R_lt (rK HO197)) k_ hk))
       (case aO => exact (by (with_reducible repeat (first | apply Kd.R_alloc | apply Kd.R_drewN | apply Kd.R_drew)); exact Kd.R_mono HO187.out (fun _ hk => hk.2)))
       (case aS => exact (below_size bA))
       (case aL => have := LMc50.out; omega)
       intro v193 w79 ho hb hg hat
       rw [← Ny192.out] at ho
       have n0_ := Aside0.mk (Kd.R_after (ok := (fun _ => True)) (rK HO197) hg hat)
       have n1_ := Aside0.mk (hb)
       have n2_ := Aside0.mk (ho)
       clear HO197
       clear HB
       clear HO187
       have HO197 := n0_
       have HB := n1_
       have HO194 := n2_
       clear n0_ n1_ n2_
       clear ho hb hg hat
       refine hK.out _ _ trivial (fun hHeld => ?_)
       clear hK K
       refine nB ?_
       exact mB (hCont (v186, v193, v196) _ ⟨(rK HO194), (by (with_reducible repeat (first | apply Kd.R_alloc | apply Kd.R_drewN | apply Kd.R_drew)); exact Kd.R_mono HO197.out (fun _ hk => hk.2)), bA⟩)
     rintro ⟨v186, v193, v196⟩ w80 ⟨h0_, h1_, h2_⟩
     have n0_ : Aside0 (Kd.R k87 87 w80 w.heap.size (fun k_ => some k_ ≠ (v196 : Value).ownBlock) v193 y192) := ⟨h0_⟩
     have n1_ : Aside0 (Kd.R k87 87 w80 w.heap.size (fun k_ => some k_ ≠ (v193 : Value).ownBlock) v196 y195) := ⟨h1_⟩
     have n2_ : Aside0 (Below w.heap.size w w80) := ⟨h2_⟩
     clear HB
     clear h0_ h1_ h2_
     have HO194 := n0_
     have HO197 := n1_
     have HB := n2_
     clear n0_ n1_ n2_
     have hHeld := trivial
     obtain ⟨Ao82, co82, eo82⟩ := Kd.R_slice HO197.out
     (first | subst eo82 | (injection eo82 with f1_ f2_ f3_; have f4_ := f1_.symm; have f5_ := f3_.symm; clear f1_ f2_ f3_; subst f4_; subst f5_))
     refine norm_ (a' := ?_) ?_ ?_
     rotate_left
     ·
      simp only [putAll, Act.put, List.setIfInBounds_toArray, List.set_cons_zero, List.set_cons_succ]
      rfl
     refine oA (i := 8) (N := some 33) (mb 14 4095) HT_ (fun K hK => ?_)
     refine Kd.R_append_rows_step k87 (w0 := w) w.heap.size (by rfl) (.tmp 29) (.tmp 32) 45 87 (.agg #[(.int .i64 0), (.int .i64 0)]) 16 rfl Try.underlying45 info87 rfl (by decide) (by omega) v193 y192 y195 _ _ _ (fun k_ => some k_ ≠ (.slice Ao82 y195.length co82 : Value).ownBlock) (fun _ => False) rfl rfl ?aO ?aR (fun _ _ h => h) (fun _ h => h.elim) ?aF ?aB ?aS ?aL ?_
     (case aR => repeat (first | exact (Kd.R_reads' HO197.out).2.2 | (with_reducible refine Kd.C_alloc ?_ _) | (with_reducible refine Kd.C_drewN ?_ _) | (with_reducible refine Kd.C_drew ?_)))
     (case aB => exact bA)
     (case aF => exact (fun k_ hk => Kd.fresh' (Kd.R_lt (rK HO197)) k_ hk))
     (case aO => exact (rK HO194))
     (case aS => exact (below_size bA))
     (case aL => have := LMc51.out; omega)
     intro v199 w81 ho hb hg hat
     rw [← Ny198.out] at ho
     have n0_ := Aside0.mk (Kd.R_after (ok := (fun _ => True)) (by (with_reducible repeat (first | apply Kd.R_alloc | apply Kd.R_drewN | apply Kd.R_drew)); exact Kd.R_mono HO197.out (fun _ hk => ⟨trivial, hk⟩)) hg hat)
     have n1_ := Aside0.mk (hb)
     have n2_ := Aside0.mk (ho)
     clear HO197
     clear HB
     clear HO194
     have HO197 := n0_
     have HB := n1_
     have HO200 := n2_
     clear n0_ n1_ n2_
     clear ho hb hg hat
     refine hK.out _ _ trivial (fun hHeld => ?_)
     clear hK K
     refine nB ?_
     refine oA (i := 12) (N := some 37) (mb 14 8191) HT_ (fun K hK => ?_)
     refine Kd.R_append_rows_step k87 (w0 := w) w.heap.size (by rfl) (.tmp 33) (.tmp 36) 45 87 (.agg #[(.int .i64 0), (.int .i64 0)]) 16 rfl Try.underlying45 info87 rfl (by decide) (by omega) v199 y198 y201 _ _ _ (fun k_ => some k_ ≠ (.slice Ao82 y195.length co82 : Value).ownBlock) (fun _ => False) rfl rfl ?aO ?aR (fun _ _ h => h) (fun _ h => h.elim) ?aF ?aB ?aS ?aL ?_
     (case aR => repeat (first | exact (Kd.C_below HR204.out HB.out) | (with_reducible refine Kd.C_alloc ?_ _) | (with_reducible refine Kd.C_drewN ?_ _) | (with_reducible refine Kd.C_drew ?_)))
     (case aB => exact bA)
     (case aF => exact (fun k_ hk => Kd.fresh' (Kd.R_lt (rK HO197)) k_ hk))
     (case aO => exact (rK HO200))
     (case aS => exact (below_size bA))
     (case aL => have := LMc54.out; omega)
     intro v206 w83 ho hb hg hat
     rw [← Ny205.out] at ho
     have n0_ := Aside0.mk (Kd.R_after (ok := (fun _ => True)) (rK HO197) hg hat)
     have n1_ := Aside0.mk (hb)
     have n2_ := Aside0.mk (ho)
     clear HO197
     clear HB
     clear HO200
     have HO197 := n0_
     have HB := n1_
     have HO207 := n2_
     clear n0_ n1_ n2_
     clear ho hb hg hat
     refine hK.out _ _ trivial (fun hHeld => ?_)
     clear hK K
     refine nB ?_
     refine pA (i := 13) (N := some 9) (mb 14 16383) HT_ ?_
     refine eA HT_ ?_
     obtain ⟨Ao84, co84, eo84⟩ := Kd.R_slice HO207.out
     subst eo84
     try go_wp2_with (first | ((with_reducible refine gate_callee (f := 33) rfl ?_); refine gL (some 40) Try.func33 #[.slice A0 l0.length c0, .slice Ao84 y205.length co84] ?_; (with_reducible refine (spec_AreWants.calls k1 _ _ l0 _ _ y205 false _ ?side1 ?side2 ?side3 ?side4 A55.out).mono ?_); (case side1 => exact cB HR0); (case side2 => exact HC0.out); (case side3 => exact cO ⟨(Kd.R_reads' HO207.out).2.2⟩); (case side4 => exact (Kd.R_reads' HO207.out).2.1); rintro e w85 ⟨rfl, hb⟩; refine ⟨_, rfl, ?_⟩; replace HO197 := Aside0.mk (Kd.R_below (rK HO197) hb); replace HO207 := Aside0.mk (Kd.R_below (rK HO207) hb); replace HB := Aside0.mk (below_step bA hb); (try clear hb); (try clear hb2); (try clear hk); (try clear hi)) | ((with_reducible refine gate_dst (N := 42) rfl ?_); refine Kd.R_lit k87 _ 87 ?hg (N := 42) ?hd (xs := ([] : List (S87))) (inner := []) (ok := fun _ => True) (okp := fun _ => True) ?hr ?hp (fun _ hk => hk) trivial (Below.refl _ _) (Nat.le_refl _) (by simp) ?_; (case hd => rfl); (case hg => rfl); (case hr => first | (go_simp; done) | (go_simp; rfl)); (case hp => exact (Reps.none _ _)); intro v210 w86 ho87 hb hg_ hnew_; clear hg_ hnew_; (first | rw [← Ny209.out] at ho87 | (simp only [Int.reduceToNat] at ho87; rw [← Ny209.out] at ho87)); have HO211 := Aside0.mk (Kd.R_lower (Kd.R_new' (Kd.R_new' ho87 (Kd.R_lt (rK HO197))) (Kd.R_lt (rK HO207))) (below_size bA)); replace HO197 := Aside0.mk (Kd.R_elder' (rK HO197) (Kd.R_base ho87) hb); replace HO207 := Aside0.mk (Kd.R_elder' (rK HO207) (Kd.R_base ho87) hb); replace HB := Aside0.mk (below_step bA hb); clear hb ho87) | ((with_reducible refine gate_builtin (b := .append) (xs := #[.tmp 42, .tmp 43]) rfl ?_); at_builtin; refine Kd.R_append_rows k87 (w0 := w) w.heap.size rfl (.tmp 42) (.tmp 43) 45 87 (.agg #[(.int .i64 0), (.int .i64 0)]) 16 rfl Try.underlying45 info87 rfl (by decide) (by omega) v210 y209 l1 _ _ _ (fun k_ => some k_ ≠ (.slice Ao82 y195.length co82 : Value).ownBlock ∧ some k_ ≠ (.slice Ao84 y205.length co84 : Value).ownBlock) (fun _ => False) rfl rfl ?aO ?aR (fun _ _ h => h) (fun _ h => h.elim) ?aF ?aB ?aS ?aL ?_; (case aR => repeat (first | exact (Kd.C_below HR1.out HB.out) | (with_reducible refine Kd.C_alloc ?_ _) | (with_reducible refine Kd.C_drewN ?_ _) | (with_reducible refine Kd.C_drew ?_))); (case aB => exact bA); (case aF => exact (fun k_ hk => ⟨Kd.fresh' (Kd.R_lt (rK HO197)) k_ hk, Kd.fresh' (Kd.R_lt (rK HO207)) k_ hk⟩)); (case aO => exact (by (with_reducible repeat (first | apply Kd.R_alloc | apply Kd.R_drewN | apply Kd.R_drew)); exact Kd.R_mono HO211.out (fun _ hk => ⟨hk.1.2, hk.2⟩))); (case aS => exact (below_size bA)); (case aL => have := LMc71.out; omega); intro v213 w88 ho hb hg hat; rw [← Ny212.out] at ho; have n0_ := Aside0.mk (Kd.R_after (ok := (fun k_ => some k_ ≠ (.slice Ao84 y205.length co84 : Value).ownBlock)) (by (with_reducible repeat (first | apply Kd.R_alloc | apply Kd.R_drewN | apply Kd.R_drew)); exact Kd.R_mono HO197.out (fun _ hk => ⟨hk.1.2, hk.2⟩)) hg hat); have n1_ := Aside0.mk (Kd.R_after (ok := (fun k_ => some k_ ≠ (.slice Ao82 y195.length co82 : Value).ownBlock)) (rK HO207) hg hat); have n2_ := Aside0.mk (hb); have n3_ := Aside0.mk (ho); clear HO197; clear HO207; clear HB; clear HO211; have HO197 := n0_; have HO207 := n1_; have HB := n2_; have HO214 := n3_; clear n0_ n1_ n2_ n3_; clear ho hb hg hat))
     go_ret2
     exact ⟨_, by first | rfl | (simp [errW_none, errW_some] <;> rfl) | (simp [*, errW_none, errW_some] <;> rfl), by (with_reducible repeat (first | apply Kd.R_alloc | apply Kd.R_drewN | apply Kd.R_drew)); exact Kd.R_mono HO214.out (fun _ hk => trivial), bA⟩

/-! ### impl_InRange: function 69 -/
def impl_InRange.f (a0 : Int) (a1 : Int) (a2 : Int) : Option (Bool) := if a1 ≤ a0 then (some (decide (a0 ≤ a2))) else (some false)
set_option maxHeartbeats 8000000 in
set_option maxRecDepth 100000 in
theorem impl_InRange.calls (a0 : Int) (a1 : Int) (a2 : Int) (r : Bool) (w : World) (h : impl_InRange.f a0 a1 a2 = some r) :
  Calls Try.prog 69 #[.int .i64 a0, .int .i64 a1, .int .i64 a2] w fun e w' => e = .returned (.bool r) ∧ Drawn0 w w' := by
 have H : (if a1 ≤ a0 then (some (decide (a0 ≤ a2))) else (some false)) = some r := h
 clear h
 by_cases c4 : a1 ≤ a0
 ·
  rw [if_pos c4] at H
  have c4b0 : decide (a1 ≤ a0) = true := decide_eq_true c4
  clear c4
  obtain rfl := Option.some.inj H
  go_enter Try.func69, Try.ntmps69
  go_wp2
  go_ret
  exact ⟨by first | rfl | (simp; done) | (simp [*]; done), by repeat (first | exact Drawn0.refl _ | apply Drawn0.step)⟩
 ·
  rw [if_neg c4] at H
  have c4b0 : decide (a1 ≤ a0) = false := decide_eq_false c4
  clear c4
  obtain rfl := Option.some.inj H
  go_enter Try.func69, Try.ntmps69
  go_wp2
  go_ret
  exact ⟨by first | rfl | (simp; done) | (simp [*]; done), by repeat (first | exact Drawn0.refl _ | apply Drawn0.step)⟩

/-! ### impl_IsPath: function 112 -/
def impl_IsPath.f (a0_0 : Int) (a0_1 : Int) (a0_2 : Int) (a0_3 : Int) : Option (Bool) := (impl_InRange.f a0_0 1 20).bind fun t216 => (if t216 = true then ((impl_InRange.f a0_1 1 3).bind fun t217 => (if t217 = true then ((impl_InRange.f a0_2 0 3).bind fun t218 => (if t218 = true then ((impl_InRange.f a0_3 0 3).bind fun t219 => (if t219 = true then (some ((a0_2 == a0_3) == (a0_1 == 2))) else (some false))) else (some false))) else (some false))) else (some false))
set_option maxHeartbeats 8000000 in
set_option maxRecDepth 100000 in
theorem impl_IsPath.calls (a0_0 : Int) (a0_1 : Int) (a0_2 : Int) (a0_3 : Int) (r : Bool) (w : World) (h : impl_IsPath.f a0_0 a0_1 a0_2 a0_3 = some r) :
  Calls Try.prog 112 #[.agg #[.int .i64 a0_0, .int .i64 a0_1, .int .i64 a0_2, .int .i64 a0_3]] w fun e w' => e = .returned (.bool r) ∧ Below w.heap.size w w' := by
 have hu90 := Try.underlying90
 have HB := Aside0.mk (Below.refl w.heap.size w)
 have H : ((impl_InRange.f a0_0 1 20).bind fun t216 => (if t216 = true then ((impl_InRange.f a0_1 1 3).bind fun t217 => (if t217 = true then ((impl_InRange.f a0_2 0 3).bind fun t218 => (if t218 = true then ((impl_InRange.f a0_3 0 3).bind fun t219 => (if t219 = true then (some ((a0_2 == a0_3) == (a0_1 == 2))) else (some false))) else (some false))) else (some false))) else (some false))) = some r := h
 clear h
 obtain ⟨t216, A2, H⟩ := bindE H
 try dsimp only at H
 by_cases c3 : t216 = true
 ·
  subst c3
  have H1 : ((impl_InRange.f a0_1 1 3).bind fun t217 => (if t217 = true then ((impl_InRange.f a0_2 0 3).bind fun t218 => (if t218 = true then ((impl_InRange.f a0_3 0 3).bind fun t219 => (if t219 = true then (some ((a0_2 == a0_3) == (a0_1 == 2))) else (some false))) else (some false))) else (some false))) = some r := by rw [if_pos rfl] at H; exact H
  clear H
  have H := H1
  clear H1
  obtain ⟨t217, A4, H⟩ := bindE H
  try dsimp only at H
  by_cases c5 : t217 = true
  ·
   subst c5
   have H1 : ((impl_InRange.f a0_2 0 3).bind fun t218 => (if t218 = true then ((impl_InRange.f a0_3 0 3).bind fun t219 => (if t219 = true then (some ((a0_2 == a0_3) == (a0_1 == 2))) else (some false))) else (some false))) = some r := by rw [if_pos rfl] at H; exact H
   clear H
   have H := H1
   clear H1
   obtain ⟨t218, A6, H⟩ := bindE H
   try dsimp only at H
   by_cases c7 : t218 = true
   ·
    subst c7
    have H1 : ((impl_InRange.f a0_3 0 3).bind fun t219 => (if t219 = true then (some ((a0_2 == a0_3) == (a0_1 == 2))) else (some false))) = some r := by rw [if_pos rfl] at H; exact H
    clear H
    have H := H1
    clear H1
    obtain ⟨t219, A8, H⟩ := bindE H
    try dsimp only at H
    by_cases c9 : t219 = true
    ·
     subst c9
     have H1 : (some ((a0_2 == a0_3) == (a0_1 == 2))) = some r := by rw [if_pos rfl] at H; exact H
     clear H
     have H := H1
     clear H1
     obtain rfl := Option.some.inj H
     go_enter Try.func112, Try.ntmps112
     go_wp2_with (first | ((with_reducible refine gate_dst (N := 1) rfl ?_); refine bE (N := 1) (cs := #[.int .i64 a0_0, .int .i64 a0_1, .int .i64 a0_2, .int .i64 a0_3]) (t := 90) ?_; intro gb215 hg w10 hbox hb; have n0_ := Aside0.mk (below_step bA hb); have n1_ := Aside0.mk (hbox); have n2_ := Aside0.mk ((by rw [hg]; exact (below_size bA) : w.heap.size ≤ gb215)); have n3_ := Aside0.mk ((by rw [hg]; exact (below_size bA) : w.heap.size ≤ gb215)); clear HB; have HB := n0_; have BK215 := n1_; have GW215 := n2_; have GE215 := n3_; clear n0_ n1_ n2_ n3_; clear hb hbox hg; have hcz11_0 : w10.cell? ⟨gb215, 0, none⟩ = some (.int .i64 a0_0) := bC BK215 0; have hcz11_1 : w10.cell? ⟨gb215, 1, none⟩ = some (.int .i64 a0_1) := bC BK215 1; have hcz11_2 : w10.cell? ⟨gb215, 2, none⟩ = some (.int .i64 a0_2) := bC BK215 2; have hcz11_3 : w10.cell? ⟨gb215, 3, none⟩ = some (.int .i64 a0_3) := bC BK215 3; have hfz11_0 := blk_frozen BK215.out 0; have hfz11_1 := blk_frozen BK215.out 1; have hfz11_2 := blk_frozen BK215.out 2; have hfz11_3 := blk_frozen BK215.out 3) | ((with_reducible refine gate_callee (f := 69) rfl ?_); refine gL (some 5) Try.func69 #[.int .i64 a0_0, .int .i64 1, .int .i64 20] ?_; (with_reducible refine (impl_InRange.calls a0_0 1 20 true _ A2.out).mono ?_); rintro e w' ⟨rfl, ⟨nd, rfl⟩⟩; refine ⟨_, rfl, ?_⟩) | (go_at_call 69; (with_reducible refine (impl_InRange.calls a0_1 1 3 true _ A4.out).mono ?_); rintro e w' ⟨rfl, ⟨nd, rfl⟩⟩) | (go_at_call 69; (with_reducible refine (impl_InRange.calls a0_2 0 3 true _ A6.out).mono ?_); rintro e w' ⟨rfl, ⟨nd, rfl⟩⟩) | (go_at_call 69; (with_reducible refine (impl_InRange.calls a0_3 0 3 true _ A8.out).mono ?_); rintro e w' ⟨rfl, ⟨nd, rfl⟩⟩))
     go_ret
     exact ⟨rA, bG⟩
    ·
     replace c9 := Bool.eq_false_iff.mpr c9
     subst c9
     have H1 : (some false) = some r := by rw [if_neg (show ¬ (false = true) by decide)] at H; exact H
     clear H
     have H := H1
     clear H1
     obtain rfl := Option.some.inj H
     go_enter Try.func112, Try.ntmps112
     go_wp2_with (first | ((with_reducible refine gate_dst (N := 1) rfl ?_); refine bE (N := 1) (cs := #[.int .i64 a0_0, .int .i64 a0_1, .int .i64 a0_2, .int .i64 a0_3]) (t := 90) ?_; intro gb215 hg w12 hbox hb; have n0_ := Aside0.mk (below_step bA hb); have n1_ := Aside0.mk (hbox); have n2_ := Aside0.mk ((by rw [hg]; exact (below_size bA) : w.heap.size ≤ gb215)); have n3_ := Aside0.mk ((by rw [hg]; exact (below_size bA) : w.heap.size ≤ gb215)); clear HB; have HB := n0_; have BK215 := n1_; have GW215 := n2_; have GE215 := n3_; clear n0_ n1_ n2_ n3_; clear hb hbox hg; have hcz13_0 : w12.cell? ⟨gb215, 0, none⟩ = some (.int .i64 a0_0) := bC BK215 0; have hcz13_1 : w12.cell? ⟨gb215, 1, none⟩ = some (.int .i64 a0_1) := bC BK215 1; have hcz13_2 : w12.cell? ⟨gb215, 2, none⟩ = some (.int .i64 a0_2) := bC BK215 2; have hcz13_3 : w12.cell? ⟨gb215, 3, none⟩ = some (.int .i64 a0_3) := bC BK215 3; have hfz13_0 := blk_frozen BK215.out 0; have hfz13_1 := blk_frozen BK215.out 1; have hfz13_2 := blk_frozen BK215.out 2; have hfz13_3 := blk_frozen BK215.out 3) | ((with_reducible refine gate_callee (f := 69) rfl ?_); refine gL (some 5) Try.func69 #[.int .i64 a0_0, .int .i64 1, .int .i64 20] ?_; (with_reducible refine (impl_InRange.calls a0_0 1 20 true _ A2.out).mono ?_); rintro e w' ⟨rfl, ⟨nd, rfl⟩⟩; refine ⟨_, rfl, ?_⟩) | (go_at_call 69; (with_reducible refine (impl_InRange.calls a0_1 1 3 true _ A4.out).mono ?_); rintro e w' ⟨rfl, ⟨nd, rfl⟩⟩) | (go_at_call 69; (with_reducible refine (impl_InRange.calls a0_2 0 3 true _ A6.out).mono ?_); rintro e w' ⟨rfl, ⟨nd, rfl⟩⟩) | (go_at_call 69; (with_reducible refine (impl_InRange.calls a0_3 0 3 false _ A8.out).mono ?_); rintro e w' ⟨rfl, ⟨nd, rfl⟩⟩))
     go_ret
     exact ⟨rA, bG⟩
   ·
    replace c7 := Bool.eq_false_iff.mpr c7
    subst c7
    have H1 : (some false) = some r := by rw [if_neg (show ¬ (false = true) by decide)] at H; exact H
    clear H
    have H := H1
    clear H1
    obtain rfl := Option.some.inj H
    go_enter Try.func112, Try.ntmps112
    go_wp2_with (first | ((with_reducible refine gate_dst (N := 1) rfl ?_); refine bE (N := 1) (cs := #[.int .i64 a0_0, .int .i64 a0_1, .int .i64 a0_2, .int .i64 a0_3]) (t := 90) ?_; intro gb215 hg w14 hbox hb; have n0_ := Aside0.mk (below_step bA hb); have n1_ := Aside0.mk (hbox); have n2_ := Aside0.mk ((by rw [hg]; exact (below_size bA) : w.heap.size ≤ gb215)); have n3_ := Aside0.mk ((by rw [hg]; exact (below_size bA) : w.heap.size ≤ gb215)); clear HB; have HB := n0_; have BK215 := n1_; have GW215 := n2_; have GE215 := n3_; clear n0_ n1_ n2_ n3_; clear hb hbox hg; have hcz15_0 : w14.cell? ⟨gb215, 0, none⟩ = some (.int .i64 a0_0) := bC BK215 0; have hcz15_1 : w14.cell? ⟨gb215, 1, none⟩ = some (.int .i64 a0_1) := bC BK215 1; have hcz15_2 : w14.cell? ⟨gb215, 2, none⟩ = some (.int .i64 a0_2) := bC BK215 2; have hcz15_3 : w14.cell? ⟨gb215, 3, none⟩ = some (.int .i64 a0_3) := bC BK215 3; have hfz15_0 := blk_frozen BK215.out 0; have hfz15_1 := blk_frozen BK215.out 1; have hfz15_2 := blk_frozen BK215.out 2; have hfz15_3 := blk_frozen BK215.out 3) | ((with_reducible refine gate_callee (f := 69) rfl ?_); refine gL (some 5) Try.func69 #[.int .i64 a0_0, .int .i64 1, .int .i64 20] ?_; (with_reducible refine (impl_InRange.calls a0_0 1 20 true _ A2.out).mono ?_); rintro e w' ⟨rfl, ⟨nd, rfl⟩⟩; refine ⟨_, rfl, ?_⟩) | (go_at_call 69; (with_reducible refine (impl_InRange.calls a0_1 1 3 true _ A4.out).mono ?_); rintro e w' ⟨rfl, ⟨nd, rfl⟩⟩) | (go_at_call 69; (with_reducible refine (impl_InRange.calls a0_2 0 3 false _ A6.out).mono ?_); rintro e w' ⟨rfl, ⟨nd, rfl⟩⟩))
    go_ret
    exact ⟨rA, bG⟩
  ·
   replace c5 := Bool.eq_false_iff.mpr c5
   subst c5
   have H1 : (some false) = some r := by rw [if_neg (show ¬ (false = true) by decide)] at H; exact H
   clear H
   have H := H1
   clear H1
   obtain rfl := Option.some.inj H
   go_enter Try.func112, Try.ntmps112
   go_wp2_with (first | ((with_reducible refine gate_dst (N := 1) rfl ?_); refine bE (N := 1) (cs := #[.int .i64 a0_0, .int .i64 a0_1, .int .i64 a0_2, .int .i64 a0_3]) (t := 90) ?_; intro gb215 hg w16 hbox hb; have n0_ := Aside0.mk (below_step bA hb); have n1_ := Aside0.mk (hbox); have n2_ := Aside0.mk ((by rw [hg]; exact (below_size bA) : w.heap.size ≤ gb215)); have n3_ := Aside0.mk ((by rw [hg]; exact (below_size bA) : w.heap.size ≤ gb215)); clear HB; have HB := n0_; have BK215 := n1_; have GW215 := n2_; have GE215 := n3_; clear n0_ n1_ n2_ n3_; clear hb hbox hg; have hcz17_0 : w16.cell? ⟨gb215, 0, none⟩ = some (.int .i64 a0_0) := bC BK215 0; have hcz17_1 : w16.cell? ⟨gb215, 1, none⟩ = some (.int .i64 a0_1) := bC BK215 1; have hcz17_2 : w16.cell? ⟨gb215, 2, none⟩ = some (.int .i64 a0_2) := bC BK215 2; have hcz17_3 : w16.cell? ⟨gb215, 3, none⟩ = some (.int .i64 a0_3) := bC BK215 3; have hfz17_0 := blk_frozen BK215.out 0; have hfz17_1 := blk_frozen BK215.out 1; have hfz17_2 := blk_frozen BK215.out 2; have hfz17_3 := blk_frozen BK215.out 3) | ((with_reducible refine gate_callee (f := 69) rfl ?_); refine gL (some 5) Try.func69 #[.int .i64 a0_0, .int .i64 1, .int .i64 20] ?_; (with_reducible refine (impl_InRange.calls a0_0 1 20 true _ A2.out).mono ?_); rintro e w' ⟨rfl, ⟨nd, rfl⟩⟩; refine ⟨_, rfl, ?_⟩) | (go_at_call 69; (with_reducible refine (impl_InRange.calls a0_1 1 3 false _ A4.out).mono ?_); rintro e w' ⟨rfl, ⟨nd, rfl⟩⟩))
   go_ret
   exact ⟨rA, bG⟩
 ·
  replace c3 := Bool.eq_false_iff.mpr c3
  subst c3
  have H1 : (some false) = some r := by rw [if_neg (show ¬ (false = true) by decide)] at H; exact H
  clear H
  have H := H1
  clear H1
  obtain rfl := Option.some.inj H
  go_enter Try.func112, Try.ntmps112
  go_wp2_with (first | ((with_reducible refine gate_dst (N := 1) rfl ?_); refine bE (N := 1) (cs := #[.int .i64 a0_0, .int .i64 a0_1, .int .i64 a0_2, .int .i64 a0_3]) (t := 90) ?_; intro gb215 hg w18 hbox hb; have n0_ := Aside0.mk (below_step bA hb); have n1_ := Aside0.mk (hbox); have n2_ := Aside0.mk ((by rw [hg]; exact (below_size bA) : w.heap.size ≤ gb215)); have n3_ := Aside0.mk ((by rw [hg]; exact (below_size bA) : w.heap.size ≤ gb215)); clear HB; have HB := n0_; have BK215 := n1_; have GW215 := n2_; have GE215 := n3_; clear n0_ n1_ n2_ n3_; clear hb hbox hg; have hcz19_0 : w18.cell? ⟨gb215, 0, none⟩ = some (.int .i64 a0_0) := bC BK215 0; have hcz19_1 : w18.cell? ⟨gb215, 1, none⟩ = some (.int .i64 a0_1) := bC BK215 1; have hcz19_2 : w18.cell? ⟨gb215, 2, none⟩ = some (.int .i64 a0_2) := bC BK215 2; have hcz19_3 : w18.cell? ⟨gb215, 3, none⟩ = some (.int .i64 a0_3) := bC BK215 3; have hfz19_0 := blk_frozen BK215.out 0; have hfz19_1 := blk_frozen BK215.out 1; have hfz19_2 := blk_frozen BK215.out 2; have hfz19_3 := blk_frozen BK215.out 3) | ((with_reducible refine gate_callee (f := 69) rfl ?_); refine gL (some 5) Try.func69 #[.int .i64 a0_0, .int .i64 1, .int .i64 20] ?_; (with_reducible refine (impl_InRange.calls a0_0 1 20 false _ A2.out).mono ?_); rintro e w' ⟨rfl, ⟨nd, rfl⟩⟩; refine ⟨_, rfl, ?_⟩))
  go_ret
  exact ⟨rA, bG⟩

/-! ### impl_ArePaths: function 83 -/
def impl_ArePaths.l0 : Nat → List (S90) → List (S90) → Int → Int → Option (Bool)
 | 0, _, _, _, _ => none
 | k + 1, x0, x8, x9, x10 => if x10 < x9 then (if 0 ≤ x10 then (if x10 < (x8.length : Int) then ((impl_IsPath.f ((rd_T90 x8 x10).f0) ((rd_T90 x8 x10).f1) ((rd_T90 x8 x10).f2) ((rd_T90 x8 x10).f3)).bind fun t222 => (if t222 = true then (if x10 > 0 then (if 0 ≤ (wrap64 (x10 - 1)) then (if (wrap64 (x10 - 1)) < (x0.length : Int) then (if ((rd_T90 x8 x10).f0) ≤ ((rd_T90 x0 (wrap64 (x10 - 1))).f0) then (some false) else (impl_ArePaths.l0 k x0 x8 x9 (wrap64 (x10 + 1)))) else (none)) else (none)) else (impl_ArePaths.l0 k x0 x8 x9 (wrap64 (x10 + 1)))) else (some false))) else (none)) else (none)) else (some true)
def impl_ArePaths.f (k : Nat) (l0 : List (S90)) : Option (Bool) := if (l0.length : Int) > 12 then (some false) else (impl_ArePaths.l0 k l0 l0 (l0.length : Int) 0)
theorem impl_ArePaths.mono_l : ∀ k, (∀ y0 y1 y2 y3, LeO (impl_ArePaths.l0 k y0 y1 y2 y3) (impl_ArePaths.l0 (k + 1) y0 y1 y2 y3))
 | 0 => fun _ _ _ _ r h => by simp [impl_ArePaths.l0] at h
 | k + 1 => by
  have ih0 := impl_ArePaths.mono_l k
  ·
   intro y0 y1 y2 y3
   unfold impl_ArePaths.l0
   repeat' first | (with_reducible first | exact LeO.refl _ | exact LeO.none _ | refine LeO.ite ?_ ?_ | refine LeO.bind ?_ (fun _ => ?_) | exact ih0 _ _ _ _) | exact LeO.none _ | refine LeO.ite ?_ ?_ | refine LeO.bind ?_ (fun _ => ?_) | exact ih0 _ _ _ _
theorem impl_ArePaths.mono : ∀ a0 k, LeO (impl_ArePaths.f k a0) (impl_ArePaths.f (k + 1) a0) := by
 intro a0 k
 have ih0 := impl_ArePaths.mono_l k
 unfold impl_ArePaths.f
 repeat' first | (with_reducible first | exact LeO.refl _ | exact LeO.none _ | refine LeO.ite ?_ ?_ | refine LeO.bind ?_ (fun _ => ?_) | exact ih0 _ _ _ _) | exact LeO.none _ | refine LeO.ite ?_ ?_ | refine LeO.bind ?_ (fun _ => ?_) | exact ih0 _ _ _ _
def impl_ArePaths.T6 : Bool × List (List Nat × List Nat) := (true, [([], []), ([0], [0]), ([1], [1]), ([2, 1], [2]), ([3], [3]), ([4, 3], [3, 4]), ([5, 3, 3], [3, 5]), ([6], [6]), ([7, 6], [6, 7]), ([6], [6]), ([6], [6]), ([10, 6], [6, 10]), ([9, 11, 6], [6, 9, 11]), ([12, 6], [6, 12]), ([13, 6], [6, 13]), ([8, 14, 6], [6, 8, 14]), ([6, 15, 3], [3, 6, 15]), ([3, 16], [3, 16])])
def impl_ArePaths.B6 : List Nat := [0, 1, 3, 7, 15, 31, 63, 127, 255, 127, 127, 1151, 3711, 7807, 15999, 32767, 65535, 131071]
theorem impl_ArePaths.tab6 : rtab .any (opsOf Try.f83 6) = impl_ArePaths.T6 := by kernel_rfl
theorem impl_ArePaths.bits6 : waitsOk impl_ArePaths.T6.2 impl_ArePaths.B6 = true := by kernel_rfl
set_option maxHeartbeats 8000000 in
set_option maxRecDepth 100000 in
theorem impl_ArePaths.calls (k : Nat) (A0 : Option Addr) (c0 : Nat) (l0 : List (S90)) (r : Bool) (w : World) (hr0 : Kd.C k90 w A0 l0.length l0) (hc0 : l0.length ≤ c0) (h : impl_ArePaths.f k l0 = some r) :
  Calls Try.prog 83 #[.slice A0 l0.length c0] w fun e w' => e = .returned (.bool r) ∧ Below w.heap.size w w' := by
 have hu90 := Try.underlying90
 have HR0 := Aside0.mk hr0
 have HC0 := Aside0.mk hc0
 clear hr0 hc0
 have HB := Aside0.mk (Below.refl w.heap.size w)
 have H : (if (l0.length : Int) > 12 then (some false) else (impl_ArePaths.l0 k l0 l0 (l0.length : Int) 0)) = some r := h
 clear h
 by_cases c2 : (l0.length : Int) > 12
 ·
  rw [if_pos c2] at H
  have c2b0 : decide (12 < (l0.length : Int)) = true := decide_eq_true c2
  have c2b1 : decide (12 < l0.length) = true := decide_eq_true (by omega)
  clear c2
  obtain rfl := Option.some.inj H
  go_enter Try.func83, Try.ntmps83
  go_wp2
  go_ret
  exact ⟨rA, bA⟩
 ·
  rw [if_neg c2] at H
  have c2b0 : decide (12 < (l0.length : Int)) = false := decide_eq_false c2
  have c2b1 : decide (12 < l0.length) = false := decide_eq_false (by omega)
  clear c2
  have H' := Aside0.mk H
  clear H
  go_enter Try.func83, Try.ntmps83
  go_wp2
  go_loopg [10] k (fun kq v10 w' => ∃ (x10_1 : Int), v10 = .int .i64 x10_1 ∧ Aside0 (impl_ArePaths.l0 kq l0 l0 (l0.length : Int) x10_1 = some r) ∧ Aside0 (kq ≤ k) ∧ Aside0 (Below w.heap.size w w'))
  case atStart => exact ⟨(0), rS, H', ⟨Nat.le_refl _⟩, ⟨bA⟩⟩
  case round =>
   clear H'
   try clear c2
   try clear c2b0
   try clear c2b1
   try clear p2
   obtain ⟨x10_1, rfl, HA, HK1, HB⟩ := hrel
   cases gk with
   | zero => exact absurd HA.out (by simp [impl_ArePaths.l0])
   | succ k1 =>
    have H := HA.out
    clear HA
    simp only [impl_ArePaths.l0] at H
    by_cases c3 : x10_1 < (l0.length : Int)
    ·
     rw [if_pos c3] at H
     have c3b0 : decide (x10_1 < (l0.length : Int)) = true := decide_eq_true c3
     clear c3
     have c4 : 0 ≤ x10_1 := ifN H
     replace H := ifT H
     have c4b0 : decide (0 ≤ x10_1) = true := decide_eq_true c4
     clear c4
     have c5 : x10_1 < (l0.length : Int) := ifN H
     replace H := ifT H
     have c5b0 : decide (x10_1 < (l0.length : Int)) = true := decide_eq_true c5
     clear c5
     obtain ⟨t222, A6, H⟩ := bindE H
     try dsimp only at H
     by_cases c7 : t222 = true
     ·
      subst c7
      have H1 : (if x10_1 > 0 then (if 0 ≤ (wrap64 (x10_1 - 1)) then (if (wrap64 (x10_1 - 1)) < (l0.length : Int) then (if ((rd_T90 l0 x10_1).f0) ≤ ((rd_T90 l0 (wrap64 (x10_1 - 1))).f0) then (some false) else (impl_ArePaths.l0 k1 l0 l0 (l0.length : Int) (wrap64 (x10_1 + 1)))) else (none)) else (none)) else (impl_ArePaths.l0 k1 l0 l0 (l0.length : Int) (wrap64 (x10_1 + 1)))) = some r := by rw [if_pos rfl] at H; exact H
      clear H
      have H := H1
      clear H1
      by_cases c8 : x10_1 > 0
      ·
       rw [if_pos c8] at H
       have c8b0 : decide (0 < x10_1) = true := decide_eq_true c8
       clear c8
       obtain ⟨ji9, hji9⟩ : ∃ j_ : Int, (wrap64 (x10_1 - 1)) = j_ := ⟨_, rfl⟩
       replace H : (if 0 ≤ (ji9) then (if (ji9) < (l0.length : Int) then (if ((rd_T90 l0 x10_1).f0) ≤ ((rd_T90 l0 (ji9)).f0) then (some false) else (impl_ArePaths.l0 k1 l0 l0 (l0.length : Int) (wrap64 (x10_1 + 1)))) else (none)) else (none)) = some r := by first | (rw [hji9] at H; exact H) | (simp only [hji9] at H ⊢; exact H)
       (try rw [hji9] at A6)
       have hji9w : (IntKind.i64.wrap (x10_1 - 1)) = ji9 := (i64_w _).trans hji9
       have c10 : 0 ≤ (ji9) := ifN H
       replace H := ifT H
       have c10b0 : decide (0 ≤ (ji9)) = true := decide_eq_true c10
       clear c10
       have c11 : (ji9) < (l0.length : Int) := ifN H
       replace H := ifT H
       have c11b0 : decide ((ji9) < (l0.length : Int)) = true := decide_eq_true c11
       clear c11
       by_cases c12 : ((rd_T90 l0 x10_1).f0) ≤ ((rd_T90 l0 (ji9)).f0)
       ·
        rw [if_pos c12] at H
        have c12b0 : decide (((rd_T90 l0 x10_1).f0) ≤ ((rd_T90 l0 (ji9)).f0)) = true := decide_eq_true c12
        clear c12
        obtain rfl := Option.some.inj H
        have p220 : 0 ≤ (x10_1 : Int) := dA
        have q220 : x10_1 < (l0.length : Int) := dA
        obtain ⟨ad220, e220, hx220_0, hx220_1, hx220_2, hx220_3⟩ := at_T90 HR0.out x10_1 p220 q220
        cases e220
        replace hx220_0 := hC HB hx220_0
        replace hx220_1 := hC HB hx220_1
        replace hx220_2 := hC HB hx220_2
        replace hx220_3 := hC HB hx220_3
        replace p220 := eq_true p220
        replace q220 := eq_true q220
        try go_wp2_with (first | ((with_reducible refine gate_dst (N := 4) rfl ?_); refine bE (N := 4) (cs := #[.int .i64 0, .int .i64 0, .int .i64 0, .int .i64 0]) (t := 90) ?_; intro gb221 hg w13 hbox hb; have n0_ := Aside0.mk (below_step bA hb); have n1_ := Aside0.mk (hbox); have n2_ := Aside0.mk ((by rw [hg]; exact (below_size bA) : w.heap.size ≤ gb221)); have n3_ := Aside0.mk ((by rw [hg]; exact (below_size bA) : w.heap.size ≤ gb221)); clear HB; have HB := n0_; have BK221 := n1_; have GW221 := n2_; have GE221 := n3_; clear n0_ n1_ n2_ n3_; clear hb hbox hg; obtain ⟨hcz14_0, hcz14_1, hcz14_2, hcz14_3, hfz14_0, hfz14_1, hfz14_2, hfz14_3⟩ := blkc4 BK221))
        have n0_ : Aside0 (((((w13.setCell ⟨gb221, 0, none⟩ (.int .i64 ((rd_T90 l0 x10_1).f0))).setCell ⟨gb221, 1, none⟩ (.int .i64 ((rd_T90 l0 x10_1).f1))).setCell ⟨gb221, 2, none⟩ (.int .i64 ((rd_T90 l0 x10_1).f2))).setCell ⟨gb221, 3, none⟩ (.int .i64 ((rd_T90 l0 x10_1).f3))).heap[gb221]? = some (.cells #[.int .i64 ((rd_T90 l0 x10_1).f0), .int .i64 ((rd_T90 l0 x10_1).f1), .int .i64 ((rd_T90 l0 x10_1).f2), .int .i64 ((rd_T90 l0 x10_1).f3)] 90 (0, 0))) := ⟨by (with_reducible repeat (first | refine blk_drewN ?_ _ | refine blk_drew ?_ | refine blk_alloc ?_ _)); refine blk_put (cs := #[.int .i64 ((rd_T90 l0 x10_1).f0), .int .i64 ((rd_T90 l0 x10_1).f1), .int .i64 ((rd_T90 l0 x10_1).f2), .int .i64 0]) ?_ 3 _ rfl; (with_reducible repeat (first | refine blk_drewN ?_ _ | refine blk_drew ?_ | refine blk_alloc ?_ _)); refine blk_put (cs := #[.int .i64 ((rd_T90 l0 x10_1).f0), .int .i64 ((rd_T90 l0 x10_1).f1), .int .i64 0, .int .i64 0]) ?_ 2 _ rfl; (with_reducible repeat (first | refine blk_drewN ?_ _ | refine blk_drew ?_ | refine blk_alloc ?_ _)); refine blk_put (cs := #[.int .i64 ((rd_T90 l0 x10_1).f0), .int .i64 0, .int .i64 0, .int .i64 0]) ?_ 1 _ rfl; (with_reducible repeat (first | refine blk_drewN ?_ _ | refine blk_drew ?_ | refine blk_alloc ?_ _)); refine blk_put (cs := #[.int .i64 0, .int .i64 0, .int .i64 0, .int .i64 0]) ?_ 0 _ rfl; (with_reducible repeat (first | refine blk_drewN ?_ _ | refine blk_drew ?_ | refine blk_alloc ?_ _)); exact BK221.out⟩
        have n1_ : Aside0 (Below w.heap.size w ((((w13.setCell ⟨gb221, 0, none⟩ (.int .i64 ((rd_T90 l0 x10_1).f0))).setCell ⟨gb221, 1, none⟩ (.int .i64 ((rd_T90 l0 x10_1).f1))).setCell ⟨gb221, 2, none⟩ (.int .i64 ((rd_T90 l0 x10_1).f2))).setCell ⟨gb221, 3, none⟩ (.int .i64 ((rd_T90 l0 x10_1).f3)))) := ⟨bG⟩
        (try clear BK221)
        (try clear HB)
        generalize ((((w13.setCell ⟨gb221, 0, none⟩ (.int .i64 ((rd_T90 l0 x10_1).f0))).setCell ⟨gb221, 1, none⟩ (.int .i64 ((rd_T90 l0 x10_1).f1))).setCell ⟨gb221, 2, none⟩ (.int .i64 ((rd_T90 l0 x10_1).f2))).setCell ⟨gb221, 3, none⟩ (.int .i64 ((rd_T90 l0 x10_1).f3))) = w15 at n0_ n1_ ⊢
        have BK221 := n0_
        have HB := n1_
        clear n0_ n1_
        replace BK221 := Aside0.mk (blk_drew BK221.out)
        have HBo := HB
        replace HB := Aside0.mk (below_drew1 HB.out)
        have p223 : 0 ≤ ((ji9) : Int) := dA
        have q223 : (ji9) < (l0.length : Int) := dA
        obtain ⟨ad223, e223, hx223_0, hx223_1, hx223_2, hx223_3⟩ := at_T90 HR0.out (ji9) p223 q223
        have hw223_3 := hx223_3
        have hw223_2 := hx223_2
        have hw223_1 := hx223_1
        have hw223_0 := hx223_0
        obtain rfl : ad220 = ad223 := (by injection e223)
        replace hx223_0 := hC HB hx223_0
        replace hx223_1 := hC HB hx223_1
        replace hx223_2 := hC HB hx223_2
        replace hx223_3 := hC HB hx223_3
        replace p223 := eq_true p223
        replace q223 := eq_true q223
        refine start_ (n := 18) (S := fun w' => w'.cell? ⟨gb221, 0, none⟩ = some (.int .i64 ((rd_T90 l0 x10_1).f0)) ∧ w'.cell? ⟨gb221, 1, none⟩ = some (.int .i64 ((rd_T90 l0 x10_1).f1)) ∧ w'.cell? ⟨gb221, 2, none⟩ = some (.int .i64 ((rd_T90 l0 x10_1).f2)) ∧ w'.cell? ⟨gb221, 3, none⟩ = some (.int .i64 ((rd_T90 l0 x10_1).f3)) ∧ w'.cell? (ad220.add (((ji9)).toNat * 4)) = some (.int .i64 ((rd_T90 l0 (ji9)).f0)) ∧ w'.cell? ⟨(ad220.add (((ji9)).toNat * 4)).block, (ad220.add (((ji9)).toNat * 4)).off + 1, none⟩ = some (.int .i64 ((rd_T90 l0 (ji9)).f1)) ∧ w'.cell? ⟨(ad220.add (((ji9)).toNat * 4)).block, (ad220.add (((ji9)).toNat * 4)).off + 2, none⟩ = some (.int .i64 ((rd_T90 l0 (ji9)).f2)) ∧ w'.cell? ⟨(ad220.add (((ji9)).toNat * 4)).block, (ad220.add (((ji9)).toNat * 4)).off + 3, none⟩ = some (.int .i64 ((rd_T90 l0 (ji9)).f3))) (ds := []) (mb 18 0) (by kernel_rfl) rfl rfl ⟨bC BK221 0, bC BK221 1, bC BK221 2, bC BK221 3, (hC HB hw223_0), (hC HB hw223_1), (hC HB hw223_2), (hC HB hw223_3)⟩ (fun hHeld => ?_); refine with_tabW impl_ArePaths.tab6 impl_ArePaths.bits6 (fun HT_ HW_ => ?_)
        generalize w15.drew = w16 at BK221 HB hx223_0 hx223_1 hx223_2 hx223_3 hHeld ⊢
        refine tA8 (i := 0) (N := some 15) (mb 18 1) HT_ HW_ hHeld ?_
        refine oA (i := 1) (N := some 16) (mb 18 3) HT_ (fun K hK => ?_)
        refine gA Try.func112 #[.agg #[.int .i64 ((rd_T90 l0 x10_1).f0), .int .i64 ((rd_T90 l0 x10_1).f1), .int .i64 ((rd_T90 l0 x10_1).f2), .int .i64 ((rd_T90 l0 x10_1).f3)]] ?_
        with_reducible refine (impl_IsPath.calls ((rd_T90 l0 x10_1).f0) ((rd_T90 l0 x10_1).f1) ((rd_T90 l0 x10_1).f2) ((rd_T90 l0 x10_1).f3) true _ A6.out).mono ?_
        rintro e w17 ⟨rfl, hb⟩
        refine ⟨_, rfl, ?_⟩
        replace BK221 := Aside0.mk (blk_below (g := gb221) (bK BK221) hb)
        replace HB := Aside0.mk (below_step bG hb)
        (try clear hb)
        (try clear hb2)
        (try clear hk)
        (try clear hi)
        refine hK.out _ _ ⟨bC BK221 0, bC BK221 1, bC BK221 2, bC BK221 3, (hC HB hw223_0), (hC HB hw223_1), (hC HB hw223_2), (hC HB hw223_3)⟩ (fun hHeld => ?_)
        clear hK K
        refine nB ?_
        refine pA (i := 2) (N := some 17) (mb 18 7) HT_ ?_
        refine pA (i := 3) (N := some 18) (mb 18 15) HT_ ?_
        refine pA (i := 4) (N := some 19) (mb 18 31) HT_ ?_
        refine pA (i := 5) (N := some 20) (mb 18 63) HT_ ?_
        refine pA (i := 6) (N := some 21) (mb 18 127) HT_ ?_
        refine pA (i := 7) (N := some 22) (mb 18 255) HT_ ?_
        refine pA (i := 9) (N := some 24) (mb 18 767) HT_ ?_
        refine pA (i := 10) (N := some 25) (mb 18 1791) HT_ ?_
        refine pA (i := 11) (N := some 26) (mb 18 3839) HT_ ?_
        refine pA (i := 12) (N := some 27) (mb 18 7935) HT_ ?_
        refine pA (i := 13) (N := some 28) (mb 18 16127) HT_ ?_
        refine tA8 (i := 8) (N := some 23) (mb 18 16383) HT_ HW_ hHeld ?_
        refine tA8 (i := 14) (N := some 29) (mb 18 32767) HT_ HW_ hHeld ?_
        refine pA (i := 15) (N := some 30) (mb 18 65535) HT_ ?_
        refine pA (i := 16) (N := some 31) (mb 18 131071) HT_ ?_
        refine pA (i := 17) (N := some 32) (mb 18 262143) HT_ ?_
        refine eA HT_ ?_
        try go_wp2
        go_ret
        exact ⟨by first | rfl | (simp [errW_none, errW_some] <;> rfl) | (simp only [← hji9]; first | rfl | (simp [errW_none, errW_some] <;> rfl)) | (simp [*, errW_none, errW_some] <;> rfl), bG⟩
       ·
        rw [if_neg c12] at H
        have c12b0 : decide (((rd_T90 l0 x10_1).f0) ≤ ((rd_T90 l0 (ji9)).f0)) = false := decide_eq_false c12
        clear c12
        have H' := Aside0.mk H
        clear H
        have p220 : 0 ≤ (x10_1 : Int) := dA
        have q220 : x10_1 < (l0.length : Int) := dA
        obtain ⟨ad220, e220, hx220_0, hx220_1, hx220_2, hx220_3⟩ := at_T90 HR0.out x10_1 p220 q220
        cases e220
        replace hx220_0 := hC HB hx220_0
        replace hx220_1 := hC HB hx220_1
        replace hx220_2 := hC HB hx220_2
        replace hx220_3 := hC HB hx220_3
        replace p220 := eq_true p220
        replace q220 := eq_true q220
        try go_wp2_with (first | ((with_reducible refine gate_dst (N := 4) rfl ?_); refine bE (N := 4) (cs := #[.int .i64 0, .int .i64 0, .int .i64 0, .int .i64 0]) (t := 90) ?_; intro gb221 hg w18 hbox hb; have n0_ := Aside0.mk (below_step bA hb); have n1_ := Aside0.mk (hbox); have n2_ := Aside0.mk ((by rw [hg]; exact (below_size bA) : w.heap.size ≤ gb221)); have n3_ := Aside0.mk ((by rw [hg]; exact (below_size bA) : w.heap.size ≤ gb221)); clear HB; have HB := n0_; have BK221 := n1_; have GW221 := n2_; have GE221 := n3_; clear n0_ n1_ n2_ n3_; clear hb hbox hg; obtain ⟨hcz19_0, hcz19_1, hcz19_2, hcz19_3, hfz19_0, hfz19_1, hfz19_2, hfz19_3⟩ := blkc4 BK221))
        have n0_ : Aside0 (((((w18.setCell ⟨gb221, 0, none⟩ (.int .i64 ((rd_T90 l0 x10_1).f0))).setCell ⟨gb221, 1, none⟩ (.int .i64 ((rd_T90 l0 x10_1).f1))).setCell ⟨gb221, 2, none⟩ (.int .i64 ((rd_T90 l0 x10_1).f2))).setCell ⟨gb221, 3, none⟩ (.int .i64 ((rd_T90 l0 x10_1).f3))).heap[gb221]? = some (.cells #[.int .i64 ((rd_T90 l0 x10_1).f0), .int .i64 ((rd_T90 l0 x10_1).f1), .int .i64 ((rd_T90 l0 x10_1).f2), .int .i64 ((rd_T90 l0 x10_1).f3)] 90 (0, 0))) := ⟨by (with_reducible repeat (first | refine blk_drewN ?_ _ | refine blk_drew ?_ | refine blk_alloc ?_ _)); refine blk_put (cs := #[.int .i64 ((rd_T90 l0 x10_1).f0), .int .i64 ((rd_T90 l0 x10_1).f1), .int .i64 ((rd_T90 l0 x10_1).f2), .int .i64 0]) ?_ 3 _ rfl; (with_reducible repeat (first | refine blk_drewN ?_ _ | refine blk_drew ?_ | refine blk_alloc ?_ _)); refine blk_put (cs := #[.int .i64 ((rd_T90 l0 x10_1).f0), .int .i64 ((rd_T90 l0 x10_1).f1), .int .i64 0, .int .i64 0]) ?_ 2 _ rfl; (with_reducible repeat (first | refine blk_drewN ?_ _ | refine blk_drew ?_ | refine blk_alloc ?_ _)); refine blk_put (cs := #[.int .i64 ((rd_T90 l0 x10_1).f0), .int .i64 0, .int .i64 0, .int .i64 0]) ?_ 1 _ rfl; (with_reducible repeat (first | refine blk_drewN ?_ _ | refine blk_drew ?_ | refine blk_alloc ?_ _)); refine blk_put (cs := #[.int .i64 0, .int .i64 0, .int .i64 0, .int .i64 0]) ?_ 0 _ rfl; (with_reducible repeat (first | refine blk_drewN ?_ _ | refine blk_drew ?_ | refine blk_alloc ?_ _)); exact BK221.out⟩
        have n1_ : Aside0 (Below w.heap.size w ((((w18.setCell ⟨gb221, 0, none⟩ (.int .i64 ((rd_T90 l0 x10_1).f0))).setCell ⟨gb221, 1, none⟩ (.int .i64 ((rd_T90 l0 x10_1).f1))).setCell ⟨gb221, 2, none⟩ (.int .i64 ((rd_T90 l0 x10_1).f2))).setCell ⟨gb221, 3, none⟩ (.int .i64 ((rd_T90 l0 x10_1).f3)))) := ⟨bG⟩
        (try clear BK221)
        (try clear HB)
        generalize ((((w18.setCell ⟨gb221, 0, none⟩ (.int .i64 ((rd_T90 l0 x10_1).f0))).setCell ⟨gb221, 1, none⟩ (.int .i64 ((rd_T90 l0 x10_1).f1))).setCell ⟨gb221, 2, none⟩ (.int .i64 ((rd_T90 l0 x10_1).f2))).setCell ⟨gb221, 3, none⟩ (.int .i64 ((rd_T90 l0 x10_1).f3))) = w20 at n0_ n1_ ⊢
        have BK221 := n0_
        have HB := n1_
        clear n0_ n1_
        replace BK221 := Aside0.mk (blk_drew BK221.out)
        have HBo := HB
        replace HB := Aside0.mk (below_drew1 HB.out)
        have p223 : 0 ≤ ((ji9) : Int) := dA
        have q223 : (ji9) < (l0.length : Int) := dA
        obtain ⟨ad223, e223, hx223_0, hx223_1, hx223_2, hx223_3⟩ := at_T90 HR0.out (ji9) p223 q223
        have hw223_3 := hx223_3
        have hw223_2 := hx223_2
        have hw223_1 := hx223_1
        have hw223_0 := hx223_0
        obtain rfl : ad220 = ad223 := (by injection e223)
        replace hx223_0 := hC HB hx223_0
        replace hx223_1 := hC HB hx223_1
        replace hx223_2 := hC HB hx223_2
        replace hx223_3 := hC HB hx223_3
        replace p223 := eq_true p223
        replace q223 := eq_true q223
        refine start_ (n := 18) (S := fun w' => w'.cell? ⟨gb221, 0, none⟩ = some (.int .i64 ((rd_T90 l0 x10_1).f0)) ∧ w'.cell? ⟨gb221, 1, none⟩ = some (.int .i64 ((rd_T90 l0 x10_1).f1)) ∧ w'.cell? ⟨gb221, 2, none⟩ = some (.int .i64 ((rd_T90 l0 x10_1).f2)) ∧ w'.cell? ⟨gb221, 3, none⟩ = some (.int .i64 ((rd_T90 l0 x10_1).f3)) ∧ w'.cell? (ad220.add (((ji9)).toNat * 4)) = some (.int .i64 ((rd_T90 l0 (ji9)).f0)) ∧ w'.cell? ⟨(ad220.add (((ji9)).toNat * 4)).block, (ad220.add (((ji9)).toNat * 4)).off + 1, none⟩ = some (.int .i64 ((rd_T90 l0 (ji9)).f1)) ∧ w'.cell? ⟨(ad220.add (((ji9)).toNat * 4)).block, (ad220.add (((ji9)).toNat * 4)).off + 2, none⟩ = some (.int .i64 ((rd_T90 l0 (ji9)).f2)) ∧ w'.cell? ⟨(ad220.add (((ji9)).toNat * 4)).block, (ad220.add (((ji9)).toNat * 4)).off + 3, none⟩ = some (.int .i64 ((rd_T90 l0 (ji9)).f3))) (ds := []) (mb 18 0) (by kernel_rfl) rfl rfl ⟨bC BK221 0, bC BK221 1, bC BK221 2, bC BK221 3, (hC HB hw223_0), (hC HB hw223_1), (hC HB hw223_2), (hC HB hw223_3)⟩ (fun hHeld => ?_); refine with_tabW impl_ArePaths.tab6 impl_ArePaths.bits6 (fun HT_ HW_ => ?_)
        generalize w20.drew = w21 at BK221 HB hx223_0 hx223_1 hx223_2 hx223_3 hHeld ⊢
        refine tA8 (i := 0) (N := some 15) (mb 18 1) HT_ HW_ hHeld ?_
        refine oA (i := 1) (N := some 16) (mb 18 3) HT_ (fun K hK => ?_)
        refine gA Try.func112 #[.agg #[.int .i64 ((rd_T90 l0 x10_1).f0), .int .i64 ((rd_T90 l0 x10_1).f1), .int .i64 ((rd_T90 l0 x10_1).f2), .int .i64 ((rd_T90 l0 x10_1).f3)]] ?_
        with_reducible refine (impl_IsPath.calls ((rd_T90 l0 x10_1).f0) ((rd_T90 l0 x10_1).f1) ((rd_T90 l0 x10_1).f2) ((rd_T90 l0 x10_1).f3) true _ A6.out).mono ?_
        rintro e w22 ⟨rfl, hb⟩
        refine ⟨_, rfl, ?_⟩
        replace BK221 := Aside0.mk (blk_below (g := gb221) (bK BK221) hb)
        replace HB := Aside0.mk (below_step bG hb)
        (try clear hb)
        (try clear hb2)
        (try clear hk)
        (try clear hi)
        refine hK.out _ _ ⟨bC BK221 0, bC BK221 1, bC BK221 2, bC BK221 3, (hC HB hw223_0), (hC HB hw223_1), (hC HB hw223_2), (hC HB hw223_3)⟩ (fun hHeld => ?_)
        clear hK K
        refine nB ?_
        refine pA (i := 2) (N := some 17) (mb 18 7) HT_ ?_
        refine pA (i := 3) (N := some 18) (mb 18 15) HT_ ?_
        refine pA (i := 4) (N := some 19) (mb 18 31) HT_ ?_
        refine pA (i := 5) (N := some 20) (mb 18 63) HT_ ?_
        refine pA (i := 6) (N := some 21) (mb 18 127) HT_ ?_
        refine pA (i := 7) (N := some 22) (mb 18 255) HT_ ?_
        refine pA (i := 9) (N := some 24) (mb 18 767) HT_ ?_
        refine pA (i := 10) (N := some 25) (mb 18 1791) HT_ ?_
        refine pA (i := 11) (N := some 26) (mb 18 3839) HT_ ?_
        refine pA (i := 12) (N := some 27) (mb 18 7935) HT_ ?_
        refine pA (i := 13) (N := some 28) (mb 18 16127) HT_ ?_
        refine tA8 (i := 8) (N := some 23) (mb 18 16383) HT_ HW_ hHeld ?_
        refine tA8 (i := 14) (N := some 29) (mb 18 32767) HT_ HW_ hHeld ?_
        refine pA (i := 15) (N := some 30) (mb 18 65535) HT_ ?_
        refine pA (i := 16) (N := some 31) (mb 18 131071) HT_ ?_
        refine pA (i := 17) (N := some 32) (mb 18 262143) HT_ ?_
        refine eA HT_ ?_
        try go_wp2
        go_roundg k1
        case measure => have := HK1.out; omega
        case rel => exact ⟨(wrap64 (x10_1 + 1)), rS, H', ⟨by have := HK1.out; omega⟩, ⟨bG⟩⟩
      ·
       rw [if_neg c8] at H
       have c8b0 : decide (0 < x10_1) = false := decide_eq_false c8
       clear c8
       have H' := Aside0.mk H
       clear H
       have p220 : 0 ≤ (x10_1 : Int) := dA
       have q220 : x10_1 < (l0.length : Int) := dA
       obtain ⟨ad220, e220, hx220_0, hx220_1, hx220_2, hx220_3⟩ := at_T90 HR0.out x10_1 p220 q220
       cases e220
       replace hx220_0 := hC HB hx220_0
       replace hx220_1 := hC HB hx220_1
       replace hx220_2 := hC HB hx220_2
       replace hx220_3 := hC HB hx220_3
       replace p220 := eq_true p220
       replace q220 := eq_true q220
       try go_wp2_with (first | ((with_reducible refine gate_dst (N := 4) rfl ?_); refine bE (N := 4) (cs := #[.int .i64 0, .int .i64 0, .int .i64 0, .int .i64 0]) (t := 90) ?_; intro gb221 hg w23 hbox hb; have n0_ := Aside0.mk (below_step bA hb); have n1_ := Aside0.mk (hbox); have n2_ := Aside0.mk ((by rw [hg]; exact (below_size bA) : w.heap.size ≤ gb221)); have n3_ := Aside0.mk ((by rw [hg]; exact (below_size bA) : w.heap.size ≤ gb221)); clear HB; have HB := n0_; have BK221 := n1_; have GW221 := n2_; have GE221 := n3_; clear n0_ n1_ n2_ n3_; clear hb hbox hg; obtain ⟨hcz24_0, hcz24_1, hcz24_2, hcz24_3, hfz24_0, hfz24_1, hfz24_2, hfz24_3⟩ := blkc4 BK221))
       have n0_ : Aside0 (((((w23.setCell ⟨gb221, 0, none⟩ (.int .i64 ((rd_T90 l0 x10_1).f0))).setCell ⟨gb221, 1, none⟩ (.int .i64 ((rd_T90 l0 x10_1).f1))).setCell ⟨gb221, 2, none⟩ (.int .i64 ((rd_T90 l0 x10_1).f2))).setCell ⟨gb221, 3, none⟩ (.int .i64 ((rd_T90 l0 x10_1).f3))).heap[gb221]? = some (.cells #[.int .i64 ((rd_T90 l0 x10_1).f0), .int .i64 ((rd_T90 l0 x10_1).f1), .int .i64 ((rd_T90 l0 x10_1).f2), .int .i64 ((rd_T90 l0 x10_1).f3)] 90 (0, 0))) := ⟨by (with_reducible repeat (first | refine blk_drewN ?_ _ | refine blk_drew ?_ | refine blk_alloc ?_ _)); refine blk_put (cs := #[.int .i64 ((rd_T90 l0 x10_1).f0), .int .i64 ((rd_T90 l0 x10_1).f1), .int .i64 ((rd_T90 l0 x10_1).f2), .int .i64 0]) ?_ 3 _ rfl; (with_reducible repeat (first | refine blk_drewN ?_ _ | refine blk_drew ?_ | refine blk_alloc ?_ _)); refine blk_put (cs := #[.int .i64 ((rd_T90 l0 x10_1).f0), .int .i64 ((rd_T90 l0 x10_1).f1), .int .i64 0, .int .i64 0]) ?_ 2 _ rfl; (with_reducible repeat (first | refine blk_drewN ?_ _ | refine blk_drew ?_ | refine blk_alloc ?_ _)); refine blk_put (cs := #[.int .i64 ((rd_T90 l0 x10_1).f0), .int .i64 0, .int .i64 0, .int .i64 0]) ?_ 1 _ rfl; (with_reducible repeat (first | refine blk_drewN ?_ _ | refine blk_drew ?_ | refine blk_alloc ?_ _)); refine blk_put (cs := #[.int .i64 0, .int .i64 0, .int .i64 0, .int .i64 0]) ?_ 0 _ rfl; (with_reducible repeat (first | refine blk_drewN ?_ _ | refine blk_drew ?_ | refine blk_alloc ?_ _)); exact BK221.out⟩
       have n1_ : Aside0 (Below w.heap.size w ((((w23.setCell ⟨gb221, 0, none⟩ (.int .i64 ((rd_T90 l0 x10_1).f0))).setCell ⟨gb221, 1, none⟩ (.int .i64 ((rd_T90 l0 x10_1).f1))).setCell ⟨gb221, 2, none⟩ (.int .i64 ((rd_T90 l0 x10_1).f2))).setCell ⟨gb221, 3, none⟩ (.int .i64 ((rd_T90 l0 x10_1).f3)))) := ⟨bG⟩
       (try clear BK221)
       (try clear HB)
       generalize ((((w23.setCell ⟨gb221, 0, none⟩ (.int .i64 ((rd_T90 l0 x10_1).f0))).setCell ⟨gb221, 1, none⟩ (.int .i64 ((rd_T90 l0 x10_1).f1))).setCell ⟨gb221, 2, none⟩ (.int .i64 ((rd_T90 l0 x10_1).f2))).setCell ⟨gb221, 3, none⟩ (.int .i64 ((rd_T90 l0 x10_1).f3))) = w25 at n0_ n1_ ⊢
       have BK221 := n0_
       have HB := n1_
       clear n0_ n1_
       replace BK221 := Aside0.mk (blk_drew BK221.out)
       have HBo := HB
       replace HB := Aside0.mk (below_drew1 HB.out)
       refine start_ (n := 18) (S := fun w' => w'.cell? ⟨gb221, 0, none⟩ = some (.int .i64 ((rd_T90 l0 x10_1).f0)) ∧ w'.cell? ⟨gb221, 1, none⟩ = some (.int .i64 ((rd_T90 l0 x10_1).f1)) ∧ w'.cell? ⟨gb221, 2, none⟩ = some (.int .i64 ((rd_T90 l0 x10_1).f2)) ∧ w'.cell? ⟨gb221, 3, none⟩ = some (.int .i64 ((rd_T90 l0 x10_1).f3))) (ds := []) (mb 18 0) (by kernel_rfl) rfl rfl ⟨bC BK221 0, bC BK221 1, bC BK221 2, bC BK221 3⟩ (fun hHeld => ?_); refine with_tabW impl_ArePaths.tab6 impl_ArePaths.bits6 (fun HT_ HW_ => ?_)
       generalize w25.drew = w26 at BK221 HB hHeld ⊢
       refine tA4 (i := 0) (N := some 15) (mb 18 1) HT_ HW_ hHeld ?_
       refine oA (i := 1) (N := some 16) (mb 18 3) HT_ (fun K hK => ?_)
       refine gA Try.func112 #[.agg #[.int .i64 ((rd_T90 l0 x10_1).f0), .int .i64 ((rd_T90 l0 x10_1).f1), .int .i64 ((rd_T90 l0 x10_1).f2), .int .i64 ((rd_T90 l0 x10_1).f3)]] ?_
       with_reducible refine (impl_IsPath.calls ((rd_T90 l0 x10_1).f0) ((rd_T90 l0 x10_1).f1) ((rd_T90 l0 x10_1).f2) ((rd_T90 l0 x10_1).f3) true _ A6.out).mono ?_
       rintro e w27 ⟨rfl, hb⟩
       refine ⟨_, rfl, ?_⟩
       replace BK221 := Aside0.mk (blk_below (g := gb221) (bK BK221) hb)
       replace HB := Aside0.mk (below_step bG hb)
       (try clear hb)
       (try clear hb2)
       (try clear hk)
       (try clear hi)
       refine hK.out _ _ ⟨bC BK221 0, bC BK221 1, bC BK221 2, bC BK221 3⟩ (fun hHeld => ?_)
       clear hK K
       refine nB ?_
       refine pA (i := 2) (N := some 17) (mb 18 7) HT_ ?_
       refine pA (i := 3) (N := some 18) (mb 18 15) HT_ ?_
       refine pA (i := 4) (N := some 19) (mb 18 31) HT_ ?_
       refine pA (i := 5) (N := some 20) (mb 18 63) HT_ ?_
       refine pA (i := 6) (N := some 21) (mb 18 127) HT_ ?_
       refine pU (i := 7) (N := some 22) (mb 18 255) HT_ ?_
       refine pU (i := 8) (N := some 23) (mb 18 511) HT_ ?_
       refine pU (i := 9) (N := some 24) (mb 18 1023) HT_ ?_
       refine pU (i := 10) (N := some 25) (mb 18 2047) HT_ ?_
       refine pU (i := 11) (N := some 26) (mb 18 4095) HT_ ?_
       refine pU (i := 12) (N := some 27) (mb 18 8191) HT_ ?_
       refine pU (i := 13) (N := some 28) (mb 18 16383) HT_ ?_
       refine pU (i := 14) (N := some 29) (mb 18 32767) HT_ ?_
       refine pU (i := 15) (N := some 30) (mb 18 65535) HT_ ?_
       refine pA (i := 16) (N := some 31) (mb 18 131071) HT_ ?_
       refine pA (i := 17) (N := some 32) (mb 18 262143) HT_ ?_
       refine eA HT_ ?_
       try go_wp2
       go_roundg k1
       case measure => have := HK1.out; omega
       case rel => exact ⟨(wrap64 (x10_1 + 1)), rS, H', ⟨by have := HK1.out; omega⟩, ⟨bG⟩⟩
     ·
      replace c7 := Bool.eq_false_iff.mpr c7
      subst c7
      have H1 : (some false) = some r := by rw [if_neg (show ¬ (false = true) by decide)] at H; exact H
      clear H
      have H := H1
      clear H1
      obtain rfl := Option.some.inj H
      have p220 : 0 ≤ (x10_1 : Int) := dA
      have q220 : x10_1 < (l0.length : Int) := dA
      obtain ⟨ad220, e220, hx220_0, hx220_1, hx220_2, hx220_3⟩ := at_T90 HR0.out x10_1 p220 q220
      cases e220
      replace hx220_0 := hC HB hx220_0
      replace hx220_1 := hC HB hx220_1
      replace hx220_2 := hC HB hx220_2
      replace hx220_3 := hC HB hx220_3
      replace p220 := eq_true p220
      replace q220 := eq_true q220
      try go_wp2_with (first | ((with_reducible refine gate_dst (N := 4) rfl ?_); refine bE (N := 4) (cs := #[.int .i64 0, .int .i64 0, .int .i64 0, .int .i64 0]) (t := 90) ?_; intro gb221 hg w28 hbox hb; have n0_ := Aside0.mk (below_step bA hb); have n1_ := Aside0.mk (hbox); have n2_ := Aside0.mk ((by rw [hg]; exact (below_size bA) : w.heap.size ≤ gb221)); have n3_ := Aside0.mk ((by rw [hg]; exact (below_size bA) : w.heap.size ≤ gb221)); clear HB; have HB := n0_; have BK221 := n1_; have GW221 := n2_; have GE221 := n3_; clear n0_ n1_ n2_ n3_; clear hb hbox hg; obtain ⟨hcz29_0, hcz29_1, hcz29_2, hcz29_3, hfz29_0, hfz29_1, hfz29_2, hfz29_3⟩ := blkc4 BK221))
      have n0_ : Aside0 (((((w28.setCell ⟨gb221, 0, none⟩ (.int .i64 ((rd_T90 l0 x10_1).f0))).setCell ⟨gb221, 1, none⟩ (.int .i64 ((rd_T90 l0 x10_1).f1))).setCell ⟨gb221, 2, none⟩ (.int .i64 ((rd_T90 l0 x10_1).f2))).setCell ⟨gb221, 3, none⟩ (.int .i64 ((rd_T90 l0 x10_1).f3))).heap[gb221]? = some (.cells #[.int .i64 ((rd_T90 l0 x10_1).f0), .int .i64 ((rd_T90 l0 x10_1).f1), .int .i64 ((rd_T90 l0 x10_1).f2), .int .i64 ((rd_T90 l0 x10_1).f3)] 90 (0, 0))) := ⟨by (with_reducible repeat (first | refine blk_drewN ?_ _ | refine blk_drew ?_ | refine blk_alloc ?_ _)); refine blk_put (cs := #[.int .i64 ((rd_T90 l0 x10_1).f0), .int .i64 ((rd_T90 l0 x10_1).f1), .int .i64 ((rd_T90 l0 x10_1).f2), .int .i64 0]) ?_ 3 _ rfl; (with_reducible repeat (first | refine blk_drewN ?_ _ | refine blk_drew ?_ | refine blk_alloc ?_ _)); refine blk_put (cs := #[.int .i64 ((rd_T90 l0 x10_1).f0), .int .i64 ((rd_T90 l0 x10_1).f1), .int .i64 0, .int .i64 0]) ?_ 2 _ rfl; (with_reducible repeat (first | refine blk_drewN ?_ _ | refine blk_drew ?_ | refine blk_alloc ?_ _)); refine blk_put (cs := #[.int .i64 ((rd_T90 l0 x10_1).f0), .int .i64 0, .int .i64 0, .int .i64 0]) ?_ 1 _ rfl; (with_reducible repeat (first | refine blk_drewN ?_ _ | refine blk_drew ?_ | refine blk_alloc ?_ _)); refine blk_put (cs := #[.int .i64 0, .int .i64 0, .int .i64 0, .int .i64 0]) ?_ 0 _ rfl; (with_reducible repeat (first | refine blk_drewN ?_ _ | refine blk_drew ?_ | refine blk_alloc ?_ _)); exact BK221.out⟩
      have n1_ : Aside0 (Below w.heap.size w ((((w28.setCell ⟨gb221, 0, none⟩ (.int .i64 ((rd_T90 l0 x10_1).f0))).setCell ⟨gb221, 1, none⟩ (.int .i64 ((rd_T90 l0 x10_1).f1))).setCell ⟨gb221, 2, none⟩ (.int .i64 ((rd_T90 l0 x10_1).f2))).setCell ⟨gb221, 3, none⟩ (.int .i64 ((rd_T90 l0 x10_1).f3)))) := ⟨bG⟩
      (try clear BK221)
      (try clear HB)
      generalize ((((w28.setCell ⟨gb221, 0, none⟩ (.int .i64 ((rd_T90 l0 x10_1).f0))).setCell ⟨gb221, 1, none⟩ (.int .i64 ((rd_T90 l0 x10_1).f1))).setCell ⟨gb221, 2, none⟩ (.int .i64 ((rd_T90 l0 x10_1).f2))).setCell ⟨gb221, 3, none⟩ (.int .i64 ((rd_T90 l0 x10_1).f3))) = w30 at n0_ n1_ ⊢
      have BK221 := n0_
      have HB := n1_
      clear n0_ n1_
      replace BK221 := Aside0.mk (blk_drew BK221.out)
      have HBo := HB
      replace HB := Aside0.mk (below_drew1 HB.out)
      refine start_ (n := 18) (S := fun w' => w'.cell? ⟨gb221, 0, none⟩ = some (.int .i64 ((rd_T90 l0 x10_1).f0)) ∧ w'.cell? ⟨gb221, 1, none⟩ = some (.int .i64 ((rd_T90 l0 x10_1).f1)) ∧ w'.cell? ⟨gb221, 2, none⟩ = some (.int .i64 ((rd_T90 l0 x10_1).f2)) ∧ w'.cell? ⟨gb221, 3, none⟩ = some (.int .i64 ((rd_T90 l0 x10_1).f3))) (ds := []) (mb 18 0) (by kernel_rfl) rfl rfl ⟨bC BK221 0, bC BK221 1, bC BK221 2, bC BK221 3⟩ (fun hHeld => ?_); refine with_tabW impl_ArePaths.tab6 impl_ArePaths.bits6 (fun HT_ HW_ => ?_)
      generalize w30.drew = w31 at BK221 HB hHeld ⊢
      refine tA4 (i := 0) (N := some 15) (mb 18 1) HT_ HW_ hHeld ?_
      refine oA (i := 1) (N := some 16) (mb 18 3) HT_ (fun K hK => ?_)
      refine gA Try.func112 #[.agg #[.int .i64 ((rd_T90 l0 x10_1).f0), .int .i64 ((rd_T90 l0 x10_1).f1), .int .i64 ((rd_T90 l0 x10_1).f2), .int .i64 ((rd_T90 l0 x10_1).f3)]] ?_
      with_reducible refine (impl_IsPath.calls ((rd_T90 l0 x10_1).f0) ((rd_T90 l0 x10_1).f1) ((rd_T90 l0 x10_1).f2) ((rd_T90 l0 x10_1).f3) false _ A6.out).mono ?_
      rintro e w32 ⟨rfl, hb⟩
      refine ⟨_, rfl, ?_⟩
      replace BK221 := Aside0.mk (blk_below (g := gb221) (bK BK221) hb)
      replace HB := Aside0.mk (below_step bG hb)
      (try clear hb)
      (try clear hb2)
      (try clear hk)
      (try clear hi)
      refine hK.out _ _ ⟨bC BK221 0, bC BK221 1, bC BK221 2, bC BK221 3⟩ (fun hHeld => ?_)
      clear hK K
      refine nB ?_
      refine pA (i := 2) (N := some 17) (mb 18 7) HT_ ?_
      refine pA (i := 3) (N := some 18) (mb 18 15) HT_ ?_
      refine pU (i := 4) (N := some 19) (mb 18 31) HT_ ?_
      refine pU (i := 5) (N := some 20) (mb 18 63) HT_ ?_
      refine pU (i := 6) (N := some 21) (mb 18 127) HT_ ?_
      refine pU (i := 7) (N := some 22) (mb 18 255) HT_ ?_
      refine pU (i := 8) (N := some 23) (mb 18 511) HT_ ?_
      refine pU (i := 9) (N := some 24) (mb 18 1023) HT_ ?_
      refine pU (i := 10) (N := some 25) (mb 18 2047) HT_ ?_
      refine pU (i := 11) (N := some 26) (mb 18 4095) HT_ ?_
      refine pU (i := 12) (N := some 27) (mb 18 8191) HT_ ?_
      refine pU (i := 13) (N := some 28) (mb 18 16383) HT_ ?_
      refine pU (i := 14) (N := some 29) (mb 18 32767) HT_ ?_
      refine pU (i := 15) (N := some 30) (mb 18 65535) HT_ ?_
      refine pU (i := 16) (N := some 31) (mb 18 131071) HT_ ?_
      refine pA (i := 17) (N := some 32) (mb 18 262143) HT_ ?_
      refine eA HT_ ?_
      try go_wp2
      go_ret
      exact ⟨rA, bG⟩
    ·
     rw [if_neg c3] at H
     have c3b0 : decide (x10_1 < (l0.length : Int)) = false := decide_eq_false c3
     clear c3
     obtain rfl := Option.some.inj H
     go_wp2
     go_ret
     exact ⟨rA, bA⟩

/-! ### impl_FindPath: function 84 -/
def impl_FindPath.q (id : Int) (x : S90) : Bool := decide (x.f0 = id)
set_option maxHeartbeats 400000 in
set_option maxRecDepth 100000 in
theorem impl_FindPath.clo (id : Int) (g : Nat) (x : S90) (w : World) (hc : w.cell? ⟨g, 0, none⟩ = some (.int .i64 id)) :
  Calls Try.prog 114 #[.agg #[.int .i64 x.f0, .int .i64 x.f1, .int .i64 x.f2, .int .i64 x.f3], .pointer (some ⟨g, 0, none⟩)] w fun e w' => e = .returned (.bool (impl_FindPath.q id x)) ∧ Below w.heap.size w w' := by
 have hu := Try.underlying90
 have hg : g < w.heap.size := World.block_lt_of_cell? w _ hc
 go_enter Try.func114, Try.ntmps114
 go_wp2
 go_ret
 exact ⟨by unfold impl_FindPath.q; first | rfl | simp, (Below.refl _ _).alloc (Nat.le_refl _) _⟩
def impl_FindPath.ix (id : Int) : List S90 → Int → Int
 | [], _ => -1
 | x :: l, i => if impl_FindPath.q id x = true then i else impl_FindPath.ix id l (i + 1)
theorem impl_FindPath.ix_hit (id : Int) : ∀ (l : List S90) (i : Int) (m : Nat) (hm : m < l.length), (∀ j (hj : j < m), impl_FindPath.q id (l[j]'(by omega)) = false) → impl_FindPath.q id l[m] = true → impl_FindPath.ix id l i = i + m
 | [], i, m, hm, _, _ => absurd hm (by simp)
 | p :: l, i, 0, hm, _, h => by
  unfold impl_FindPath.ix
  rw [if_pos (show impl_FindPath.q id p = true from h)]
  simp
 | p :: l, i, m + 1, hm, hne, h => by
  unfold impl_FindPath.ix
  have h2 : impl_FindPath.q id p = false := hne 0 (by omega)
  rw [if_neg (by rw [h2]; decide), impl_FindPath.ix_hit id l (i + 1) m (by simpa using hm) (fun j hj => hne (j + 1) (by omega)) h]
  omega
theorem impl_FindPath.ix_miss (id : Int) : ∀ (l : List S90) (i : Int), (∀ j (hj : j < l.length), impl_FindPath.q id l[j] = false) → impl_FindPath.ix id l i = -1
 | [], i, _ => rfl
 | p :: l, i, h => by
  unfold impl_FindPath.ix
  have h2 : impl_FindPath.q id p = false := h 0 (by simp)
  rw [if_neg (by rw [h2]; decide), impl_FindPath.ix_miss id l (i + 1) (fun j hj => h (j + 1) (by simpa using hj))]
theorem impl_FindPath.rd_ (l : List S90) (j : Nat) (hj : j < l.length) : rd_T90 l (j : Int) = l[j] := by
 unfold rd_T90; simp [List.getD_eq_getElem?_getD, List.getElem?_eq_getElem hj]
set_option maxHeartbeats 4000000 in
set_option maxRecDepth 100000 in
theorem impl_FindPath.idx (id : Int) (g : Nat) (A0 : Option Addr) (c0 : Nat) (l0 : List S90) (w : World) (hr0 : Kd.C k90 w A0 l0.length l0) (hc0 : l0.length ≤ c0) (hc : w.cell? ⟨g, 0, none⟩ = some (.int .i64 id)) :
  Calls Try.prog 113 #[.slice A0 l0.length c0, .func (.func 114) #[] #[.pointer (some ⟨g, 0, none⟩)]] w fun e w' => e = .returned (.int .i64 (impl_FindPath.ix id l0 0)) ∧ Below w.heap.size w w' := by
 have hu := Try.underlying90
 have HC := Aside0.mk hc
 clear hc
 have HR0 := Aside0.mk hr0
 have HC0 := Aside0.mk hc0
 have hlen : l0.length ≤ 9223372036854775807 := hr0.2.1
 clear hr0 hc0
 have HB := Aside0.mk (Below.refl w.heap.size w)
 go_enter Try.func113, Try.ntmps113
 go_wp2
 go_loopg [5, 8] l0.length (fun gg v5 v8 w' => ∃ kk : Nat, v8 = .int .i64 kk ∧ Aside0 (kk ≤ l0.length) ∧ Aside0 (l0.length - kk ≤ gg) ∧ Aside0 (Below w.heap.size w w') ∧ Aside0 (∀ j (hj : j < kk) (hl : j < l0.length), impl_FindPath.q id l0[j] = false))
 case atStart => exact ⟨0, rfl, ⟨Nat.zero_le _⟩, ⟨by omega⟩, HB, ⟨fun j hj => absurd hj (Nat.not_lt_zero _)⟩⟩
 case round =>
  clear HB
  obtain ⟨kk, rfl, hk, hg, HB, HA⟩ := hrel
  by_cases hlt : kk < l0.length
  ·
   have hltz : decide ((kk : Int) < (l0.length : Int)) = true := decide_eq_true (by omega)
   have hltn : decide (kk < l0.length) = true := decide_eq_true hlt
   have p0 : (0 : Int) ≤ (kk : Int) := by omega
   have q0 : (kk : Int) < (l0.length : Int) := by omega
   have HE := Aside0.mk (impl_FindPath.rd_ l0 kk hlt)
   obtain ⟨ad, e1, hx0, hx1, hx2, hx3⟩ := at_T90 HR0.out (kk : Int) p0 q0
   cases e1
   rw [Int.toNat_natCast] at hx0 hx1 hx2 hx3
   replace hx0 := hC HB hx0
   replace hx1 := hC HB hx1
   replace hx2 := hC HB hx2
   replace hx3 := hC HB hx3
   replace p0 := eq_true p0
   replace q0 := eq_true q0
   have hcl := fun (w' : World) (hb : Below w.heap.size w w') => impl_FindPath.clo id g (rd_T90 l0 (kk : Int)) w' ((hb.cell (World.block_lt_of_cell? w _ HC.out)).trans HC.out)
   cases hq : impl_FindPath.q id (rd_T90 l0 (kk : Int)) with
   | true =>
    rw [hq] at hcl
    have HCL := Aside0.mk hcl
    have HQ := Aside0.mk hq
    clear hcl hq
    go_wp2_with (go_at_call 114; refine (HCL.out _ HB.out).mono ?_; rintro e w1 ⟨rfl, hb1⟩)
    go_ret
    refine ⟨?_, below_step HB.out hb1⟩
    have hq := HQ.out
    rw [HE.out] at hq
    rw [impl_FindPath.ix_hit id l0 0 kk hlt (fun j hj => HA.out j hj (by omega)) hq, Int.zero_add]
    rfl
   | false =>
    rw [hq] at hcl
    have HCL := Aside0.mk hcl
    have HQ := Aside0.mk hq
    clear hcl hq
    go_wp2_with (go_at_call 114; refine (HCL.out _ HB.out).mono ?_; rintro e w1 ⟨rfl, hb1⟩)
    go_roundg (l0.length - (kk + 1))
    case measure => have := hg.out; omega
    case rel =>
     refine ⟨kk + 1, by go_num, ⟨by omega⟩, ⟨by omega⟩, ⟨below_step HB.out hb1⟩, ⟨fun j hj hl => ?_⟩⟩
     rcases Nat.lt_or_ge j kk with h3 | h3
     ·
      exact HA.out j h3 hl
     ·
      have h4 : j = kk := by omega
      subst h4
      rw [← HE.out]
      exact HQ.out
  ·
   have hge : decide ((kk : Int) < (l0.length : Int)) = false := decide_eq_false (by omega)
   have hgen : decide (kk < l0.length) = false := decide_eq_false hlt
   go_wp2
   go_ret
   refine ⟨?_, HB.out⟩
   rw [impl_FindPath.ix_miss id l0 0 (fun j hj => HA.out j (by omega) hj)]
   rfl

def impl_FindPath.f (l0 : List S90) (a1 : Int) : Option Int := some (impl_FindPath.ix a1 l0 0)
set_option maxHeartbeats 400000 in
set_option maxRecDepth 100000 in
theorem impl_FindPath.calls (A0 : Option Addr) (c0 : Nat) (l0 : List S90) (a1 : Int) (r : Int) (w : World) (hr0 : Kd.C k90 w A0 l0.length l0) (hc0 : l0.length ≤ c0) (h : impl_FindPath.f l0 a1 = some r) :
  Calls Try.prog 84 #[.slice A0 l0.length c0, .int .i64 a1] w fun e w' => e = .returned (.int .i64 r) ∧ Below w.heap.size w w' := by
 obtain rfl := Option.some.inj h
 have HR0 := Aside0.mk hr0
 have HC0 := Aside0.mk hc0
 clear hr0 hc0 h
 go_enter Try.func84, Try.ntmps84
 go_wp2_with (go_at_call 113; refine (impl_FindPath.idx a1 w.heap.size A0 c0 l0 _ ?s1 HC0.out ?s2).mono ?_; (case s1 => exact Kd.C_alloc HR0.out _); (case s2 => simp); rintro e w1 ⟨rfl, hb1⟩)
 go_ret
 exact ⟨rfl, below_step (below_alloc (Below.refl _ _) _) hb1⟩

/-! ### impl_AreWants: function 36 -/
def impl_AreWants.l0 : Nat → List (S90) → List (S87) → List (S87) → Int → Int → Option (Bool)
 | 0, _, _, _, _, _ => none
 | k + 1, x0, x1, x10, x11, x12 => if x12 < x11 then (if 0 ≤ x12 then (if x12 < (x10.length : Int) then ((impl_FindPath.f x0 ((rd_T87 x10 x12).f0)).bind fun t227 => (if t227 < 0 then (some false) else ((impl_InRange.f ((rd_T87 x10 x12).f1) 0 100000).bind fun t228 => (if t228 = true then (if x12 > 0 then (if 0 ≤ (wrap64 (x12 - 1)) then (if (wrap64 (x12 - 1)) < (x1.length : Int) then (if ((rd_T87 x10 x12).f0) ≤ ((rd_T87 x1 (wrap64 (x12 - 1))).f0) then (some false) else (impl_AreWants.l0 k x0 x1 x10 x11 (wrap64 (x12 + 1)))) else (none)) else (none)) else (impl_AreWants.l0 k x0 x1 x10 x11 (wrap64 (x12 + 1)))) else (some false))))) else (none)) else (none)) else (some true)
def impl_AreWants.f (k : Nat) (l0 : List (S90)) (l1 : List (S87)) : Option (Bool) := (impl_ArePaths.f k l0).bind fun t224 => (if t224 = true then (impl_AreWants.l0 k l0 l1 l1 (l1.length : Int) 0) else (some false))
theorem impl_AreWants.mono_l : ∀ k, (∀ y0 y1 y2 y3 y4, LeO (impl_AreWants.l0 k y0 y1 y2 y3 y4) (impl_AreWants.l0 (k + 1) y0 y1 y2 y3 y4))
 | 0 => fun _ _ _ _ _ r h => by simp [impl_AreWants.l0] at h
 | k + 1 => by
  have ih0 := impl_AreWants.mono_l k
  ·
   intro y0 y1 y2 y3 y4
   unfold impl_AreWants.l0
   repeat' first | (with_reducible first | exact LeO.refl _ | exact LeO.none _ | refine LeO.ite ?_ ?_ | refine LeO.bind ?_ (fun _ => ?_) | exact ih0 _ _ _ _ _ | exact impl_ArePaths.mono _ _) | exact LeO.none _ | refine LeO.ite ?_ ?_ | refine LeO.bind ?_ (fun _ => ?_) | exact ih0 _ _ _ _ _ | exact impl_ArePaths.mono _ _
theorem impl_AreWants.mono : ∀ a0 a1 k, LeO (impl_AreWants.f k a0 a1) (impl_AreWants.f (k + 1) a0 a1) := by
 intro a0 a1 k
 have ih0 := impl_AreWants.mono_l k
 unfold impl_AreWants.f
 repeat' first | (with_reducible first | exact LeO.refl _ | exact LeO.none _ | refine LeO.ite ?_ ?_ | refine LeO.bind ?_ (fun _ => ?_) | exact ih0 _ _ _ _ _ | exact impl_ArePaths.mono _ _) | exact LeO.none _ | refine LeO.ite ?_ ?_ | refine LeO.bind ?_ (fun _ => ?_) | exact ih0 _ _ _ _ _ | exact impl_ArePaths.mono _ _
def impl_AreWants.T6 : Bool × List (List Nat × List Nat) := (true, [([], []), ([], []), ([1], [1]), ([0, 2], [0, 2]), ([3], [3]), ([4, 3], [4]), ([5], [5]), ([6, 5], [5, 6]), ([7, 5, 5], [5, 7]), ([8, 5], [5, 8]), ([5, 9], [5, 9]), ([10, 8], [10]), ([11], [11]), ([12, 11], [11, 12]), ([13, 11, 11], [11, 13]), ([14], [14]), ([15, 14], [14, 15]), ([14], [14]), ([14], [14]), ([18, 14], [14, 18]), ([17, 19, 14], [14, 17, 19]), ([20, 14], [14, 20]), ([21, 14], [14, 21]), ([16, 22, 14], [14, 16, 22]), ([14, 23, 11], [11, 14, 23]), ([11, 24], [11, 24])])
def impl_AreWants.B6 : List Nat := [0, 0, 2, 7, 15, 31, 63, 127, 255, 511, 1023, 2047, 4095, 8191, 16383, 32767, 65535, 32767, 32767, 294911, 950271, 1998847, 4095999, 8388607, 16777215, 33554431]
theorem impl_AreWants.tab6 : rtab .any (opsOf Try.f36 6) = impl_AreWants.T6 := by kernel_rfl
theorem impl_AreWants.bits6 : waitsOk impl_AreWants.T6.2 impl_AreWants.B6 = true := by kernel_rfl
set_option maxHeartbeats 8000000 in
set_option maxRecDepth 100000 in
theorem impl_AreWants.calls (k : Nat) (A0 : Option Addr) (c0 : Nat) (l0 : List (S90)) (A1 : Option Addr) (c1 : Nat) (l1 : List (S87)) (r : Bool) (w : World) (hr0 : Kd.C k90 w A0 l0.length l0) (hc0 : l0.length ≤ c0) (hr1 : Kd.C k87 w A1 l1.length l1) (hc1 : l1.length ≤ c1) (h : impl_AreWants.f k l0 l1 = some r) :
  Calls Try.prog 36 #[.slice A0 l0.length c0, .slice A1 l1.length c1] w fun e w' => e = .returned (.bool r) ∧ Below w.heap.size w w' := by
 have hu87 := Try.underlying87
 have HR0 := Aside0.mk hr0
 have HC0 := Aside0.mk hc0
 clear hr0 hc0
 have HR1 := Aside0.mk hr1
 have HC1 := Aside0.mk hc1
 clear hr1 hc1
 have HB := Aside0.mk (Below.refl w.heap.size w)
 have H : ((impl_ArePaths.f k l0).bind fun t224 => (if t224 = true then (impl_AreWants.l0 k l0 l1 l1 (l1.length : Int) 0) else (some false))) = some r := h
 clear h
 obtain ⟨t224, A3, H⟩ := bindE H
 try dsimp only at H
 by_cases c4 : t224 = true
 ·
  subst c4
  have H1 : (impl_AreWants.l0 k l0 l1 l1 (l1.length : Int) 0) = some r := by rw [if_pos rfl] at H; exact H
  clear H
  have H := H1
  clear H1
  have H' := Aside0.mk H
  clear H
  go_enter Try.func36, Try.ntmps36
  go_wp2_with (first | ((with_reducible refine gate_callee (f := 83) rfl ?_); refine gL (some 8) Try.func83 #[.slice A0 l0.length c0] ?_; (with_reducible refine (impl_ArePaths.calls k _ _ l0 true _ ?side1 ?side2 A3.out).mono ?_); (case side1 => exact cO HR0); (case side2 => exact HC0.out); rintro e w5 ⟨rfl, hb⟩; refine ⟨_, rfl, ?_⟩; replace HB := Aside0.mk (below_step bA hb); (try clear hb); (try clear hb2); (try clear hk); (try clear hi)))
  go_loopg [12] k (fun kq v12 w' => ∃ (x12_1 : Int), v12 = .int .i64 x12_1 ∧ Aside0 (impl_AreWants.l0 kq l0 l1 l1 (l1.length : Int) x12_1 = some r) ∧ Aside0 (kq ≤ k) ∧ Aside0 (Below w.heap.size w w'))
  case atStart => exact ⟨(0), rS, H', ⟨Nat.le_refl _⟩, ⟨bA⟩⟩
  case round =>
   clear H'
   try clear c1
   try clear p2
   try clear c3
   try clear c4
   obtain ⟨x12_1, rfl, HA, HK1, HB⟩ := hrel
   cases gk with
   | zero => exact absurd HA.out (by simp [impl_AreWants.l0])
   | succ k1 =>
    have H := HA.out
    clear HA
    simp only [impl_AreWants.l0] at H
    by_cases c6 : x12_1 < (l1.length : Int)
    ·
     rw [if_pos c6] at H
     have c6b0 : decide (x12_1 < (l1.length : Int)) = true := decide_eq_true c6
     clear c6
     have c7 : 0 ≤ x12_1 := ifN H
     replace H := ifT H
     have c7b0 : decide (0 ≤ x12_1) = true := decide_eq_true c7
     clear c7
     have c8 : x12_1 < (l1.length : Int) := ifN H
     replace H := ifT H
     have c8b0 : decide (x12_1 < (l1.length : Int)) = true := decide_eq_true c8
     clear c8
     obtain ⟨t227, A9, H⟩ := bindE H
     try dsimp only at H
     by_cases c10 : t227 < 0
     ·
      rw [if_pos c10] at H
      have c10b0 : decide (t227 < 0) = true := decide_eq_true c10
      clear c10
      obtain rfl := Option.some.inj H
      have p225 : 0 ≤ (x12_1 : Int) := dA
      have q225 : x12_1 < (l1.length : Int) := dA
      obtain ⟨ad225, e225, hx225_0, hx225_1⟩ := at_T87 HR1.out x12_1 p225 q225
      cases e225
      replace hx225_0 := hC HB hx225_0
      replace hx225_1 := hC HB hx225_1
      replace p225 := eq_true p225
      replace q225 := eq_true q225
      try go_wp2_with (first | ((with_reducible refine gate_dst (N := 6) rfl ?_); refine bE (N := 6) (cs := #[.int .i64 0, .int .i64 0]) (t := 87) ?_; intro gb226 hg w11 hbox hb; have n0_ := Aside0.mk (below_step bA hb); have n1_ := Aside0.mk (hbox); have n2_ := Aside0.mk ((by rw [hg]; exact (below_size bA) : w.heap.size ≤ gb226)); have n3_ := Aside0.mk ((by rw [hg]; exact (below_size bA) : w.heap.size ≤ gb226)); clear HB; have HB := n0_; have BK226 := n1_; have GW226 := n2_; have GE226 := n3_; clear n0_ n1_ n2_ n3_; clear hb hbox hg; obtain ⟨hcz12_0, hcz12_1, hfz12_0, hfz12_1⟩ := blkc2 BK226))
      have n0_ : Aside0 (((w11.setCell ⟨gb226, 0, none⟩ (.int .i64 ((rd_T87 l1 x12_1).f0))).setCell ⟨gb226, 1, none⟩ (.int .i64 ((rd_T87 l1 x12_1).f1))).heap[gb226]? = some (.cells #[.int .i64 ((rd_T87 l1 x12_1).f0), .int .i64 ((rd_T87 l1 x12_1).f1)] 87 (0, 0))) := ⟨by (with_reducible repeat (first | refine blk_drewN ?_ _ | refine blk_drew ?_ | refine blk_alloc ?_ _)); refine blk_put (cs := #[.int .i64 ((rd_T87 l1 x12_1).f0), .int .i64 0]) ?_ 1 _ rfl; (with_reducible repeat (first | refine blk_drewN ?_ _ | refine blk_drew ?_ | refine blk_alloc ?_ _)); refine blk_put (cs := #[.int .i64 0, .int .i64 0]) ?_ 0 _ rfl; (with_reducible repeat (first | refine blk_drewN ?_ _ | refine blk_drew ?_ | refine blk_alloc ?_ _)); exact BK226.out⟩
      have n1_ : Aside0 (Below w.heap.size w ((w11.setCell ⟨gb226, 0, none⟩ (.int .i64 ((rd_T87 l1 x12_1).f0))).setCell ⟨gb226, 1, none⟩ (.int .i64 ((rd_T87 l1 x12_1).f1)))) := ⟨bG⟩
      (try clear BK226)
      (try clear HB)
      generalize ((w11.setCell ⟨gb226, 0, none⟩ (.int .i64 ((rd_T87 l1 x12_1).f0))).setCell ⟨gb226, 1, none⟩ (.int .i64 ((rd_T87 l1 x12_1).f1))) = w13 at n0_ n1_ ⊢
      have BK226 := n0_
      have HB := n1_
      clear n0_ n1_
      replace BK226 := Aside0.mk (blk_drew BK226.out)
      have HBo := HB
      replace HB := Aside0.mk (below_drew1 HB.out)
      refine start_ (n := 26) (S := fun w' => w'.cell? ⟨gb226, 0, none⟩ = some (.int .i64 ((rd_T87 l1 x12_1).f0)) ∧ w'.cell? ⟨gb226, 1, none⟩ = some (.int .i64 ((rd_T87 l1 x12_1).f1))) (ds := []) (mb 26 0) (by kernel_rfl) rfl rfl ⟨bC BK226 0, bC BK226 1⟩ (fun hHeld => ?_); refine with_tabW impl_AreWants.tab6 impl_AreWants.bits6 (fun HT_ HW_ => ?_)
      generalize w13.drew = w14 at BK226 HB hHeld ⊢
      refine pA (i := 0) (N := some 17) (mb 26 1) HT_ ?_
      refine pA (i := 1) (N := some 18) (mb 26 3) HT_ ?_
      refine tA2 (i := 2) (N := some 19) (mb 26 7) HT_ HW_ hHeld ?_
      refine oA (i := 3) (N := some 20) (mb 26 15) HT_ (fun K hK => ?_)
      refine gA Try.func84 #[.slice A0 l0.length c0, .int .i64 ((rd_T87 l1 x12_1).f0)] ?_
      with_reducible refine (impl_FindPath.calls _ _ l0 ((rd_T87 l1 x12_1).f0) t227 _ ?side1 ?side2 A9.out).mono ?_
      (case side1 => exact cB HR0)
      (case side2 => exact HC0.out)
      rintro e w15 ⟨rfl, hb⟩
      refine ⟨_, rfl, ?_⟩
      replace BK226 := Aside0.mk (blk_below (g := gb226) (bK BK226) hb)
      replace HB := Aside0.mk (below_step bG hb)
      (try clear hb)
      (try clear hb2)
      (try clear hk)
      (try clear hi)
      refine hK.out _ _ ⟨bC BK226 0, bC BK226 1⟩ (fun hHeld => ?_)
      clear hK K
      refine nB ?_
      refine pA (i := 4) (N := some 21) (mb 26 31) HT_ ?_
      refine pA (i := 5) (N := some 22) (mb 26 63) HT_ ?_
      refine pU (i := 6) (N := some 23) (mb 26 127) HT_ ?_
      refine pU (i := 7) (N := some 24) (mb 26 255) HT_ ?_
      refine pU (i := 8) (N := some 25) (mb 26 511) HT_ ?_
      refine pU (i := 9) (N := some 26) (mb 26 1023) HT_ ?_
      refine pA (i := 10) (N := some 27) (mb 26 2047) HT_ ?_
      refine pA (i := 11) (N := some 28) (mb 26 4095) HT_ ?_
      refine pU (i := 12) (N := some 29) (mb 26 8191) HT_ ?_
      refine pU (i := 13) (N := some 30) (mb 26 16383) HT_ ?_
      refine pU (i := 14) (N := some 31) (mb 26 32767) HT_ ?_
      refine pU (i := 15) (N := some 32) (mb 26 65535) HT_ ?_
      refine pU (i := 16) (N := some 33) (mb 26 131071) HT_ ?_
      refine pU (i := 17) (N := some 34) (mb 26 262143) HT_ ?_
      refine pU (i := 18) (N := some 35) (mb 26 524287) HT_ ?_
      refine pU (i := 19) (N := some 36) (mb 26 1048575) HT_ ?_
      refine pU (i := 20) (N := some 37) (mb 26 2097151) HT_ ?_
      refine pU (i := 21) (N := some 38) (mb 26 4194303) HT_ ?_
      refine pU (i := 22) (N := some 39) (mb 26 8388607) HT_ ?_
      refine pU (i := 23) (N := some 40) (mb 26 16777215) HT_ ?_
      refine pU (i := 24) (N := some 41) (mb 26 33554431) HT_ ?_
      refine pA (i := 25) (N := some 42) (mb 26 67108863) HT_ ?_
      refine eA HT_ ?_
      try go_wp2
      go_ret
      exact ⟨rA, bG⟩
     ·
      rw [if_neg c10] at H
      have c10b0 : decide (t227 < 0) = false := decide_eq_false c10
      clear c10
      obtain ⟨t228, A16, H⟩ := bindE H
      try dsimp only at H
      by_cases c17 : t228 = true
      ·
       subst c17
       have H1 : (if x12_1 > 0 then (if 0 ≤ (wrap64 (x12_1 - 1)) then (if (wrap64 (x12_1 - 1)) < (l1.length : Int) then (if ((rd_T87 l1 x12_1).f0) ≤ ((rd_T87 l1 (wrap64 (x12_1 - 1))).f0) then (some false) else (impl_AreWants.l0 k1 l0 l1 l1 (l1.length : Int) (wrap64 (x12_1 + 1)))) else (none)) else (none)) else (impl_AreWants.l0 k1 l0 l1 l1 (l1.length : Int) (wrap64 (x12_1 + 1)))) = some r := by rw [if_pos rfl] at H; exact H
       clear H
       have H := H1
       clear H1
       by_cases c18 : x12_1 > 0
       ·
        rw [if_pos c18] at H
        have c18b0 : decide (0 < x12_1) = true := decide_eq_true c18
        clear c18
        obtain ⟨ji19, hji19⟩ : ∃ j_ : Int, (wrap64 (x12_1 - 1)) = j_ := ⟨_, rfl⟩
        replace H : (if 0 ≤ (ji19) then (if (ji19) < (l1.length : Int) then (if ((rd_T87 l1 x12_1).f0) ≤ ((rd_T87 l1 (ji19)).f0) then (some false) else (impl_AreWants.l0 k1 l0 l1 l1 (l1.length : Int) (wrap64 (x12_1 + 1)))) else (none)) else (none)) = some r := by first | (rw [hji19] at H; exact H) | (simp only [hji19] at H ⊢; exact H)
        (try rw [hji19] at A9)
        (try rw [hji19] at A16)
        have hji19w : (IntKind.i64.wrap (x12_1 - 1)) = ji19 := (i64_w _).trans hji19
        have c20 : 0 ≤ (ji19) := ifN H
        replace H := ifT H
        have c20b0 : decide (0 ≤ (ji19)) = true := decide_eq_true c20
        clear c20
        have c21 : (ji19) < (l1.length : Int) := ifN H
        replace H := ifT H
        have c21b0 : decide ((ji19) < (l1.length : Int)) = true := decide_eq_true c21
        clear c21
        by_cases c22 : ((rd_T87 l1 x12_1).f0) ≤ ((rd_T87 l1 (ji19)).f0)
        ·
         rw [if_pos c22] at H
         have c22b0 : decide (((rd_T87 l1 x12_1).f0) ≤ ((rd_T87 l1 (ji19)).f0)) = true := decide_eq_true c22
         clear c22
         obtain rfl := Option.some.inj H
         have p225 : 0 ≤ (x12_1 : Int) := dA
         have q225 : x12_1 < (l1.length : Int) := dA
         obtain ⟨ad225, e225, hx225_0, hx225_1⟩ := at_T87 HR1.out x12_1 p225 q225
         cases e225
         replace hx225_0 := hC HB hx225_0
         replace hx225_1 := hC HB hx225_1
         replace p225 := eq_true p225
         replace q225 := eq_true q225
         try go_wp2_with (first | ((with_reducible refine gate_dst (N := 6) rfl ?_); refine bE (N := 6) (cs := #[.int .i64 0, .int .i64 0]) (t := 87) ?_; intro gb226 hg w23 hbox hb; have n0_ := Aside0.mk (below_step bA hb); have n1_ := Aside0.mk (hbox); have n2_ := Aside0.mk ((by rw [hg]; exact (below_size bA) : w.heap.size ≤ gb226)); have n3_ := Aside0.mk ((by rw [hg]; exact (below_size bA) : w.heap.size ≤ gb226)); clear HB; have HB := n0_; have BK226 := n1_; have GW226 := n2_; have GE226 := n3_; clear n0_ n1_ n2_ n3_; clear hb hbox hg; obtain ⟨hcz24_0, hcz24_1, hfz24_0, hfz24_1⟩ := blkc2 BK226))
         have n0_ : Aside0 (((w23.setCell ⟨gb226, 0, none⟩ (.int .i64 ((rd_T87 l1 x12_1).f0))).setCell ⟨gb226, 1, none⟩ (.int .i64 ((rd_T87 l1 x12_1).f1))).heap[gb226]? = some (.cells #[.int .i64 ((rd_T87 l1 x12_1).f0), .int .i64 ((rd_T87 l1 x12_1).f1)] 87 (0, 0))) := ⟨by (with_reducible repeat (first | refine blk_drewN ?_ _ | refine blk_drew ?_ | refine blk_alloc ?_ _)); refine blk_put (cs := #[.int .i64 ((rd_T87 l1 x12_1).f0), .int .i64 0]) ?_ 1 _ rfl; (with_reducible repeat (first | refine blk_drewN ?_ _ | refine blk_drew ?_ | refine blk_alloc ?_ _)); refine blk_put (cs := #[.int .i64 0, .int .i64 0]) ?_ 0 _ rfl; (with_reducible repeat (first | refine blk_drewN ?_ _ | refine blk_drew ?_ | refine blk_alloc ?_ _)); exact BK226.out⟩
         have n1_ : Aside0 (Below w.heap.size w ((w23.setCell ⟨gb226, 0, none⟩ (.int .i64 ((rd_T87 l1 x12_1).f0))).setCell ⟨gb226, 1, none⟩ (.int .i64 ((rd_T87 l1 x12_1).f1)))) := ⟨bG⟩
         (try clear BK226)
         (try clear HB)
         generalize ((w23.setCell ⟨gb226, 0, none⟩ (.int .i64 ((rd_T87 l1 x12_1).f0))).setCell ⟨gb226, 1, none⟩ (.int .i64 ((rd_T87 l1 x12_1).f1))) = w25 at n0_ n1_ ⊢
         have BK226 := n0_
         have HB := n1_
         clear n0_ n1_
         replace BK226 := Aside0.mk (blk_drew BK226.out)
         have HBo := HB
         replace HB := Aside0.mk (below_drew1 HB.out)
         have p229 : 0 ≤ ((ji19) : Int) := dA
         have q229 : (ji19) < (l1.length : Int) := dA
         obtain ⟨ad229, e229, hx229_0, hx229_1⟩ := at_T87 HR1.out (ji19) p229 q229
         have hw229_1 := hx229_1
         have hw229_0 := hx229_0
         obtain rfl : ad225 = ad229 := (by injection e229)
         replace hx229_0 := hC HB hx229_0
         replace hx229_1 := hC HB hx229_1
         replace p229 := eq_true p229
         replace q229 := eq_true q229
         refine start_ (n := 26) (S := fun w' => w'.cell? ⟨gb226, 0, none⟩ = some (.int .i64 ((rd_T87 l1 x12_1).f0)) ∧ w'.cell? ⟨gb226, 1, none⟩ = some (.int .i64 ((rd_T87 l1 x12_1).f1)) ∧ w'.cell? (ad225.add (((ji19)).toNat * 2)) = some (.int .i64 ((rd_T87 l1 (ji19)).f0)) ∧ w'.cell? ⟨(ad225.add (((ji19)).toNat * 2)).block, (ad225.add (((ji19)).toNat * 2)).off + 1, none⟩ = some (.int .i64 ((rd_T87 l1 (ji19)).f1))) (ds := []) (mb 26 0) (by kernel_rfl) rfl rfl ⟨bC BK226 0, bC BK226 1, (hC HB hw229_0), (hC HB hw229_1)⟩ (fun hHeld => ?_); refine with_tabW impl_AreWants.tab6 impl_AreWants.bits6 (fun HT_ HW_ => ?_)
         generalize w25.drew = w26 at BK226 HB hx229_0 hx229_1 hHeld ⊢
         refine pA (i := 0) (N := some 17) (mb 26 1) HT_ ?_
         refine pA (i := 1) (N := some 18) (mb 26 3) HT_ ?_
         refine tA4 (i := 2) (N := some 19) (mb 26 7) HT_ HW_ hHeld ?_
         refine oA (i := 3) (N := some 20) (mb 26 15) HT_ (fun K hK => ?_)
         refine gA Try.func84 #[.slice A0 l0.length c0, .int .i64 ((rd_T87 l1 x12_1).f0)] ?_
         with_reducible refine (impl_FindPath.calls _ _ l0 ((rd_T87 l1 x12_1).f0) t227 _ ?side1 ?side2 A9.out).mono ?_
         (case side1 => exact cB HR0)
         (case side2 => exact HC0.out)
         rintro e w27 ⟨rfl, hb⟩
         refine ⟨_, rfl, ?_⟩
         replace BK226 := Aside0.mk (blk_below (g := gb226) (bK BK226) hb)
         replace HB := Aside0.mk (below_step bG hb)
         (try clear hb)
         (try clear hb2)
         (try clear hk)
         (try clear hi)
         refine hK.out _ _ ⟨bC BK226 0, bC BK226 1, (hC HB hw229_0), (hC HB hw229_1)⟩ (fun hHeld => ?_)
         clear hK K
         refine nB ?_
         refine pA (i := 4) (N := some 21) (mb 26 31) HT_ ?_
         refine pA (i := 5) (N := some 22) (mb 26 63) HT_ ?_
         refine pA (i := 6) (N := some 23) (mb 26 127) HT_ ?_
         refine tA4 (i := 7) (N := some 24) (mb 26 255) HT_ HW_ hHeld ?_
         refine oA (i := 8) (N := some 25) (mb 26 511) HT_ (fun K hK => ?_)
         refine gA Try.func69 #[.int .i64 ((rd_T87 l1 x12_1).f1), .int .i64 0, .int .i64 100000] ?_
         with_reducible refine (impl_InRange.calls ((rd_T87 l1 x12_1).f1) 0 100000 true _ A16.out).mono ?_
         rintro e w' ⟨rfl, ⟨nd, rfl⟩⟩
         refine ⟨_, rfl, ?_⟩
         refine hK.out _ _ ⟨bC BK226 0, bC BK226 1, (hC HB hw229_0), (hC HB hw229_1)⟩ (fun hHeld => ?_)
         clear hK K
         refine nB ?_
         refine pA (i := 9) (N := some 26) (mb 26 1023) HT_ ?_
         refine pA (i := 10) (N := some 27) (mb 26 2047) HT_ ?_
         refine pA (i := 11) (N := some 28) (mb 26 4095) HT_ ?_
         refine pA (i := 12) (N := some 29) (mb 26 8191) HT_ ?_
         refine pA (i := 13) (N := some 30) (mb 26 16383) HT_ ?_
         refine pA (i := 14) (N := some 31) (mb 26 32767) HT_ ?_
         refine pA (i := 15) (N := some 32) (mb 26 65535) HT_ ?_
         refine pA (i := 17) (N := some 34) (mb 26 196607) HT_ ?_
         refine pA (i := 18) (N := some 35) (mb 26 458751) HT_ ?_
         refine pA (i := 19) (N := some 36) (mb 26 983039) HT_ ?_
         refine pA (i := 20) (N := some 37) (mb 26 2031615) HT_ ?_
         refine pA (i := 21) (N := some 38) (mb 26 4128767) HT_ ?_
         refine tA4 (i := 16) (N := some 33) (mb 26 4194303) HT_ HW_ hHeld ?_
         refine tA4 (i := 22) (N := some 39) (mb 26 8388607) HT_ HW_ hHeld ?_
         refine pA (i := 23) (N := some 40) (mb 26 16777215) HT_ ?_
         refine pA (i := 24) (N := some 41) (mb 26 33554431) HT_ ?_
         refine pA (i := 25) (N := some 42) (mb 26 67108863) HT_ ?_
         refine eA HT_ ?_
         try go_wp2
         go_ret
         exact ⟨by first | rfl | (simp [errW_none, errW_some] <;> rfl) | (simp only [← hji19]; first | rfl | (simp [errW_none, errW_some] <;> rfl)) | (simp [*, errW_none, errW_some] <;> rfl), bG⟩
        ·
         rw [if_neg c22] at H
         have c22b0 : decide (((rd_T87 l1 x12_1).f0) ≤ ((rd_T87 l1 (ji19)).f0)) = false := decide_eq_false c22
         clear c22
         have H' := Aside0.mk H
         clear H
         have p225 : 0 ≤ (x12_1 : Int) := dA
         have q225 : x12_1 < (l1.length : Int) := dA
         obtain ⟨ad225, e225, hx225_0, hx225_1⟩ := at_T87 HR1.out x12_1 p225 q225
         cases e225
         replace hx225_0 := hC HB hx225_0
         replace hx225_1 := hC HB hx225_1
         replace p225 := eq_true p225
         replace q225 := eq_true q225
         try go_wp2_with (first | ((with_reducible refine gate_dst (N := 6) rfl ?_); refine bE (N := 6) (cs := #[.int .i64 0, .int .i64 0]) (t := 87) ?_; intro gb226 hg w28 hbox hb; have n0_ := Aside0.mk (below_step bA hb); have n1_ := Aside0.mk (hbox); have n2_ := Aside0.mk ((by rw [hg]; exact (below_size bA) : w.heap.size ≤ gb226)); have n3_ := Aside0.mk ((by rw [hg]; exact (below_size bA) : w.heap.size ≤ gb226)); clear HB; have HB := n0_; have BK226 := n1_; have GW226 := n2_; have GE226 := n3_; clear n0_ n1_ n2_ n3_; clear hb hbox hg; obtain ⟨hcz29_0, hcz29_1, hfz29_0, hfz29_1⟩ := blkc2 BK226))
         have n0_ : Aside0 (((w28.setCell ⟨gb226, 0, none⟩ (.int .i64 ((rd_T87 l1 x12_1).f0))).setCell ⟨gb226, 1, none⟩ (.int .i64 ((rd_T87 l1 x12_1).f1))).heap[gb226]? = some (.cells #[.int .i64 ((rd_T87 l1 x12_1).f0), .int .i64 ((rd_T87 l1 x12_1).f1)] 87 (0, 0))) := ⟨by (with_reducible repeat (first | refine blk_drewN ?_ _ | refine blk_drew ?_ | refine blk_alloc ?_ _)); refine blk_put (cs := #[.int .i64 ((rd_T87 l1 x12_1).f0), .int .i64 0]) ?_ 1 _ rfl; (with_reducible repeat (first | refine blk_drewN ?_ _ | refine blk_drew ?_ | refine blk_alloc ?_ _)); refine blk_put (cs := #[.int .i64 0, .int .i64 0]) ?_ 0 _ rfl; (with_reducible repeat (first | refine blk_drewN ?_ _ | refine blk_drew ?_ | refine blk_alloc ?_ _)); exact BK226.out⟩
         have n1_ : Aside0 (Below w.heap.size w ((w28.setCell ⟨gb226, 0, none⟩ (.int .i64 ((rd_T87 l1 x12_1).f0))).setCell ⟨gb226, 1, none⟩ (.int .i64 ((rd_T87 l1 x12_1).f1)))) := ⟨bG⟩
         (try clear BK226)
         (try clear HB)
         generalize ((w28.setCell ⟨gb226, 0, none⟩ (.int .i64 ((rd_T87 l1 x12_1).f0))).setCell ⟨gb226, 1, none⟩ (.int .i64 ((rd_T87 l1 x12_1).f1))) = w30 at n0_ n1_ ⊢
         have BK226 := n0_
         have HB := n1_
         clear n0_ n1_
         replace BK226 := Aside0.mk (blk_drew BK226.out)
         have HBo := HB
         replace HB := Aside0.mk (below_drew1 HB.out)
         have p229 : 0 ≤ ((ji19) : Int) := dA
         have q229 : (ji19) < (l1.length : Int) := dA
         obtain ⟨ad229, e229, hx229_0, hx229_1⟩ := at_T87 HR1.out (ji19) p229 q229
         have hw229_1 := hx229_1
         have hw229_0 := hx229_0
         obtain rfl : ad225 = ad229 := (by injection e229)
         replace hx229_0 := hC HB hx229_0
         replace hx229_1 := hC HB hx229_1
         replace p229 := eq_true p229
         replace q229 := eq_true q229
         refine start_ (n := 26) (S := fun w' => w'.cell? ⟨gb226, 0, none⟩ = some (.int .i64 ((rd_T87 l1 x12_1).f0)) ∧ w'.cell? ⟨gb226, 1, none⟩ = some (.int .i64 ((rd_T87 l1 x12_1).f1)) ∧ w'.cell? (ad225.add (((ji19)).toNat * 2)) = some (.int .i64 ((rd_T87 l1 (ji19)).f0)) ∧ w'.cell? ⟨(ad225.add (((ji19)).toNat * 2)).block, (ad225.add (((ji19)).toNat * 2)).off + 1, none⟩ = some (.int .i64 ((rd_T87 l1 (ji19)).f1))) (ds := []) (mb 26 0) (by kernel_rfl) rfl rfl ⟨bC BK226 0, bC BK226 1, (hC HB hw229_0), (hC HB hw229_1)⟩ (fun hHeld => ?_); refine with_tabW impl_AreWants.tab6 impl_AreWants.bits6 (fun HT_ HW_ => ?_)
         generalize w30.drew = w31 at BK226 HB hx229_0 hx229_1 hHeld ⊢
         refine pA (i := 0) (N := some 17) (mb 26 1) HT_ ?_
         refine pA (i := 1) (N := some 18) (mb 26 3) HT_ ?_
         refine tA4 (i := 2) (N := some 19) (mb 26 7) HT_ HW_ hHeld ?_
         refine oA (i := 3) (N := some 20) (mb 26 15) HT_ (fun K hK => ?_)
         refine gA Try.func84 #[.slice A0 l0.length c0, .int .i64 ((rd_T87 l1 x12_1).f0)] ?_
         with_reducible refine (impl_FindPath.calls _ _ l0 ((rd_T87 l1 x12_1).f0) t227 _ ?side1 ?side2 A9.out).mono ?_
         (case side1 => exact cB HR0)
         (case side2 => exact HC0.out)
         rintro e w32 ⟨rfl, hb⟩
         refine ⟨_, rfl, ?_⟩
         replace BK226 := Aside0.mk (blk_below (g := gb226) (bK BK226) hb)
         replace HB := Aside0.mk (below_step bG hb)
         (try clear hb)
         (try clear hb2)
         (try clear hk)
         (try clear hi)
         refine hK.out _ _ ⟨bC BK226 0, bC BK226 1, (hC HB hw229_0), (hC HB hw229_1)⟩ (fun hHeld => ?_)
         clear hK K
         refine nB ?_
         refine pA (i := 4) (N := some 21) (mb 26 31) HT_ ?_
         refine pA (i := 5) (N := some 22) (mb 26 63) HT_ ?_
         refine pA (i := 6) (N := some 23) (mb 26 127) HT_ ?_
         refine tA4 (i := 7) (N := some 24) (mb 26 255) HT_ HW_ hHeld ?_
         refine oA (i := 8) (N := some 25) (mb 26 511) HT_ (fun K hK => ?_)
         refine gA Try.func69 #[.int .i64 ((rd_T87 l1 x12_1).f1), .int .i64 0, .int .i64 100000] ?_
         with_reducible refine (impl_InRange.calls ((rd_T87 l1 x12_1).f1) 0 100000 true _ A16.out).mono ?_
         rintro e w' ⟨rfl, ⟨nd, rfl⟩⟩
         refine ⟨_, rfl, ?_⟩
         refine hK.out _ _ ⟨bC BK226 0, bC BK226 1, (hC HB hw229_0), (hC HB hw229_1)⟩ (fun hHeld => ?_)
         clear hK K
         refine nB ?_
         refine pA (i := 9) (N := some 26) (mb 26 1023) HT_ ?_
         refine pA (i := 10) (N := some 27) (mb 26 2047) HT_ ?_
         refine pA (i := 11) (N := some 28) (mb 26 4095) HT_ ?_
         refine pA (i := 12) (N := some 29) (mb 26 8191) HT_ ?_
         refine pA (i := 13) (N := some 30) (mb 26 16383) HT_ ?_
         refine pA (i := 14) (N := some 31) (mb 26 32767) HT_ ?_
         refine pA (i := 15) (N := some 32) (mb 26 65535) HT_ ?_
         refine pA (i := 17) (N := some 34) (mb 26 196607) HT_ ?_
         refine pA (i := 18) (N := some 35) (mb 26 458751) HT_ ?_
         refine pA (i := 19) (N := some 36) (mb 26 983039) HT_ ?_
         refine pA (i := 20) (N := some 37) (mb 26 2031615) HT_ ?_
         refine pA (i := 21) (N := some 38) (mb 26 4128767) HT_ ?_
         refine tA4 (i := 16) (N := some 33) (mb 26 4194303) HT_ HW_ hHeld ?_
         refine tA4 (i := 22) (N := some 39) (mb 26 8388607) HT_ HW_ hHeld ?_
         refine pA (i := 23) (N := some 40) (mb 26 16777215) HT_ ?_
         refine pA (i := 24) (N := some 41) (mb 26 33554431) HT_ ?_
         refine pA (i := 25) (N := some 42) (mb 26 67108863) HT_ ?_
         refine eA HT_ ?_
         try go_wp2
         go_roundg k1
         case measure => have := HK1.out; omega
         case rel => exact ⟨(wrap64 (x12_1 + 1)), rS, H', ⟨by have := HK1.out; omega⟩, ⟨bG⟩⟩
       ·
        rw [if_neg c18] at H
        have c18b0 : decide (0 < x12_1) = false := decide_eq_false c18
        clear c18
        have H' := Aside0.mk H
        clear H
        have p225 : 0 ≤ (x12_1 : Int) := dA
        have q225 : x12_1 < (l1.length : Int) := dA
        obtain ⟨ad225, e225, hx225_0, hx225_1⟩ := at_T87 HR1.out x12_1 p225 q225
        cases e225
        replace hx225_0 := hC HB hx225_0
        replace hx225_1 := hC HB hx225_1
        replace p225 := eq_true p225
        replace q225 := eq_true q225
        try go_wp2_with (first | ((with_reducible refine gate_dst (N := 6) rfl ?_); refine bE (N := 6) (cs := #[.int .i64 0, .int .i64 0]) (t := 87) ?_; intro gb226 hg w33 hbox hb; have n0_ := Aside0.mk (below_step bA hb); have n1_ := Aside0.mk (hbox); have n2_ := Aside0.mk ((by rw [hg]; exact (below_size bA) : w.heap.size ≤ gb226)); have n3_ := Aside0.mk ((by rw [hg]; exact (below_size bA) : w.heap.size ≤ gb226)); clear HB; have HB := n0_; have BK226 := n1_; have GW226 := n2_; have GE226 := n3_; clear n0_ n1_ n2_ n3_; clear hb hbox hg; obtain ⟨hcz34_0, hcz34_1, hfz34_0, hfz34_1⟩ := blkc2 BK226))
        have n0_ : Aside0 (((w33.setCell ⟨gb226, 0, none⟩ (.int .i64 ((rd_T87 l1 x12_1).f0))).setCell ⟨gb226, 1, none⟩ (.int .i64 ((rd_T87 l1 x12_1).f1))).heap[gb226]? = some (.cells #[.int .i64 ((rd_T87 l1 x12_1).f0), .int .i64 ((rd_T87 l1 x12_1).f1)] 87 (0, 0))) := ⟨by (with_reducible repeat (first | refine blk_drewN ?_ _ | refine blk_drew ?_ | refine blk_alloc ?_ _)); refine blk_put (cs := #[.int .i64 ((rd_T87 l1 x12_1).f0), .int .i64 0]) ?_ 1 _ rfl; (with_reducible repeat (first | refine blk_drewN ?_ _ | refine blk_drew ?_ | refine blk_alloc ?_ _)); refine blk_put (cs := #[.int .i64 0, .int .i64 0]) ?_ 0 _ rfl; (with_reducible repeat (first | refine blk_drewN ?_ _ | refine blk_drew ?_ | refine blk_alloc ?_ _)); exact BK226.out⟩
        have n1_ : Aside0 (Below w.heap.size w ((w33.setCell ⟨gb226, 0, none⟩ (.int .i64 ((rd_T87 l1 x12_1).f0))).setCell ⟨gb226, 1, none⟩ (.int .i64 ((rd_T87 l1 x12_1).f1)))) := ⟨bG⟩
        (try clear BK226)
        (try clear HB)
        generalize ((w33.setCell ⟨gb226, 0, none⟩ (.int .i64 ((rd_T87 l1 x12_1).f0))).setCell ⟨gb226, 1, none⟩ (.int .i64 ((rd_T87 l1 x12_1).f1))) = w35 at n0_ n1_ ⊢
        have BK226 := n0_
        have HB := n1_
        clear n0_ n1_
        replace BK226 := Aside0.mk (blk_drew BK226.out)
        have HBo := HB
        replace HB := Aside0.mk (below_drew1 HB.out)
        refine start_ (n := 26) (S := fun w' => w'.cell? ⟨gb226, 0, none⟩ = some (.int .i64 ((rd_T87 l1 x12_1).f0)) ∧ w'.cell? ⟨gb226, 1, none⟩ = some (.int .i64 ((rd_T87 l1 x12_1).f1))) (ds := []) (mb 26 0) (by kernel_rfl) rfl rfl ⟨bC BK226 0, bC BK226 1⟩ (fun hHeld => ?_); refine with_tabW impl_AreWants.tab6 impl_AreWants.bits6 (fun HT_ HW_ => ?_)
        generalize w35.drew = w36 at BK226 HB hHeld ⊢
        refine pA (i := 0) (N := some 17) (mb 26 1) HT_ ?_
        refine pA (i := 1) (N := some 18) (mb 26 3) HT_ ?_
        refine tA2 (i := 2) (N := some 19) (mb 26 7) HT_ HW_ hHeld ?_
        refine oA (i := 3) (N := some 20) (mb 26 15) HT_ (fun K hK => ?_)
        refine gA Try.func84 #[.slice A0 l0.length c0, .int .i64 ((rd_T87 l1 x12_1).f0)] ?_
        with_reducible refine (impl_FindPath.calls _ _ l0 ((rd_T87 l1 x12_1).f0) t227 _ ?side1 ?side2 A9.out).mono ?_
        (case side1 => exact cB HR0)
        (case side2 => exact HC0.out)
        rintro e w37 ⟨rfl, hb⟩
        refine ⟨_, rfl, ?_⟩
        replace BK226 := Aside0.mk (blk_below (g := gb226) (bK BK226) hb)
        replace HB := Aside0.mk (below_step bG hb)
        (try clear hb)
        (try clear hb2)
        (try clear hk)
        (try clear hi)
        refine hK.out _ _ ⟨bC BK226 0, bC BK226 1⟩ (fun hHeld => ?_)
        clear hK K
        refine nB ?_
        refine pA (i := 4) (N := some 21) (mb 26 31) HT_ ?_
        refine pA (i := 5) (N := some 22) (mb 26 63) HT_ ?_
        refine pA (i := 6) (N := some 23) (mb 26 127) HT_ ?_
        refine tA2 (i := 7) (N := some 24) (mb 26 255) HT_ HW_ hHeld ?_
        refine oA (i := 8) (N := some 25) (mb 26 511) HT_ (fun K hK => ?_)
        refine gA Try.func69 #[.int .i64 ((rd_T87 l1 x12_1).f1), .int .i64 0, .int .i64 100000] ?_
        with_reducible refine (impl_InRange.calls ((rd_T87 l1 x12_1).f1) 0 100000 true _ A16.out).mono ?_
        rintro e w' ⟨rfl, ⟨nd, rfl⟩⟩
        refine ⟨_, rfl, ?_⟩
        refine hK.out _ _ ⟨bC BK226 0, bC BK226 1⟩ (fun hHeld => ?_)
        clear hK K
        refine nB ?_
        refine pA (i := 9) (N := some 26) (mb 26 1023) HT_ ?_
        refine pA (i := 10) (N := some 27) (mb 26 2047) HT_ ?_
        refine pA (i := 11) (N := some 28) (mb 26 4095) HT_ ?_
        refine pA (i := 12) (N := some 29) (mb 26 8191) HT_ ?_
        refine pA (i := 13) (N := some 30) (mb 26 16383) HT_ ?_
        refine pA (i := 14) (N := some 31) (mb 26 32767) HT_ ?_
        refine pU (i := 15) (N := some 32) (mb 26 65535) HT_ ?_
        refine pU (i := 16) (N := some 33) (mb 26 131071) HT_ ?_
        refine pU (i := 17) (N := some 34) (mb 26 262143) HT_ ?_
        refine pU (i := 18) (N := some 35) (mb 26 524287) HT_ ?_
        refine pU (i := 19) (N := some 36) (mb 26 1048575) HT_ ?_
        refine pU (i := 20) (N := some 37) (mb 26 2097151) HT_ ?_
        refine pU (i := 21) (N := some 38) (mb 26 4194303) HT_ ?_
        refine pU (i := 22) (N := some 39) (mb 26 8388607) HT_ ?_
        refine pU (i := 23) (N := some 40) (mb 26 16777215) HT_ ?_
        refine pA (i := 24) (N := some 41) (mb 26 33554431) HT_ ?_
        refine pA (i := 25) (N := some 42) (mb 26 67108863) HT_ ?_
        refine eA HT_ ?_
        try go_wp2
        go_roundg k1
        case measure => have := HK1.out; omega
        case rel => exact ⟨(wrap64 (x12_1 + 1)), rS, H', ⟨by have := HK1.out; omega⟩, ⟨bG⟩⟩
      ·
       replace c17 := Bool.eq_false_iff.mpr c17
       subst c17
       have H1 : (some false) = some r := by rw [if_neg (show ¬ (false = true) by decide)] at H; exact H
       clear H
       have H := H1
       clear H1
       obtain rfl := Option.some.inj H
       have p225 : 0 ≤ (x12_1 : Int) := dA
       have q225 : x12_1 < (l1.length : Int) := dA
       obtain ⟨ad225, e225, hx225_0, hx225_1⟩ := at_T87 HR1.out x12_1 p225 q225
       cases e225
       replace hx225_0 := hC HB hx225_0
       replace hx225_1 := hC HB hx225_1
       replace p225 := eq_true p225
       replace q225 := eq_true q225
       try go_wp2_with (first | ((with_reducible refine gate_dst (N := 6) rfl ?_); refine bE (N := 6) (cs := #[.int .i64 0, .int .i64 0]) (t := 87) ?_; intro gb226 hg w38 hbox hb; have n0_ := Aside0.mk (below_step bA hb); have n1_ := Aside0.mk (hbox); have n2_ := Aside0.mk ((by rw [hg]; exact (below_size bA) : w.heap.size ≤ gb226)); have n3_ := Aside0.mk ((by rw [hg]; exact (below_size bA) : w.heap.size ≤ gb226)); clear HB; have HB := n0_; have BK226 := n1_; have GW226 := n2_; have GE226 := n3_; clear n0_ n1_ n2_ n3_; clear hb hbox hg; obtain ⟨hcz39_0, hcz39_1, hfz39_0, hfz39_1⟩ := blkc2 BK226))
       have n0_ : Aside0 (((w38.setCell ⟨gb226, 0, none⟩ (.int .i64 ((rd_T87 l1 x12_1).f0))).setCell ⟨gb226, 1, none⟩ (.int .i64 ((rd_T87 l1 x12_1).f1))).heap[gb226]? = some (.cells #[.int .i64 ((rd_T87 l1 x12_1).f0), .int .i64 ((rd_T87 l1 x12_1).f1)] 87 (0, 0))) := ⟨by (with_reducible repeat (first | refine blk_drewN ?_ _ | refine blk_drew ?_ | refine blk_alloc ?_ _)); refine blk_put (cs := #[.int .i64 ((rd_T87 l1 x12_1).f0), .int .i64 0]) ?_ 1 _ rfl; (with_reducible repeat (first | refine blk_drewN ?_ _ | refine blk_drew ?_ | refine blk_alloc ?_ _)); refine blk_put (cs := #[.int .i64 0, .int .i64 0]) ?_ 0 _ rfl; (with_reducible repeat (first | refine blk_drewN ?_ _ | refine blk_drew ?_ | refine blk_alloc ?_ _)); exact BK226.out⟩
       have n1_ : Aside0 (Below w.heap.size w ((w38.setCell ⟨gb226, 0, none⟩ (.int .i64 ((rd_T87 l1 x12_1).f0))).setCell ⟨gb226, 1, none⟩ (.int .i64 ((rd_T87 l1 x12_1).f1)))) := ⟨bG⟩
       (try clear BK226)
       (try clear HB)
       generalize ((w38.setCell ⟨gb226, 0, none⟩ (.int .i64 ((rd_T87 l1 x12_1).f0))).setCell ⟨gb226, 1, none⟩ (.int .i64 ((rd_T87 l1 x12_1).f1))) = w40 at n0_ n1_ ⊢
       have BK226 := n0_
       have HB := n1_
       clear n0_ n1_
       replace BK226 := Aside0.mk (blk_drew BK226.out)
       have HBo := HB
       replace HB := Aside0.mk (below_drew1 HB.out)
       refine start_ (n := 26) (S := fun w' => w'.cell? ⟨gb226, 0, none⟩ = some (.int .i64 ((rd_T87 l1 x12_1).f0)) ∧ w'.cell? ⟨gb226, 1, none⟩ = some (.int .i64 ((rd_T87 l1 x12_1).f1))) (ds := []) (mb 26 0) (by kernel_rfl) rfl rfl ⟨bC BK226 0, bC BK226 1⟩ (fun hHeld => ?_); refine with_tabW impl_AreWants.tab6 impl_AreWants.bits6 (fun HT_ HW_ => ?_)
       generalize w40.drew = w41 at BK226 HB hHeld ⊢
       refine pA (i := 0) (N := some 17) (mb 26 1) HT_ ?_
       refine pA (i := 1) (N := some 18) (mb 26 3) HT_ ?_
       refine tA2 (i := 2) (N := some 19) (mb 26 7) HT_ HW_ hHeld ?_
       refine oA (i := 3) (N := some 20) (mb 26 15) HT_ (fun K hK => ?_)
       refine gA Try.func84 #[.slice A0 l0.length c0, .int .i64 ((rd_T87 l1 x12_1).f0)] ?_
       with_reducible refine (impl_FindPath.calls _ _ l0 ((rd_T87 l1 x12_1).f0) t227 _ ?side1 ?side2 A9.out).mono ?_
       (case side1 => exact cB HR0)
       (case side2 => exact HC0.out)
       rintro e w42 ⟨rfl, hb⟩
       refine ⟨_, rfl, ?_⟩
       replace BK226 := Aside0.mk (blk_below (g := gb226) (bK BK226) hb)
       replace HB := Aside0.mk (below_step bG hb)
       (try clear hb)
       (try clear hb2)
       (try clear hk)
       (try clear hi)
       refine hK.out _ _ ⟨bC BK226 0, bC BK226 1⟩ (fun hHeld => ?_)
       clear hK K
       refine nB ?_
       refine pA (i := 4) (N := some 21) (mb 26 31) HT_ ?_
       refine pA (i := 5) (N := some 22) (mb 26 63) HT_ ?_
       refine pA (i := 6) (N := some 23) (mb 26 127) HT_ ?_
       refine tA2 (i := 7) (N := some 24) (mb 26 255) HT_ HW_ hHeld ?_
       refine oA (i := 8) (N := some 25) (mb 26 511) HT_ (fun K hK => ?_)
       refine gA Try.func69 #[.int .i64 ((rd_T87 l1 x12_1).f1), .int .i64 0, .int .i64 100000] ?_
       with_reducible refine (impl_InRange.calls ((rd_T87 l1 x12_1).f1) 0 100000 false _ A16.out).mono ?_
       rintro e w' ⟨rfl, ⟨nd, rfl⟩⟩
       refine ⟨_, rfl, ?_⟩
       refine hK.out _ _ ⟨bC BK226 0, bC BK226 1⟩ (fun hHeld => ?_)
       clear hK K
       refine nB ?_
       refine pA (i := 9) (N := some 26) (mb 26 1023) HT_ ?_
       refine pA (i := 10) (N := some 27) (mb 26 2047) HT_ ?_
       refine pA (i := 11) (N := some 28) (mb 26 4095) HT_ ?_
       refine pU (i := 12) (N := some 29) (mb 26 8191) HT_ ?_
       refine pU (i := 13) (N := some 30) (mb 26 16383) HT_ ?_
       refine pU (i := 14) (N := some 31) (mb 26 32767) HT_ ?_
       refine pU (i := 15) (N := some 32) (mb 26 65535) HT_ ?_
       refine pU (i := 16) (N := some 33) (mb 26 131071) HT_ ?_
       refine pU (i := 17) (N := some 34) (mb 26 262143) HT_ ?_
       refine pU (i := 18) (N := some 35) (mb 26 524287) HT_ ?_
       refine pU (i := 19) (N := some 36) (mb 26 1048575) HT_ ?_
       refine pU (i := 20) (N := some 37) (mb 26 2097151) HT_ ?_
       refine pU (i := 21) (N := some 38) (mb 26 4194303) HT_ ?_
       refine pU (i := 22) (N := some 39) (mb 26 8388607) HT_ ?_
       refine pU (i := 23) (N := some 40) (mb 26 16777215) HT_ ?_
       refine pU (i := 24) (N := some 41) (mb 26 33554431) HT_ ?_
       refine pA (i := 25) (N := some 42) (mb 26 67108863) HT_ ?_
       refine eA HT_ ?_
       try go_wp2
       go_ret
       exact ⟨rA, bG⟩
    ·
     rw [if_neg c6] at H
     have c6b0 : decide (x12_1 < (l1.length : Int)) = false := decide_eq_false c6
     clear c6
     obtain rfl := Option.some.inj H
     go_wp2
     go_ret
     exact ⟨rA, bA⟩
 ·
  replace c4 := Bool.eq_false_iff.mpr c4
  subst c4
  have H1 : (some false) = some r := by rw [if_neg (show ¬ (false = true) by decide)] at H; exact H
  clear H
  have H := H1
  clear H1
  obtain rfl := Option.some.inj H
  go_enter Try.func36, Try.ntmps36
  go_wp2_with (first | ((with_reducible refine gate_callee (f := 83) rfl ?_); refine gL (some 8) Try.func83 #[.slice A0 l0.length c0] ?_; (with_reducible refine (impl_ArePaths.calls k _ _ l0 false _ ?side1 ?side2 A3.out).mono ?_); (case side1 => exact cO HR0); (case side2 => exact HC0.out); rintro e w43 ⟨rfl, hb⟩; refine ⟨_, rfl, ?_⟩; replace HB := Aside0.mk (below_step bA hb); (try clear hb); (try clear hb2); (try clear hk); (try clear hi)))
  go_ret
  exact ⟨rA, bA⟩

/-! ### impl_Want_93: function 93 -/
def impl_Want_93.f (l0 : List S87) : Option (List S87) := if l0.length < 8796093022208 then some l0 else none
theorem impl_Want_93.eq0 {P : Program} (w : World) (d : Nat) (t e : TypeId) (a : Option Addr) (n c n' c' : Nat) (h : P.underlying t = some (.slice e)) : (Op.equalIn (d + 1) t (.slice a n c) (.slice none n' c')).run P w = .ok a.isNone w := by
 cases a <;> simp [Op.equalIn, run_underlying h]
theorem impl_Want_93.eq1 {P : Program} (w : World) (t e : TypeId) (a : Option Addr) (n c n' c' : Nat) (h : P.underlying t = some (.slice e)) : (binOp .eql t (.slice a n c) (.slice none n' c')).run P w = .ok (.bool a.isNone) w := by
 simp only [binOp]
 simp [Op.equal, Op.maxDepth, impl_Want_93.eq0 w 9999 t e a n c n' c' h]
set_option maxHeartbeats 4000000 in
set_option maxRecDepth 100000 in
theorem impl_Want_93.calls (A0 : Option Addr) (c0 : Nat) (l0 : List S87) (r : List S87) (w : World) (hr0 : Kd.C k87 w A0 l0.length l0) (hc0 : l0.length ≤ c0) (h : impl_Want_93.f l0 = some r) :
  Calls Try.prog 93 #[.slice A0 l0.length c0] w fun e w' => ∃ v0_ : Value, e = .returned (v0_) ∧ Kd.R k87 87 w' w.heap.size (fun _ => True) v0_ r ∧ Below w.heap.size w w' := by
 unfold impl_Want_93.f at h
 have hlim := ifN h
 replace h := ifT h
 obtain rfl := Option.some.inj h
 have HL := Aside0.mk hlim
 have HR0 := Aside0.mk hr0
 have HC0 := Aside0.mk hc0
 clear hr0 hc0 h hlim
 have q_ : ∀ (w : World) (a : Option Addr) (n c n' c' : Nat), (binOp .eql 45 (.slice a n c) (.slice none n' c')).run Try.prog w = .ok (.bool a.isNone) w := fun w a n c n' c' => impl_Want_93.eq1 w _ _ a n c n' c' Try.underlying45
 cases A0 with
 | none =>
  have hl0 : l0 = [] := by
   rcases Nat.eq_zero_or_pos l0.length with h0 | h0
   ·
    exact List.eq_nil_of_length_eq_zero h0
   ·
    obtain ⟨ad, ha, _⟩ := HR0.out.2.2 h0
    cases ha
  subst hl0
  go_enter Try.func93, Try.ntmps93
  go_wp2
  go_ret
  exact ⟨_, rfl, Kd.R_nil _ _ _ _ _, Below.refl _ _⟩
 | some ad =>
  go_enter Try.func93, Try.ntmps93
  go_wp2_with (first
   | ((with_reducible refine gate_dst (N := 5) rfl ?_); refine Kd.R_lit k87 _ 87 ?hg (N := 5) ?hd (xs := ([] : List S87)) (inner := []) (ok := fun _ => True) (okp := fun _ => True) ?hr ?hp (fun _ hk => hk) trivial (Below.refl w.heap.size w) (Nat.le_refl _) (by simp) ?_; (case hd => rfl); (case hg => rfl); (case hr => first | (go_simp; done) | (go_simp; rfl)); (case hp => exact (Reps.none _ _)); intro v304 w3 ho4 hb hg_ hnew_; have HO := Aside0.mk ho4; have HB := Aside0.mk hb; clear ho4 hb hg_ hnew_)
   | ((with_reducible refine gate_builtin (b := .append) (xs := #[.tmp 5, .tmp 6]) rfl ?_); at_builtin; refine Kd.R_append_rows k87 (w0 := w) w.heap.size rfl (.tmp 5) (.tmp 6) 45 87 (.agg #[(.int .i64 0), (.int .i64 0)]) 16 rfl Try.underlying45 info87 rfl (by decide) (by omega) v304 ([] : List S87) l0 _ _ _ (fun _ => True) (fun _ => False) rfl rfl ?aO ?aR (fun _ _ h => h) (fun _ h => h.elim) ?aF ?aB ?aS ?aL ?_; (case aR => exact Kd.C_below HR0.out HB.out); (case aB => exact HB.out); (case aF => exact (fun _ _ => trivial)); (case aO => exact HO.out); (case aS => exact HB.out.size); (case aL => have := HL.out; simp; omega); intro v1 w9 ho hb hg hat; rw [List.nil_append] at ho; have HO1 := Aside0.mk ho; have HB1 := Aside0.mk hb; clear ho hb hg hat))
  go_ret
  exact ⟨_, rfl, HO1.out, HB1.out⟩

end Go.Proofs.Ytimmadeghcghoaa.P
