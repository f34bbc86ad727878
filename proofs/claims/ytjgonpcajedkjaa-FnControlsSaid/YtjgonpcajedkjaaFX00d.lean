/- Printed by myprint.py (wip/tools) over the kit's print: what Go's functions compute, and that they do. Lean checks it. -/
import Derived.Test.YtjgonpcajedkjaaF0
import Derived.Test.YtjgonpcajedkjaaFX00c
namespace Go.Proofs.Ytjgonpcajedkjaa.P
open Go.RowKit Go.Proofs.YtjgonpcajedkjaaW.PrintWords Go.Proofs.YtjgonpcajedkjaaW.PrintLast Go.Proofs.YtjgonpcajedkjaaW.PrintMore Go.Proofs.Ytjgonpcajedkjaa.Sq
attribute [local go_sem] max2_int min2_int max_two min_two max_three min_three max_four min_four
set_option linter.unusedVariables false
set_option linter.unusedSimpArgs false

/-! ### impl_OutPlace: function 141 -/
def impl_OutPlace.f (a0 : Int) : Option (Int) := (impl_InRange.f a0 0 3).bind fun t555 => (if t555 = true then (some (wrap64 ((wrap64 (2 * a0)) + 1))) else (some (-1)))
set_option maxHeartbeats 8000000 in
set_option maxRecDepth 100000 in
theorem impl_OutPlace.calls (a0 : Int) (r : Int) (w : World) (h : impl_OutPlace.f a0 = some r) :
  Calls Try.prog 141 #[.int .i64 a0] w fun e w' => e = .returned (.int .i64 r) ∧ Drawn0 w w' := by
 have H : ((impl_InRange.f a0 0 3).bind fun t555 => (if t555 = true then (some (wrap64 ((wrap64 (2 * a0)) + 1))) else (some (-1)))) = some r := h
 clear h
 obtain ⟨t555, A2, H⟩ := bindE H
 try dsimp only at H
 by_cases c3 : t555 = true
 ·
  subst c3
  have H1 : (some (wrap64 ((wrap64 (2 * a0)) + 1))) = some r := by rw [if_pos rfl] at H; exact H
  clear H
  have H := H1
  clear H1
  obtain rfl := Option.some.inj H
  go_enter Try.func141, Try.ntmps141
  go_wp2_with (first | ((with_reducible refine gate_callee (f := 75) rfl ?_); refine gL (some 4) Try.func75 #[.int .i64 a0, .int .i64 0, .int .i64 3] ?_; (with_reducible refine (impl_InRange.calls a0 0 3 true _ A2.out).mono ?_); rintro e w' ⟨rfl, ⟨nd, rfl⟩⟩; refine ⟨_, rfl, ?_⟩))
  go_ret
  exact ⟨rS, dD⟩
 replace c3 := Bool.eq_false_iff.mpr c3
 subst c3
 have H1 : (some (-1)) = some r := by rw [if_neg (show ¬ (false = true) by decide)] at H; exact H
 clear H
 have H := H1
 clear H1
 obtain rfl := Option.some.inj H
 go_enter Try.func141, Try.ntmps141
 go_wp2_with (first | ((with_reducible refine gate_callee (f := 75) rfl ?_); refine gL (some 4) Try.func75 #[.int .i64 a0, .int .i64 0, .int .i64 3] ?_; (with_reducible refine (impl_InRange.calls a0 0 3 false _ A2.out).mono ?_); rintro e w' ⟨rfl, ⟨nd, rfl⟩⟩; refine ⟨_, rfl, ?_⟩))
 go_ret
 exact ⟨rS, dD⟩

/-! ### impl_Conflict: function 101 -/
def impl_Conflict.j0 : Nat → Bool → Int → Int → Int → Int → Int → Int → Int → Int → Option (Bool)
 | 0, _, _, _, _, _, _, _, _, _ => none
 | k + 1, x22, x557000, x557001, x557002, x557003, x558000, x558001, x558002, x558003 => if x22 = true then (some false) else (if x557001 = 2 then (if x558002 = x557002 then (some true) else (some (x558003 == x557002))) else (if x558001 = 2 then (if x557002 = x558002 then (some true) else (some (x557003 == x558002))) else (if x557002 = x558002 then ((impl_InPlace.f x557002).bind fun t560 => ((impl_OutPlace.f x557003).bind fun t561 => ((impl_InPlace.f x558002).bind fun t562 => ((impl_OutPlace.f x558003).bind fun t563 => ((impl_Interleave.f k t560 t561 t562 t563).bind fun t564 => (some t564)))))) else (if x557003 = x558003 then (some true) else ((impl_InPlace.f x557002).bind fun t565 => ((impl_OutPlace.f x557003).bind fun t566 => ((impl_InPlace.f x558002).bind fun t567 => ((impl_OutPlace.f x558003).bind fun t568 => ((impl_Interleave.f k t565 t566 t567 t568).bind fun t569 => (some t569))))))))))
def impl_Conflict.f (k : Nat) (a0_0 : Int) (a0_1 : Int) (a0_2 : Int) (a0_3 : Int) (a1_0 : Int) (a1_1 : Int) (a1_2 : Int) (a1_3 : Int) : Option (Bool) := (impl_IsPath.f a0_0 a0_1 a0_2 a0_3).bind fun t558 => (if t558 = true then ((impl_IsPath.f a1_0 a1_1 a1_2 a1_3).bind fun t559 => (if t559 = true then (if a0_1 = 2 then (impl_Conflict.j0 k (a1_1 == 2) a0_0 a0_1 a0_2 a0_3 a1_0 a1_1 a1_2 a1_3) else (impl_Conflict.j0 k false a0_0 a0_1 a0_2 a0_3 a1_0 a1_1 a1_2 a1_3)) else (impl_Conflict.j0 k true a0_0 a0_1 a0_2 a0_3 a1_0 a1_1 a1_2 a1_3))) else (impl_Conflict.j0 k true a0_0 a0_1 a0_2 a0_3 a1_0 a1_1 a1_2 a1_3))
theorem impl_Conflict.mono_l : ∀ k, (∀ y0 y1 y2 y3 y4 y5 y6 y7 y8, LeO (impl_Conflict.j0 k y0 y1 y2 y3 y4 y5 y6 y7 y8) (impl_Conflict.j0 (k + 1) y0 y1 y2 y3 y4 y5 y6 y7 y8))
 | 0 => fun _ _ _ _ _ _ _ _ _ r h => by simp [impl_Conflict.j0] at h
 | k + 1 => by
  have ih0 := impl_Conflict.mono_l k
  ·
   intro y0 y1 y2 y3 y4 y5 y6 y7 y8
   unfold impl_Conflict.j0
   exact mz2 ih0 impl_Interleave.mono
theorem impl_Conflict.mono : ∀ a0 a1 a2 a3 a4 a5 a6 a7 k, LeO (impl_Conflict.f k a0 a1 a2 a3 a4 a5 a6 a7) (impl_Conflict.f (k + 1) a0 a1 a2 a3 a4 a5 a6 a7) := by
 intro a0 a1 a2 a3 a4 a5 a6 a7 k
 have ih0 := impl_Conflict.mono_l k
 unfold impl_Conflict.f
 exact mz2 ih0 impl_Interleave.mono
def impl_Conflict.T7 : Bool × List (List Nat × List Nat) := (true, [([], []), ([0], [0]), ([], []), ([2], [2]), ([1, 3], [1, 3]), ([4], [4]), ([5], [5]), ([6, 5], [5, 6]), ([5], [5]), ([8, 5], [5, 8]), ([7, 9, 5], [5, 7, 9]), ([5, 10], [5, 10]), ([11, 5], [11]), ([12], [12]), ([13, 12], [12, 13]), ([14, 12, 12], [12, 14]), ([12], [12]), ([16, 12], [12, 16]), ([17, 15, 12], [12, 17]), ([12], [12]), ([19, 12], [12, 19]), ([20, 18, 12], [12, 20]), ([12], [12]), ([22, 12], [12, 22]), ([23, 21, 12], [12, 23]), ([15, 18, 21, 24, 24, 12], [12, 15, 18, 21, 24]), ([12, 25], [12, 25]), ([26, 25, 0, 1, 2, 3, 4, 5, 6, 7, 8, 9, 10, 11, 12, 13, 14, 15, 16, 17, 18, 19, 20, 21, 22, 23, 24, 25, 26], [26])])
def impl_Conflict.B7 : List Nat := [0, 1, 0, 4, 15, 31, 63, 127, 63, 319, 1023, 2047, 4095, 8191, 16383, 32767, 8191, 73727, 262143, 8191, 532479, 2097151, 8191, 4202495, 16777215, 33554431, 67108863, 134217727]
theorem impl_Conflict.tab7 : rtab .any (opsOf Try.f101 7) = impl_Conflict.T7 := by kernel_rfl
theorem impl_Conflict.bits7 : waitsOk impl_Conflict.T7.2 impl_Conflict.B7 = true := by kernel_rfl
set_option maxHeartbeats 8000000 in
set_option maxRecDepth 100000 in
theorem impl_Conflict.calls (k : Nat) (a0_0 : Int) (a0_1 : Int) (a0_2 : Int) (a0_3 : Int) (a1_0 : Int) (a1_1 : Int) (a1_2 : Int) (a1_3 : Int) (r : Bool) (w : World) (h : impl_Conflict.f k a0_0 a0_1 a0_2 a0_3 a1_0 a1_1 a1_2 a1_3 = some r) :
  Calls Try.prog 101 #[.agg #[.int .i64 a0_0, .int .i64 a0_1, .int .i64 a0_2, .int .i64 a0_3], .agg #[.int .i64 a1_0, .int .i64 a1_1, .int .i64 a1_2, .int .i64 a1_3]] w fun e w' => e = .returned (.bool r) ∧ Below w.heap.size w w' := by
 have hu50 := Try.underlying50
 have HB := Aside0.mk (Below.refl w.heap.size w)
 have H : ((impl_IsPath.f a0_0 a0_1 a0_2 a0_3).bind fun t558 => (if t558 = true then ((impl_IsPath.f a1_0 a1_1 a1_2 a1_3).bind fun t559 => (if t559 = true then (if a0_1 = 2 then (impl_Conflict.j0 k (a1_1 == 2) a0_0 a0_1 a0_2 a0_3 a1_0 a1_1 a1_2 a1_3) else (impl_Conflict.j0 k false a0_0 a0_1 a0_2 a0_3 a1_0 a1_1 a1_2 a1_3)) else (impl_Conflict.j0 k true a0_0 a0_1 a0_2 a0_3 a1_0 a1_1 a1_2 a1_3))) else (impl_Conflict.j0 k true a0_0 a0_1 a0_2 a0_3 a1_0 a1_1 a1_2 a1_3))) = some r := h
 clear h
 have HC3 := Aside0.mk H
 clear H
 go_enter Try.func101, Try.ntmps101
 go_upto_region 1 with (first | ((with_reducible refine gate_dst (N := 2) rfl ?_); refine bE (N := 2) (cs := #[.int .i64 a0_0, .int .i64 a0_1, .int .i64 a0_2, .int .i64 a0_3]) (t := 50) ?_; intro gb556 hg w4 hbox hb; have BK556 := Aside0.mk (hbox); have GW556 := gw w hg; have GE556 := gw w hg; replace HB := bs HB hb; clear hb hbox hg) | ((with_reducible refine gate_dst (N := 3) rfl ?_); refine bE (N := 3) (cs := #[.int .i64 a1_0, .int .i64 a1_1, .int .i64 a1_2, .int .i64 a1_3]) (t := 50) ?_; intro gb557 hg w5 hbox hb; have BK557 := Aside0.mk (hbox); have GW557 := gw w hg; have GE557 := gw w hg; replace HB := bs HB hb; have NB556_557 := nl BK556 hg; have NB557_556 := nr BK556 hg; replace BK556 := kb BK556 hb; clear hb hbox hg))
 (try simp only [Act.put, List.setIfInBounds_toArray, List.set_cons_zero, List.set_cons_succ])
 go_cut [22] (fun v22 wc => ∃ (kq : Nat) (x22_2 : Bool), v22 = .bool x22_2 ∧ Aside0 (impl_Conflict.j0 kq x22_2 a0_0 a0_1 a0_2 a0_3 a1_0 a1_1 a1_2 a1_3 = some r) ∧ Aside0 (kq ≤ k) ∧ Aside0 (wc.heap[gb556]? = some (.cells #[.int .i64 a0_0, .int .i64 a0_1, .int .i64 a0_2, .int .i64 a0_3] 50 (0, 0))) ∧ Aside0 (wc.heap[gb557]? = some (.cells #[.int .i64 a1_0, .int .i64 a1_1, .int .i64 a1_2, .int .i64 a1_3] 50 (0, 0))) ∧ Aside0 (Below w.heap.size w wc))
 case first =>
  have H := HC3.out
  clear HC3
  obtain ⟨t558, A6, H⟩ := bindE H
  try dsimp only at H
  by_cases c7 : t558 = true
  ·
   subst c7
   have H1 : ((impl_IsPath.f a1_0 a1_1 a1_2 a1_3).bind fun t559 => (if t559 = true then (if a0_1 = 2 then (impl_Conflict.j0 k (a1_1 == 2) a0_0 a0_1 a0_2 a0_3 a1_0 a1_1 a1_2 a1_3) else (impl_Conflict.j0 k false a0_0 a0_1 a0_2 a0_3 a1_0 a1_1 a1_2 a1_3)) else (impl_Conflict.j0 k true a0_0 a0_1 a0_2 a0_3 a1_0 a1_1 a1_2 a1_3))) = some r := by rw [if_pos rfl] at H; exact H
   clear H
   have H := H1
   clear H1
   obtain ⟨t559, A8, H⟩ := bindE H
   try dsimp only at H
   by_cases c9 : t559 = true
   ·
    subst c9
    have H1 : (if a0_1 = 2 then (impl_Conflict.j0 k (a1_1 == 2) a0_0 a0_1 a0_2 a0_3 a1_0 a1_1 a1_2 a1_3) else (impl_Conflict.j0 k false a0_0 a0_1 a0_2 a0_3 a1_0 a1_1 a1_2 a1_3)) = some r := by rw [if_pos rfl] at H; exact H
    clear H
    have H := H1
    clear H1
    by_cases c10 : a0_1 = 2
    ·
     rw [if_pos c10] at H
     have c10b0 : (a0_1 == 2) = true := beq_iff_eq.mpr c10
     have c10b1 : (a0_1 != 2) = false := bne_eq_false_iff_eq.mpr c10
     clear c10
     (first | rw [c10b0] | (simp only [i64_w, i32_w]; rw [c10b0]) | skip)
     have H' := Aside0.mk H
     clear H
     have hnb11 := NB556_557.out
     have hnc11 := NB557_556.out
     obtain ⟨_, _, _, _, _, _, _, _⟩ := blkc4 BK556
     go_wp2_with (first | ((with_reducible refine gate_callee (f := 90) rfl ?_); refine gL (some 6) Try.func90 #[.agg #[.int .i64 a0_0, .int .i64 a0_1, .int .i64 a0_2, .int .i64 a0_3]] ?_; (with_reducible refine (impl_IsPath.calls a0_0 a0_1 a0_2 a0_3 true _ A6.out).mono ?_); rintro e w13 ⟨rfl, hb⟩; refine ⟨_, rfl, ?_⟩; replace BK556 := kb BK556 hb; replace BK557 := kb BK557 hb; replace HB := bs HB hb; (try clear hb); obtain ⟨_, _, _, _, _, _, _, _⟩ := blkc4 BK557) | (go_at_call 90; (with_reducible refine (impl_IsPath.calls a1_0 a1_1 a1_2 a1_3 true _ A8.out).mono ?_); rintro e w15 ⟨rfl, hb⟩; replace BK556 := kb BK556 hb; replace BK557 := kb BK557 hb; replace HB := bs HB hb; (try clear hb); obtain ⟨_, _, _, _, _, _, _, _⟩ := blkc4 BK556; obtain ⟨_, _, _, _, _, _, _, _⟩ := blkc4 BK557))
     go_meet
     case rel => exact ⟨_, ((a1_1 == 2)), rS, H', ⟨oL⟩, ⟨bK BK556⟩, ⟨bK BK557⟩, ⟨bG⟩⟩
    rw [if_neg c10] at H
    have c10b0 : (a0_1 == 2) = false := beq_eq_false_iff_ne.mpr c10
    have c10b1 : (a0_1 != 2) = true := bne_iff_ne.mpr c10
    (first | rw [c10b0] | (simp only [i64_w, i32_w]; rw [c10b0]) | skip)
    have H' := Aside0.mk H
    clear H
    have hnb18 := NB556_557.out
    have hnc18 := NB557_556.out
    obtain ⟨_, _, _, _, _, _, _, _⟩ := blkc4 BK556
    go_wp2_with (first | ((with_reducible refine gate_callee (f := 90) rfl ?_); refine gL (some 6) Try.func90 #[.agg #[.int .i64 a0_0, .int .i64 a0_1, .int .i64 a0_2, .int .i64 a0_3]] ?_; (with_reducible refine (impl_IsPath.calls a0_0 a0_1 a0_2 a0_3 true _ A6.out).mono ?_); rintro e w20 ⟨rfl, hb⟩; refine ⟨_, rfl, ?_⟩; replace BK556 := kb BK556 hb; replace BK557 := kb BK557 hb; replace HB := bs HB hb; (try clear hb); obtain ⟨_, _, _, _, _, _, _, _⟩ := blkc4 BK557) | (go_at_call 90; (with_reducible refine (impl_IsPath.calls a1_0 a1_1 a1_2 a1_3 true _ A8.out).mono ?_); rintro e w22 ⟨rfl, hb⟩; replace BK556 := kb BK556 hb; replace BK557 := kb BK557 hb; replace HB := bs HB hb; (try clear hb); obtain ⟨_, _, _, _, _, _, _, _⟩ := blkc4 BK556))
    go_meet
    case rel => exact ⟨_, (false), rS, H', ⟨oL⟩, ⟨bK BK556⟩, ⟨bK BK557⟩, ⟨bG⟩⟩
   replace c9 := Bool.eq_false_iff.mpr c9
   subst c9
   have H1 : (impl_Conflict.j0 k true a0_0 a0_1 a0_2 a0_3 a1_0 a1_1 a1_2 a1_3) = some r := by rw [if_neg (show ¬ (false = true) by decide)] at H; exact H
   clear H
   have H := H1
   clear H1
   have H' := Aside0.mk H
   clear H
   have hnb24 := NB556_557.out
   have hnc24 := NB557_556.out
   obtain ⟨_, _, _, _, _, _, _, _⟩ := blkc4 BK556
   go_wp2_with (first | ((with_reducible refine gate_callee (f := 90) rfl ?_); refine gL (some 6) Try.func90 #[.agg #[.int .i64 a0_0, .int .i64 a0_1, .int .i64 a0_2, .int .i64 a0_3]] ?_; (with_reducible refine (impl_IsPath.calls a0_0 a0_1 a0_2 a0_3 true _ A6.out).mono ?_); rintro e w26 ⟨rfl, hb⟩; refine ⟨_, rfl, ?_⟩; replace BK556 := kb BK556 hb; replace BK557 := kb BK557 hb; replace HB := bs HB hb; (try clear hb); obtain ⟨_, _, _, _, _, _, _, _⟩ := blkc4 BK557) | (go_at_call 90; (with_reducible refine (impl_IsPath.calls a1_0 a1_1 a1_2 a1_3 false _ A8.out).mono ?_); rintro e w28 ⟨rfl, hb⟩; replace BK556 := kb BK556 hb; replace BK557 := kb BK557 hb; replace HB := bs HB hb; (try clear hb)))
   go_meet
   case rel => exact ⟨_, (true), rS, H', ⟨oL⟩, ⟨bK BK556⟩, ⟨bK BK557⟩, ⟨bG⟩⟩
  replace c7 := Bool.eq_false_iff.mpr c7
  subst c7
  have H1 : (impl_Conflict.j0 k true a0_0 a0_1 a0_2 a0_3 a1_0 a1_1 a1_2 a1_3) = some r := by rw [if_neg (show ¬ (false = true) by decide)] at H; exact H
  clear H
  have H := H1
  clear H1
  have H' := Aside0.mk H
  clear H
  have hnb29 := NB556_557.out
  have hnc29 := NB557_556.out
  obtain ⟨_, _, _, _, _, _, _, _⟩ := blkc4 BK556
  go_wp2_with (first | ((with_reducible refine gate_callee (f := 90) rfl ?_); refine gL (some 6) Try.func90 #[.agg #[.int .i64 a0_0, .int .i64 a0_1, .int .i64 a0_2, .int .i64 a0_3]] ?_; (with_reducible refine (impl_IsPath.calls a0_0 a0_1 a0_2 a0_3 false _ A6.out).mono ?_); rintro e w31 ⟨rfl, hb⟩; refine ⟨_, rfl, ?_⟩; replace BK556 := kb BK556 hb; replace BK557 := kb BK557 hb; replace HB := bs HB hb; (try clear hb)))
  go_meet
  case rel => exact ⟨_, (true), rS, H', ⟨oL⟩, ⟨bK BK556⟩, ⟨bK BK557⟩, ⟨bG⟩⟩
 case rest =>
  clear HC3
  obtain ⟨kq, x22_2, rfl, HA, HJ2, BK556, BK557, HB⟩ := hcut
  cases kq with
  | zero => exact absurd HA.out (by simp [impl_Conflict.j0])
  | succ kj2 =>
   have H := HA.out
   clear HA
   simp only [impl_Conflict.j0] at H
   by_cases c32 : x22_2 = true
   ·
    subst c32
    have H1 : (some false) = some r := by rw [if_pos rfl] at H; exact H
    clear H
    have H := H1
    clear H1
    obtain rfl := Option.some.inj H
    go_wp2
    go_ret
    exact ⟨rA, bG⟩
   replace c32 := Bool.eq_false_iff.mpr c32
   subst c32
   have H1 : (if a0_1 = 2 then (if a1_2 = a0_2 then (some true) else (some (a1_3 == a0_2))) else (if a1_1 = 2 then (if a0_2 = a1_2 then (some true) else (some (a0_3 == a1_2))) else (if a0_2 = a1_2 then ((impl_InPlace.f a0_2).bind fun t560 => ((impl_OutPlace.f a0_3).bind fun t561 => ((impl_InPlace.f a1_2).bind fun t562 => ((impl_OutPlace.f a1_3).bind fun t563 => ((impl_Interleave.f kj2 t560 t561 t562 t563).bind fun t564 => (some t564)))))) else (if a0_3 = a1_3 then (some true) else ((impl_InPlace.f a0_2).bind fun t565 => ((impl_OutPlace.f a0_3).bind fun t566 => ((impl_InPlace.f a1_2).bind fun t567 => ((impl_OutPlace.f a1_3).bind fun t568 => ((impl_Interleave.f kj2 t565 t566 t567 t568).bind fun t569 => (some t569)))))))))) = some r := by rw [if_neg (show ¬ (false = true) by decide)] at H; exact H
   clear H
   have H := H1
   clear H1
   by_cases c33 : a0_1 = 2
   ·
    rw [if_pos c33] at H
    have c33b0 : (a0_1 == 2) = true := beq_iff_eq.mpr c33
    have c33b1 : (a0_1 != 2) = false := bne_eq_false_iff_eq.mpr c33
    clear c33
    by_cases c34 : a1_2 = a0_2
    ·
     rw [if_pos c34] at H
     have c34b0 : (a1_2 == a0_2) = true := beq_iff_eq.mpr c34
     have c34b1 : (a1_2 != a0_2) = false := bne_eq_false_iff_eq.mpr c34
     clear c34
     obtain rfl := Option.some.inj H
     have hnb35 := NB556_557.out
     have hnc35 := NB557_556.out
     obtain ⟨_, _, _, _, _, _, _, _⟩ := blkc4 BK556
     obtain ⟨_, _, _, _, _, _, _, _⟩ := blkc4 BK557
     go_wp2
     go_ret
     exact ⟨rA, bG⟩
    rw [if_neg c34] at H
    have c34b0 : (a1_2 == a0_2) = false := beq_eq_false_iff_ne.mpr c34
    have c34b1 : (a1_2 != a0_2) = true := bne_iff_ne.mpr c34
    obtain rfl := Option.some.inj H
    have hnb38 := NB556_557.out
    have hnc38 := NB557_556.out
    obtain ⟨_, _, _, _, _, _, _, _⟩ := blkc4 BK556
    obtain ⟨_, _, _, _, _, _, _, _⟩ := blkc4 BK557
    go_wp2
    go_ret
    exact ⟨rA, bG⟩
   rw [if_neg c33] at H
   have c33b0 : (a0_1 == 2) = false := beq_eq_false_iff_ne.mpr c33
   have c33b1 : (a0_1 != 2) = true := bne_iff_ne.mpr c33
   by_cases c41 : a1_1 = 2
   ·
    rw [if_pos c41] at H
    have c41b0 : (a1_1 == 2) = true := beq_iff_eq.mpr c41
    have c41b1 : (a1_1 != 2) = false := bne_eq_false_iff_eq.mpr c41
    clear c41
    by_cases c42 : a0_2 = a1_2
    ·
     rw [if_pos c42] at H
     have c42b0 : (a0_2 == a1_2) = true := beq_iff_eq.mpr c42
     have c42b1 : (a0_2 != a1_2) = false := bne_eq_false_iff_eq.mpr c42
     clear c42
     obtain rfl := Option.some.inj H
     have hnb43 := NB556_557.out
     have hnc43 := NB557_556.out
     obtain ⟨_, _, _, _, _, _, _, _⟩ := blkc4 BK556
     obtain ⟨_, _, _, _, _, _, _, _⟩ := blkc4 BK557
     go_wp2
     go_ret
     exact ⟨rA, bG⟩
    rw [if_neg c42] at H
    have c42b0 : (a0_2 == a1_2) = false := beq_eq_false_iff_ne.mpr c42
    have c42b1 : (a0_2 != a1_2) = true := bne_iff_ne.mpr c42
    obtain rfl := Option.some.inj H
    have hnb46 := NB556_557.out
    have hnc46 := NB557_556.out
    obtain ⟨_, _, _, _, _, _, _, _⟩ := blkc4 BK556
    obtain ⟨_, _, _, _, _, _, _, _⟩ := blkc4 BK557
    go_wp2
    go_ret
    exact ⟨rA, bG⟩
   rw [if_neg c41] at H
   have c41b0 : (a1_1 == 2) = false := beq_eq_false_iff_ne.mpr c41
   have c41b1 : (a1_1 != 2) = true := bne_iff_ne.mpr c41
   by_cases c49 : a0_2 = a1_2
   ·
    rw [if_pos c49] at H
    have c49b0 : (a0_2 == a1_2) = true := beq_iff_eq.mpr c49
    have c49b1 : (a0_2 != a1_2) = false := bne_eq_false_iff_eq.mpr c49
    clear c49
    obtain ⟨t560, A50, H⟩ := bindE H
    try dsimp only at H
    obtain ⟨t561, A51, H⟩ := bindE H
    try dsimp only at H
    obtain ⟨t562, A52, H⟩ := bindE H
    try dsimp only at H
    obtain ⟨t563, A53, H⟩ := bindE H
    try dsimp only at H
    obtain ⟨t564, A54, H⟩ := bindE H
    try dsimp only at H
    obtain rfl := Option.some.inj H
    have hnb55 := NB556_557.out
    have hnc55 := NB557_556.out
    obtain ⟨_, _, _, _, _, _, _, _⟩ := blkc4 BK556
    obtain ⟨_, _, _, _, _, _, _, _⟩ := blkc4 BK557
    try go_wp2
    replace BK556 := dk BK556
    replace BK557 := dk BK557
    have HBo := HB
    replace HB := db HB
    refine sw (ds := []) 28 (mb 28 0) impl_Conflict.tab7 impl_Conflict.bits7 (h4c BK556 (h4 BK557)) (fun hHeld HT_ HW_ => ?_)
    generalize wc.drew = w58 at BK556 BK557 HB hHeld ⊢
    refine pa 0 53 (mb 28 1) HT_ ?_
    refine pa 2 55 (mb 28 5) HT_ ?_
    refine ta8 1 54 (mb 28 7) HT_ HW_ hHeld ?_
    refine ta8 3 56 (mb 28 15) HT_ HW_ hHeld ?_
    refine pa 4 57 (mb 28 31) HT_ ?_
    refine pa 5 58 (mb 28 63) HT_ ?_
    refine pu 6 59 (mb 28 127) HT_ ?_
    refine pu 7 60 (mb 28 255) HT_ ?_
    refine pu 8 61 (mb 28 511) HT_ ?_
    refine pu 9 62 (mb 28 1023) HT_ ?_
    refine pu 10 63 (mb 28 2047) HT_ ?_
    refine pa 11 64 (mb 28 4095) HT_ ?_
    refine pa 12 65 (mb 28 8191) HT_ ?_
    refine pa 13 66 (mb 28 16383) HT_ ?_
    refine pa 16 69 (mb 28 81919) HT_ ?_
    refine pa 19 72 (mb 28 606207) HT_ ?_
    refine pa 22 75 (mb 28 4800511) HT_ ?_
    refine ta8 14 67 (mb 28 4816895) HT_ HW_ hHeld ?_
    refine ta8 17 70 (mb 28 4947967) HT_ HW_ hHeld ?_
    refine ta8 20 73 (mb 28 5996543) HT_ HW_ hHeld ?_
    refine ta8 23 76 (mb 28 14385151) HT_ HW_ hHeld ?_
    refine oa 15 68 (mb 28 14417919) HT_ (fun K hK => ?_)
    refine gA Try.func140 #[.int .i64 a0_2] ?_
    with_reducible refine (impl_InPlace.calls a0_2 t560 _ A50.out).mono ?_
    rintro e w' ⟨rfl, ⟨nd, rfl⟩⟩
    refine ⟨_, rfl, ?_⟩
    refine hK.out _ _ (cm4 BK556 (cn4 BK557)) (fun hHeld => ?_)
    clear hK K
    refine nB ?_
    refine oa 18 71 (mb 28 14680063) HT_ (fun K hK => ?_)
    refine gA Try.func141 #[.int .i64 a0_3] ?_
    with_reducible refine (impl_OutPlace.calls a0_3 t561 _ A51.out).mono ?_
    rintro e w' ⟨rfl, ⟨nd, rfl⟩⟩
    refine ⟨_, rfl, ?_⟩
    refine hK.out _ _ (cm4 BK556 (cn4 BK557)) (fun hHeld => ?_)
    clear hK K
    refine nB ?_
    refine oa 21 74 (mb 28 16777215) HT_ (fun K hK => ?_)
    refine gA Try.func140 #[.int .i64 a1_2] ?_
    with_reducible refine (impl_InPlace.calls a1_2 t562 _ A52.out).mono ?_
    rintro e w' ⟨rfl, ⟨nd, rfl⟩⟩
    refine ⟨_, rfl, ?_⟩
    refine hK.out _ _ (cm4 BK556 (cn4 BK557)) (fun hHeld => ?_)
    clear hK K
    refine nB ?_
    refine oa 24 77 (mb 28 33554431) HT_ (fun K hK => ?_)
    refine gA Try.func141 #[.int .i64 a1_3] ?_
    with_reducible refine (impl_OutPlace.calls a1_3 t563 _ A53.out).mono ?_
    rintro e w' ⟨rfl, ⟨nd, rfl⟩⟩
    refine ⟨_, rfl, ?_⟩
    refine hK.out _ _ (cm4 BK556 (cn4 BK557)) (fun hHeld => ?_)
    clear hK K
    refine nB ?_
    refine oa 25 78 (mb 28 67108863) HT_ (fun K hK => ?_)
    refine gA Try.func139 #[.int .i64 t560, .int .i64 t561, .int .i64 t562, .int .i64 t563] ?_
    with_reducible refine (impl_Interleave.calls kj2 t560 t561 t562 t563 t564 _ A54.out).mono ?_
    rintro e w59 ⟨rfl, hb⟩
    refine ⟨_, rfl, ?_⟩
    replace BK556 := kb BK556 hb
    replace BK557 := kb BK557 hb
    replace HB := bs HB hb
    (try clear hb)
    (try clear hb2)
    (try clear hk)
    (try clear hi)
    refine hK.out _ _ (cm4 BK556 (cn4 BK557)) (fun hHeld => ?_)
    clear hK K
    refine nB ?_
    refine pa 26 79 (mb 28 134217727) HT_ ?_
    refine pa 27 4 (mb 28 268435455) HT_ ?_
    refine eA HT_ ?_
    try go_wp2
    go_ret
    exact ⟨rA, bG⟩
   rw [if_neg c49] at H
   have c49b0 : (a0_2 == a1_2) = false := beq_eq_false_iff_ne.mpr c49
   have c49b1 : (a0_2 != a1_2) = true := bne_iff_ne.mpr c49
   by_cases c60 : a0_3 = a1_3
   ·
    rw [if_pos c60] at H
    have c60b0 : (a0_3 == a1_3) = true := beq_iff_eq.mpr c60
    have c60b1 : (a0_3 != a1_3) = false := bne_eq_false_iff_eq.mpr c60
    clear c60
    obtain rfl := Option.some.inj H
    have hnb61 := NB556_557.out
    have hnc61 := NB557_556.out
    obtain ⟨_, _, _, _, _, _, _, _⟩ := blkc4 BK556
    obtain ⟨_, _, _, _, _, _, _, _⟩ := blkc4 BK557
    try go_wp2
    replace BK556 := dk BK556
    replace BK557 := dk BK557
    have HBo := HB
    replace HB := db HB
    refine sw (ds := []) 28 (mb 28 0) impl_Conflict.tab7 impl_Conflict.bits7 (h4c BK556 (h4 BK557)) (fun hHeld HT_ HW_ => ?_)
    generalize wc.drew = w64 at BK556 BK557 HB hHeld ⊢
    refine pa 0 53 (mb 28 1) HT_ ?_
    refine pa 2 55 (mb 28 5) HT_ ?_
    refine ta8 1 54 (mb 28 7) HT_ HW_ hHeld ?_
    refine ta8 3 56 (mb 28 15) HT_ HW_ hHeld ?_
    refine pa 4 57 (mb 28 31) HT_ ?_
    refine pa 5 58 (mb 28 63) HT_ ?_
    refine pa 6 59 (mb 28 127) HT_ ?_
    refine pa 8 61 (mb 28 383) HT_ ?_
    refine ta8 7 60 (mb 28 511) HT_ HW_ hHeld ?_
    refine ta8 9 62 (mb 28 1023) HT_ HW_ hHeld ?_
    refine pa 10 63 (mb 28 2047) HT_ ?_
    refine pa 11 64 (mb 28 4095) HT_ ?_
    refine pa 12 65 (mb 28 8191) HT_ ?_
    refine pu 13 66 (mb 28 16383) HT_ ?_
    refine pu 14 67 (mb 28 32767) HT_ ?_
    refine pu 15 68 (mb 28 65535) HT_ ?_
    refine pu 16 69 (mb 28 131071) HT_ ?_
    refine pu 17 70 (mb 28 262143) HT_ ?_
    refine pu 18 71 (mb 28 524287) HT_ ?_
    refine pu 19 72 (mb 28 1048575) HT_ ?_
    refine pu 20 73 (mb 28 2097151) HT_ ?_
    refine pu 21 74 (mb 28 4194303) HT_ ?_
    refine pu 22 75 (mb 28 8388607) HT_ ?_
    refine pu 23 76 (mb 28 16777215) HT_ ?_
    refine pu 24 77 (mb 28 33554431) HT_ ?_
    refine pu 25 78 (mb 28 67108863) HT_ ?_
    refine pa 26 79 (mb 28 134217727) HT_ ?_
    refine pa 27 4 (mb 28 268435455) HT_ ?_
    refine eA HT_ ?_
    try go_wp2
    go_ret
    exact ⟨rA, bG⟩
   rw [if_neg c60] at H
   have c60b0 : (a0_3 == a1_3) = false := beq_eq_false_iff_ne.mpr c60
   have c60b1 : (a0_3 != a1_3) = true := bne_iff_ne.mpr c60
   obtain ⟨t565, A65, H⟩ := bindE H
   try dsimp only at H
   obtain ⟨t566, A66, H⟩ := bindE H
   try dsimp only at H
   obtain ⟨t567, A67, H⟩ := bindE H
   try dsimp only at H
   obtain ⟨t568, A68, H⟩ := bindE H
   try dsimp only at H
   obtain ⟨t569, A69, H⟩ := bindE H
   try dsimp only at H
   obtain rfl := Option.some.inj H
   have hnb70 := NB556_557.out
   have hnc70 := NB557_556.out
   obtain ⟨_, _, _, _, _, _, _, _⟩ := blkc4 BK556
   obtain ⟨_, _, _, _, _, _, _, _⟩ := blkc4 BK557
   try go_wp2
   replace BK556 := dk BK556
   replace BK557 := dk BK557
   have HBo := HB
   replace HB := db HB
   refine sw (ds := []) 28 (mb 28 0) impl_Conflict.tab7 impl_Conflict.bits7 (h4c BK556 (h4 BK557)) (fun hHeld HT_ HW_ => ?_)
   generalize wc.drew = w73 at BK556 BK557 HB hHeld ⊢
   refine pa 0 53 (mb 28 1) HT_ ?_
   refine pa 2 55 (mb 28 5) HT_ ?_
   refine ta8 1 54 (mb 28 7) HT_ HW_ hHeld ?_
   refine ta8 3 56 (mb 28 15) HT_ HW_ hHeld ?_
   refine pa 4 57 (mb 28 31) HT_ ?_
   refine pa 5 58 (mb 28 63) HT_ ?_
   refine pa 6 59 (mb 28 127) HT_ ?_
   refine pa 8 61 (mb 28 383) HT_ ?_
   refine ta8 7 60 (mb 28 511) HT_ HW_ hHeld ?_
   refine ta8 9 62 (mb 28 1023) HT_ HW_ hHeld ?_
   refine pa 10 63 (mb 28 2047) HT_ ?_
   refine pa 11 64 (mb 28 4095) HT_ ?_
   refine pa 12 65 (mb 28 8191) HT_ ?_
   refine pa 13 66 (mb 28 16383) HT_ ?_
   refine pa 16 69 (mb 28 81919) HT_ ?_
   refine pa 19 72 (mb 28 606207) HT_ ?_
   refine pa 22 75 (mb 28 4800511) HT_ ?_
   refine ta8 14 67 (mb 28 4816895) HT_ HW_ hHeld ?_
   refine ta8 17 70 (mb 28 4947967) HT_ HW_ hHeld ?_
   refine ta8 20 73 (mb 28 5996543) HT_ HW_ hHeld ?_
   refine ta8 23 76 (mb 28 14385151) HT_ HW_ hHeld ?_
   refine oa 15 68 (mb 28 14417919) HT_ (fun K hK => ?_)
   refine gA Try.func140 #[.int .i64 a0_2] ?_
   with_reducible refine (impl_InPlace.calls a0_2 t565 _ A65.out).mono ?_
   rintro e w' ⟨rfl, ⟨nd, rfl⟩⟩
   refine ⟨_, rfl, ?_⟩
   refine hK.out _ _ (cm4 BK556 (cn4 BK557)) (fun hHeld => ?_)
   clear hK K
   refine nB ?_
   refine oa 18 71 (mb 28 14680063) HT_ (fun K hK => ?_)
   refine gA Try.func141 #[.int .i64 a0_3] ?_
   with_reducible refine (impl_OutPlace.calls a0_3 t566 _ A66.out).mono ?_
   rintro e w' ⟨rfl, ⟨nd, rfl⟩⟩
   refine ⟨_, rfl, ?_⟩
   refine hK.out _ _ (cm4 BK556 (cn4 BK557)) (fun hHeld => ?_)
   clear hK K
   refine nB ?_
   refine oa 21 74 (mb 28 16777215) HT_ (fun K hK => ?_)
   refine gA Try.func140 #[.int .i64 a1_2] ?_
   with_reducible refine (impl_InPlace.calls a1_2 t567 _ A67.out).mono ?_
   rintro e w' ⟨rfl, ⟨nd, rfl⟩⟩
   refine ⟨_, rfl, ?_⟩
   refine hK.out _ _ (cm4 BK556 (cn4 BK557)) (fun hHeld => ?_)
   clear hK K
   refine nB ?_
   refine oa 24 77 (mb 28 33554431) HT_ (fun K hK => ?_)
   refine gA Try.func141 #[.int .i64 a1_3] ?_
   with_reducible refine (impl_OutPlace.calls a1_3 t568 _ A68.out).mono ?_
   rintro e w' ⟨rfl, ⟨nd, rfl⟩⟩
   refine ⟨_, rfl, ?_⟩
   refine hK.out _ _ (cm4 BK556 (cn4 BK557)) (fun hHeld => ?_)
   clear hK K
   refine nB ?_
   refine oa 25 78 (mb 28 67108863) HT_ (fun K hK => ?_)
   refine gA Try.func139 #[.int .i64 t565, .int .i64 t566, .int .i64 t567, .int .i64 t568] ?_
   with_reducible refine (impl_Interleave.calls kj2 t565 t566 t567 t568 t569 _ A69.out).mono ?_
   rintro e w74 ⟨rfl, hb⟩
   refine ⟨_, rfl, ?_⟩
   replace BK556 := kb BK556 hb
   replace BK557 := kb BK557 hb
   replace HB := bs HB hb
   (try clear hb)
   (try clear hb2)
   (try clear hk)
   (try clear hi)
   refine hK.out _ _ (cm4 BK556 (cn4 BK557)) (fun hHeld => ?_)
   clear hK K
   refine nB ?_
   refine pa 26 79 (mb 28 134217727) HT_ ?_
   refine pa 27 4 (mb 28 268435455) HT_ ?_
   refine eA HT_ ?_
   try go_wp2
   go_ret
   exact ⟨rA, bG⟩

/-! ### impl_IsTogether: function 68 -/
mutual
def impl_IsTogether.l0 : Nat → List (S50) → List Int → List Int → Int → Int → Option (Bool)
 | 0, _, _, _, _, _ => none
 | k + 1, x0, x1, x13, x14, x15 => if x15 < x14 then (if 0 ≤ x15 then (if x15 < (x13.length : Int) then ((impl_FindPath.f x0 (rd x13 x15)).bind fun t572 => (if t572 < 0 then (impl_IsTogether.j1 k x0 x1 x15 t572 x13 x14 x15 true) else (if x15 > 0 then (if 0 ≤ (wrap64 (x15 - 1)) then (if (wrap64 (x15 - 1)) < (x1.length : Int) then (impl_IsTogether.j1 k x0 x1 x15 t572 x13 x14 x15 (decide ((rd x13 x15) ≤ (rd x1 (wrap64 (x15 - 1)))))) else (none)) else (none)) else (impl_IsTogether.j1 k x0 x1 x15 t572 x13 x14 x15 false)))) else (none)) else (none)) else (some true)
def impl_IsTogether.j1 : Nat → List (S50) → List Int → Int → Int → List Int → Int → Int → Bool → Option (Bool)
 | 0, _, _, _, _, _, _, _, _ => none
 | k + 1, x0, x1, x5, x7, x13, x14, x15, x37 => if x37 = true then (some false) else (if 0 ≤ x5 then (if x5 ≤ (x1.length : Int) then (impl_IsTogether.l1 k x0 x1 x7 x13 x14 x15 (x1.take (x5 : Int).toNat) ((x1.take (x5 : Int).toNat).length : Int) 0) else (none)) else (none))
def impl_IsTogether.l1 : Nat → List (S50) → List Int → Int → List Int → Int → Int → List Int → Int → Int → Option (Bool)
 | 0, _, _, _, _, _, _, _, _, _ => none
 | k + 1, x0, x1, x7, x13, x14, x15, x40, x41, x42 => if x42 < x41 then (if 0 ≤ x42 then (if x42 < (x40.length : Int) then (if 0 ≤ x7 then (if x7 < (x0.length : Int) then ((impl_FindPath.f x0 (rd x40 x42)).bind fun t577 => (if 0 ≤ t577 then (if t577 < (x0.length : Int) then ((impl_Conflict.f k ((rd_T50 x0 x7).f0) ((rd_T50 x0 x7).f1) ((rd_T50 x0 x7).f2) ((rd_T50 x0 x7).f3) ((rd_T50 x0 t577).f0) ((rd_T50 x0 t577).f1) ((rd_T50 x0 t577).f2) ((rd_T50 x0 t577).f3)).bind fun t579 => (if t579 = true then (some false) else (impl_IsTogether.l1 k x0 x1 x7 x13 x14 x15 x40 x41 (wrap64 (x42 + 1))))) else (none)) else (none))) else (none)) else (none)) else (none)) else (none)) else (impl_IsTogether.l0 k x0 x1 x13 x14 (wrap64 (x15 + 1)))
end
def impl_IsTogether.f (k : Nat) (l0 : List (S50)) (l1 : List Int) : Option (Bool) := (impl_ArePaths.f k l0).bind fun t570 => (if t570 = true then (impl_IsTogether.l0 k l0 l1 l1 (l1.length : Int) 0) else (some false))
theorem impl_IsTogether.mono_l : ∀ k, (∀ y0 y1 y2 y3 y4, LeO (impl_IsTogether.l0 k y0 y1 y2 y3 y4) (impl_IsTogether.l0 (k + 1) y0 y1 y2 y3 y4)) ∧ (∀ y0 y1 y2 y3 y4 y5 y6 y7, LeO (impl_IsTogether.j1 k y0 y1 y2 y3 y4 y5 y6 y7) (impl_IsTogether.j1 (k + 1) y0 y1 y2 y3 y4 y5 y6 y7)) ∧ (∀ y0 y1 y2 y3 y4 y5 y6 y7 y8, LeO (impl_IsTogether.l1 k y0 y1 y2 y3 y4 y5 y6 y7 y8) (impl_IsTogether.l1 (k + 1) y0 y1 y2 y3 y4 y5 y6 y7 y8))
 | 0 => ⟨fun _ _ _ _ _ r h => by simp [impl_IsTogether.l0] at h, fun _ _ _ _ _ _ _ _ r h => by simp [impl_IsTogether.j1] at h, fun _ _ _ _ _ _ _ _ _ r h => by simp [impl_IsTogether.l1] at h⟩
 | k + 1 => by
  obtain ⟨ih0, ih1, ih2⟩ := impl_IsTogether.mono_l k
  refine ⟨?_, ?_, ?_⟩
  ·
   intro y0 y1 y2 y3 y4
   unfold impl_IsTogether.l0
   exact mz5 ih0 ih1 ih2 impl_ArePaths.mono impl_Conflict.mono
  ·
   intro y0 y1 y2 y3 y4 y5 y6 y7
   unfold impl_IsTogether.j1
   exact mz5 ih0 ih1 ih2 impl_ArePaths.mono impl_Conflict.mono
  ·
   intro y0 y1 y2 y3 y4 y5 y6 y7 y8
   unfold impl_IsTogether.l1
   exact mz5 ih0 ih1 ih2 impl_ArePaths.mono impl_Conflict.mono
theorem impl_IsTogether.mono : ∀ a0 a1 k, LeO (impl_IsTogether.f k a0 a1) (impl_IsTogether.f (k + 1) a0 a1) := by
 intro a0 a1 k
 obtain ⟨ih0, ih1, ih2⟩ := impl_IsTogether.mono_l k
 unfold impl_IsTogether.f
 exact mz5 ih0 ih1 ih2 impl_ArePaths.mono impl_Conflict.mono
def impl_IsTogether.T12 : Bool × List (List Nat × List Nat) := (true, [([], []), ([], []), ([0, 1], [0, 1]), ([2], [2]), ([], []), ([], []), ([], []), ([5, 6], [5, 6]), ([4, 7], [4, 7]), ([8], [8]), ([3, 9, 7], [3, 9])])
def impl_IsTogether.B12 : List Nat := [0, 0, 3, 7, 0, 0, 0, 96, 240, 496, 1023]
theorem impl_IsTogether.tab12 : rtab .any (opsOf Try.f68 12) = impl_IsTogether.T12 := by kernel_rfl
theorem impl_IsTogether.bits12 : waitsOk impl_IsTogether.T12.2 impl_IsTogether.B12 = true := by kernel_rfl
set_option maxHeartbeats 8000000 in
set_option maxRecDepth 100000 in
theorem impl_IsTogether.calls (k : Nat) (A0 : Option Addr) (c0 : Nat) (l0 : List (S50)) (A1 : Option Addr) (c1 : Nat) (l1 : List Int) (r : Bool) (w : World) (hr0 : Kd.C k50 w A0 l0.length l0) (hc0 : l0.length ≤ c0) (hr1 : Kd.C (Kd.int .i64) w A1 l1.length l1) (hc1 : l1.length ≤ c1) (h : impl_IsTogether.f k l0 l1 = some r) :
  Calls Try.prog 68 #[.slice A0 l0.length c0, .slice A1 l1.length c1] w fun e w' => e = .returned (.bool r) ∧ Below w.heap.size w w' := by
 have hu50 := Try.underlying50
 have HR0 := Aside0.mk hr0
 have HC0 := Aside0.mk hc0
 clear hr0 hc0
 have HR1 := Aside0.mk hr1
 have HC1 := Aside0.mk hc1
 clear hr1 hc1
 have HB := Aside0.mk (Below.refl w.heap.size w)
 have H : ((impl_ArePaths.f k l0).bind fun t570 => (if t570 = true then (impl_IsTogether.l0 k l0 l1 l1 (l1.length : Int) 0) else (some false))) = some r := h
 clear h
 obtain ⟨t570, A3, H⟩ := bindE H
 try dsimp only at H
 by_cases c4 : t570 = true
 ·
  subst c4
  have H1 : (impl_IsTogether.l0 k l0 l1 l1 (l1.length : Int) 0) = some r := by rw [if_pos rfl] at H; exact H
  clear H
  have H := H1
  clear H1
  have H' := Aside0.mk H
  clear H
  go_enter Try.func68, Try.ntmps68
  go_wp2_with (first | ((with_reducible refine gate_callee (f := 32) rfl ?_); refine gL (some 11) Try.func32 #[.slice A0 l0.length c0] ?_; (with_reducible refine (impl_ArePaths.calls k _ _ l0 true _ ?_ ?_ A3.out).mono ?_); exact cO HR0; exact HC0.out; rintro e w5 ⟨rfl, hb⟩; refine ⟨_, rfl, ?_⟩; replace HB := bs HB hb; (try clear hb)))
  go_loopg [15] k (fun kq v15 w' => ∃ (x15_1 : Int), v15 = .int .i64 x15_1 ∧ Aside0 (impl_IsTogether.l0 kq l0 l1 l1 (l1.length : Int) x15_1 = some r) ∧ Aside0 (kq ≤ k) ∧ Aside0 (Below w.heap.size w w'))
  case atStart => exact ⟨(0), rS, H', ⟨Nat.le_refl _⟩, ⟨bA⟩⟩
  case round =>
   clear H'
   obtain ⟨x15_1, rfl, HA, HK1, HB⟩ := hrel
   cases gk with
   | zero => exact absurd HA.out (by simp [impl_IsTogether.l0])
   | succ k1 =>
    have H := HA.out
    clear HA
    simp only [impl_IsTogether.l0] at H
    by_cases c6 : x15_1 < (l1.length : Int)
    ·
     rw [if_pos c6] at H
     have c6b0 := decide_eq_true c6
     clear c6
     have c7 : 0 ≤ x15_1 := ifN H
     replace H := ifT H
     have c7b0 := decide_eq_true c7
     clear c7
     have c8 : x15_1 < (l1.length : Int) := ifN H
     replace H := ifT H
     have c8b0 := decide_eq_true c8
     clear c8
     obtain ⟨t572, A9, H⟩ := bindE H
     try dsimp only at H
     have HC10 := Aside0.mk H
     clear H
     obtain ⟨p571, q571⟩ : 0 ≤ (x15_1 : Int) ∧ x15_1 < (l1.length : Int) := ⟨dA, dA⟩
     obtain ⟨ad571, e571, hx571_0⟩ := Kd.at_int (Kd.C_below HR1.out HB.out) x15_1 p571 q571
     cases e571
     obtain ⟨p571, q571⟩ := eT p571 q571
     go_upto_region 7 with (first | ((with_reducible refine gate_callee (f := 16) rfl ?_); refine gL (some 22) Try.func16 #[.slice A0 l0.length c0, .int .i64 (rd l1 x15_1)] ?_; (with_reducible refine (impl_FindPath.calls _ _ l0 (rd l1 x15_1) t572 _ ?_ ?_ A9.out).mono ?_); exact cB HR0; exact HC0.out; rintro e w11 ⟨rfl, hb⟩; refine ⟨_, rfl, ?_⟩; replace HB := bs HB hb; (try clear hb)))
     (try simp only [Act.put, List.setIfInBounds_toArray, List.set_cons_zero, List.set_cons_succ])
     go_cut [37] (fun v37 wc => ∃ (kq : Nat) (x37_9 : Bool), v37 = .bool x37_9 ∧ Aside0 (impl_IsTogether.j1 kq l0 l1 x15_1 t572 l1 (l1.length : Int) x15_1 x37_9 = some r) ∧ Aside0 (kq ≤ k1) ∧ Aside0 (Below w.heap.size w wc))
     case first =>
      have H := HC10.out
      clear HC10
      by_cases c12 : t572 < 0
      ·
       rw [if_pos c12] at H
       have c12b0 := decide_eq_true c12
       clear c12
       (first | rw [c12b0] | (simp only [i64_w, i32_w]; rw [c12b0]) | skip)
       have H' := Aside0.mk H
       clear H
       go_wp2
       go_meet
       case rel => exact ⟨_, (true), rS, H', ⟨by have := HK1.out; first | omega | exact Nat.le_refl _⟩, ⟨bA⟩⟩
      rw [if_neg c12] at H
      have c12b0 := decide_eq_false c12
      clear c12
      (first | rw [c12b0] | (simp only [i64_w, i32_w]; rw [c12b0]) | skip)
      by_cases c13 : x15_1 > 0
      ·
       rw [if_pos c13] at H
       have c13b0 := decide_eq_true c13
       clear c13
       obtain ⟨ji14, hji14⟩ : ∃ j_ : Int, (wrap64 (x15_1 - 1)) = j_ := ⟨_, rfl⟩
       replace H : (if 0 ≤ (ji14) then (if (ji14) < (l1.length : Int) then (impl_IsTogether.j1 k1 l0 l1 x15_1 t572 l1 (l1.length : Int) x15_1 (decide ((rd l1 x15_1) ≤ (rd l1 (ji14))))) else (none)) else (none)) = some r := by first | (rw [hji14] at H; exact H) | (simp only [hji14] at H ⊢; exact H)
       have hji14w : (IntKind.i64.wrap (x15_1 - 1)) = ji14 := (i64_w _).trans hji14
       have c15 : 0 ≤ (ji14) := ifN H
       replace H := ifT H
       have c15b0 := decide_eq_true c15
       clear c15
       have c16 : (ji14) < (l1.length : Int) := ifN H
       replace H := ifT H
       have c16b0 := decide_eq_true c16
       clear c16
       have H' := Aside0.mk H
       clear H
       obtain ⟨p573, q573⟩ : 0 ≤ ((ji14) : Int) ∧ (ji14) < (l1.length : Int) := ⟨dA, dA⟩
       obtain ⟨ad573, e573, hx573_0⟩ := Kd.at_int (Kd.C_below HR1.out HB.out) (ji14) p573 q573
       obtain rfl : ad571 = ad573 := (by injection e573)
       obtain ⟨p573, q573⟩ := eT p573 q573
       go_wp2
       go_meet
       case rel => exact ⟨_, (decide ((rd l1 x15_1) ≤ (rd l1 (ji14)))), (by first | rfl | (simp; done) | (simp only [← hji14] <;> (first | rfl | simp)) | (simp [*]; done)), H', ⟨by have := HK1.out; first | omega | exact Nat.le_refl _⟩, ⟨bA⟩⟩
      rw [if_neg c13] at H
      have c13b0 := decide_eq_false c13
      clear c13
      have H' := Aside0.mk H
      clear H
      go_wp2
      go_meet
      case rel => exact ⟨_, (false), rS, H', ⟨by have := HK1.out; first | omega | exact Nat.le_refl _⟩, ⟨bA⟩⟩
     case rest =>
      clear HC10
      obtain ⟨kq, x37_9, rfl, HA, HJ9, HB⟩ := hcut
      cases kq with
      | zero => exact absurd HA.out (by simp [impl_IsTogether.j1])
      | succ kj9 =>
       have H := HA.out
       clear HA
       simp only [impl_IsTogether.j1] at H
       by_cases c17 : x37_9 = true
       ·
        subst c17
        have H1 : (some false) = some r := by rw [if_pos rfl] at H; exact H
        clear H
        have H := H1
        clear H1
        obtain rfl := Option.some.inj H
        go_wp2
        go_ret
        exact ⟨rA, bA⟩
       replace c17 := Bool.eq_false_iff.mpr c17
       subst c17
       have H1 : (if 0 ≤ x15_1 then (if x15_1 ≤ (l1.length : Int) then (impl_IsTogether.l1 kj9 l0 l1 t572 l1 (l1.length : Int) x15_1 (l1.take (x15_1 : Int).toNat) ((l1.take (x15_1 : Int).toNat).length : Int) 0) else (none)) else (none)) = some r := by rw [if_neg (show ¬ (false = true) by decide)] at H; exact H
       clear H
       have H := H1
       clear H1
       have c18 : 0 ≤ x15_1 := ifN H
       replace H := ifT H
       have c18b0 := eq_true c18
       have c18b1 := decide_eq_true c18
       clear c18
       have c19 : x15_1 ≤ (l1.length : Int) := ifN H
       replace H := ifT H
       have c19b0 := eq_true c19
       have c19b1 := decide_eq_true c19
       clear c19
       have H' := Aside0.mk H
       clear H
       obtain ⟨i020, hi020, _, hsz20, _⟩ := info_parts info3
       obtain ⟨hcut20, hA20, hC20⟩ := print_take_of (P := Try.prog) (Value.int .i64) 0 35 3 .i64 Try.underlying35 hi020 hsz20 (some ad571) c1 l1 x15_1 (dA) (dA) HC1.out
       have HR574 := Aside0.mk (Kd.C_of_reads (h1 := fun _ => rfl) (hA20 _ (Kd.reads_of_C HR1.out)))
       have HC574 := Aside0.mk hC20
       clear hA20 hC20 hi020 hsz20
       have HL574 := Aside0.mk (show (x15_1 : Int) ≤ (l1.length : Int) from (dA))
       go_wp2
       go_loopg [42] kj9 (fun kq v42 w' => ∃ (x42_3 : Int), v42 = .int .i64 x42_3 ∧ Aside0 (impl_IsTogether.l1 kq l0 l1 t572 l1 (l1.length : Int) x15_1 (l1.take (x15_1 : Int).toNat) ((l1.take (x15_1 : Int).toNat).length : Int) x42_3 = some r) ∧ Aside0 (kq ≤ kj9) ∧ Aside0 (Below w.heap.size w w'))
       case atStart => exact ⟨(0), rS, H', ⟨Nat.le_refl _⟩, ⟨bA⟩⟩
       case round =>
        clear H'
        obtain ⟨x42_3, rfl, HA, HK3, HB⟩ := hrel
        cases gk with
        | zero => exact absurd HA.out (by simp [impl_IsTogether.l1])
        | succ k3 =>
         have H := HA.out
         clear HA
         simp only [impl_IsTogether.l1] at H
         by_cases c21 : x42_3 < ((l1.take (x15_1 : Int).toNat).length : Int)
         ·
          rw [if_pos c21] at H
          have c21b0 := decide_eq_true c21
          (try (have c21b1 : decide (x42_3 < max x15_1 0) = true := decide_eq_true (by rw [List.length_take] at c21; omega)))
          clear c21
          have c22 : 0 ≤ x42_3 := ifN H
          replace H := ifT H
          have c22b0 := decide_eq_true c22
          clear c22
          have c23 : x42_3 < ((l1.take (x15_1 : Int).toNat).length : Int) := ifN H
          replace H := ifT H
          have c23b0 := decide_eq_true c23
          (try (have c23b1 : decide (x42_3 < max x15_1 0) = true := decide_eq_true (by rw [List.length_take] at c23; omega)))
          clear c23
          have c24 : 0 ≤ t572 := ifN H
          replace H := ifT H
          have c24b0 := decide_eq_true c24
          clear c24
          have c25 : t572 < (l0.length : Int) := ifN H
          replace H := ifT H
          have c25b0 := decide_eq_true c25
          clear c25
          obtain ⟨t577, A26, H⟩ := bindE H
          try dsimp only at H
          have c27 : 0 ≤ t577 := ifN H
          replace H := ifT H
          have c27b0 := decide_eq_true c27
          clear c27
          have c28 : t577 < (l0.length : Int) := ifN H
          replace H := ifT H
          have c28b0 := decide_eq_true c28
          clear c28
          obtain ⟨t579, A29, H⟩ := bindE H
          try dsimp only at H
          by_cases c30 : t579 = true
          ·
           subst c30
           have H1 : (some false) = some r := by rw [if_pos rfl] at H; exact H
           clear H
           have H := H1
           clear H1
           obtain rfl := Option.some.inj H
           obtain ⟨p575, q575⟩ : 0 ≤ (x42_3 : Int) ∧ x42_3 < ((l1.take (x15_1 : Int).toNat).length : Int) := ⟨dA, dA⟩
           (try have q575m : (x42_3 < max x15_1 0) = True := eq_true (of_decide_eq_true (by assumption)))
           obtain ⟨ad575, e575, hx575_0⟩ := Kd.at_int (Kd.C_below HR574.out HB.out) x42_3 p575 q575
           obtain rfl : ad571 = ad575 := (by injection e575)
           obtain ⟨p575, q575⟩ := eT p575 q575
           try go_wp2
           have HBo := HB
           replace HB := db HB
           obtain ⟨p576, q576⟩ : 0 ≤ (t572 : Int) ∧ t572 < (l0.length : Int) := ⟨dA, dA⟩
           obtain ⟨ad576, e576, hx576_0, hx576_1, hx576_2, hx576_3⟩ := at_T50 HR0.out t572 p576 q576
           have hw576_3 := hx576_3
           have hw576_2 := hx576_2
           have hw576_1 := hx576_1
           have hw576_0 := hx576_0
           cases e576
           replace hx576_0 := hC HB hx576_0
           replace hx576_1 := hC HB hx576_1
           replace hx576_2 := hC HB hx576_2
           replace hx576_3 := hC HB hx576_3
           obtain ⟨p576, q576⟩ := eT p576 q576
           obtain ⟨p578, q578⟩ : 0 ≤ (t577 : Int) ∧ t577 < (l0.length : Int) := ⟨dA, dA⟩
           obtain ⟨ad578, e578, hx578_0, hx578_1, hx578_2, hx578_3⟩ := at_T50 HR0.out t577 p578 q578
           have hw578_3 := hx578_3
           have hw578_2 := hx578_2
           have hw578_1 := hx578_1
           have hw578_0 := hx578_0
           obtain rfl : ad576 = ad578 := (by injection e578)
           replace hx578_0 := hC HB hx578_0
           replace hx578_1 := hC HB hx578_1
           replace hx578_2 := hC HB hx578_2
           replace hx578_3 := hC HB hx578_3
           obtain ⟨p578, q578⟩ := eT p578 q578
           refine sw (ds := []) 11 (mb 11 0) impl_IsTogether.tab12 impl_IsTogether.bits12 (h1c (hC HB hw576_0) (h1c (hC HB hw576_1) (h1c (hC HB hw576_2) (h1c (hC HB hw576_3) (h1c (hC HB hw578_0) (h1c (hC HB hw578_1) (h1c (hC HB hw578_2) (h1 (hC HB hw578_3))))))))) (fun hHeld HT_ HW_ => ?_)
           generalize wr.drew = w31 at HB hx576_0 hx576_1 hx576_2 hx576_3 hx578_0 hx578_1 hx578_2 hx578_3 hHeld ⊢
           refine pa 0 46 (mb 11 1) HT_ ?_
           refine pa 1 47 (mb 11 3) HT_ ?_
           refine pa 2 48 (mb 11 7) HT_ ?_
           refine pa 4 50 (mb 11 23) HT_ ?_
           refine pa 5 51 (mb 11 55) HT_ ?_
           refine pa 6 52 (mb 11 119) HT_ ?_
           refine ta8 3 49 (mb 11 127) HT_ HW_ hHeld ?_
           refine oa 7 53 (mb 11 255) HT_ (fun K hK => ?_)
           refine gA Try.func16 #[.slice (some ad576) l0.length c0, .int .i64 (rd (l1.take (x15_1 : Int).toNat) x42_3)] ?_
           with_reducible refine (impl_FindPath.calls _ _ l0 (rd (l1.take (x15_1 : Int).toNat) x42_3) t577 _ ?side1 ?side2 A26.out).mono ?_
           (case side1 => exact cB HR0)
           (case side2 => exact HC0.out)
           rintro e w32 ⟨rfl, hb⟩
           refine ⟨_, rfl, ?_⟩
           replace HB := bs HB hb
           (try clear hb)
           (try clear hb2)
           (try clear hk)
           (try clear hi)
           refine hK.out _ _ ⟨(hC HB hw576_0), (hC HB hw576_1), (hC HB hw576_2), (hC HB hw576_3), (hC HB hw578_0), (hC HB hw578_1), (hC HB hw578_2), (hC HB hw578_3)⟩ (fun hHeld => ?_)
           clear hK K
           refine nB ?_
           refine pa 8 54 (mb 11 511) HT_ ?_
           refine ta8 9 55 (mb 11 1023) HT_ HW_ hHeld ?_
           refine oa 10 56 (mb 11 2047) HT_ (fun K hK => ?_)
           refine gA Try.func101 #[.agg #[.int .i64 ((rd_T50 l0 t572).f0), .int .i64 ((rd_T50 l0 t572).f1), .int .i64 ((rd_T50 l0 t572).f2), .int .i64 ((rd_T50 l0 t572).f3)], .agg #[.int .i64 ((rd_T50 l0 t577).f0), .int .i64 ((rd_T50 l0 t577).f1), .int .i64 ((rd_T50 l0 t577).f2), .int .i64 ((rd_T50 l0 t577).f3)]] ?_
           with_reducible refine (impl_Conflict.calls k3 ((rd_T50 l0 t572).f0) ((rd_T50 l0 t572).f1) ((rd_T50 l0 t572).f2) ((rd_T50 l0 t572).f3) ((rd_T50 l0 t577).f0) ((rd_T50 l0 t577).f1) ((rd_T50 l0 t577).f2) ((rd_T50 l0 t577).f3) true _ A29.out).mono ?_
           rintro e w33 ⟨rfl, hb⟩
           refine ⟨_, rfl, ?_⟩
           replace HB := bs HB hb
           (try clear hb)
           (try clear hb2)
           (try clear hk)
           (try clear hi)
           refine hK.out _ _ ⟨(hC HB hw576_0), (hC HB hw576_1), (hC HB hw576_2), (hC HB hw576_3), (hC HB hw578_0), (hC HB hw578_1), (hC HB hw578_2), (hC HB hw578_3)⟩ (fun hHeld => ?_)
           clear hK K
           refine nB ?_
           refine eA HT_ ?_
           try go_wp2
           go_ret
           exact ⟨rA, bA⟩
          replace c30 := Bool.eq_false_iff.mpr c30
          subst c30
          have H1 : (impl_IsTogether.l1 k3 l0 l1 t572 l1 (l1.length : Int) x15_1 (l1.take (x15_1 : Int).toNat) ((l1.take (x15_1 : Int).toNat).length : Int) (wrap64 (x42_3 + 1))) = some r := by rw [if_neg (show ¬ (false = true) by decide)] at H; exact H
          clear H
          have H := H1
          clear H1
          have H' := Aside0.mk H
          clear H
          obtain ⟨p575, q575⟩ : 0 ≤ (x42_3 : Int) ∧ x42_3 < ((l1.take (x15_1 : Int).toNat).length : Int) := ⟨dA, dA⟩
          (try have q575m : (x42_3 < max x15_1 0) = True := eq_true (of_decide_eq_true (by assumption)))
          obtain ⟨ad575, e575, hx575_0⟩ := Kd.at_int (Kd.C_below HR574.out HB.out) x42_3 p575 q575
          obtain rfl : ad571 = ad575 := (by injection e575)
          obtain ⟨p575, q575⟩ := eT p575 q575
          try go_wp2
          have HBo := HB
          replace HB := db HB
          obtain ⟨p576, q576⟩ : 0 ≤ (t572 : Int) ∧ t572 < (l0.length : Int) := ⟨dA, dA⟩
          obtain ⟨ad576, e576, hx576_0, hx576_1, hx576_2, hx576_3⟩ := at_T50 HR0.out t572 p576 q576
          have hw576_3 := hx576_3
          have hw576_2 := hx576_2
          have hw576_1 := hx576_1
          have hw576_0 := hx576_0
          cases e576
          replace hx576_0 := hC HB hx576_0
          replace hx576_1 := hC HB hx576_1
          replace hx576_2 := hC HB hx576_2
          replace hx576_3 := hC HB hx576_3
          obtain ⟨p576, q576⟩ := eT p576 q576
          obtain ⟨p578, q578⟩ : 0 ≤ (t577 : Int) ∧ t577 < (l0.length : Int) := ⟨dA, dA⟩
          obtain ⟨ad578, e578, hx578_0, hx578_1, hx578_2, hx578_3⟩ := at_T50 HR0.out t577 p578 q578
          have hw578_3 := hx578_3
          have hw578_2 := hx578_2
          have hw578_1 := hx578_1
          have hw578_0 := hx578_0
          obtain rfl : ad576 = ad578 := (by injection e578)
          replace hx578_0 := hC HB hx578_0
          replace hx578_1 := hC HB hx578_1
          replace hx578_2 := hC HB hx578_2
          replace hx578_3 := hC HB hx578_3
          obtain ⟨p578, q578⟩ := eT p578 q578
          refine sw (ds := []) 11 (mb 11 0) impl_IsTogether.tab12 impl_IsTogether.bits12 (h1c (hC HB hw576_0) (h1c (hC HB hw576_1) (h1c (hC HB hw576_2) (h1c (hC HB hw576_3) (h1c (hC HB hw578_0) (h1c (hC HB hw578_1) (h1c (hC HB hw578_2) (h1 (hC HB hw578_3))))))))) (fun hHeld HT_ HW_ => ?_)
          generalize wr.drew = w34 at HB hx576_0 hx576_1 hx576_2 hx576_3 hx578_0 hx578_1 hx578_2 hx578_3 hHeld ⊢
          refine pa 0 46 (mb 11 1) HT_ ?_
          refine pa 1 47 (mb 11 3) HT_ ?_
          refine pa 2 48 (mb 11 7) HT_ ?_
          refine pa 4 50 (mb 11 23) HT_ ?_
          refine pa 5 51 (mb 11 55) HT_ ?_
          refine pa 6 52 (mb 11 119) HT_ ?_
          refine ta8 3 49 (mb 11 127) HT_ HW_ hHeld ?_
          refine oa 7 53 (mb 11 255) HT_ (fun K hK => ?_)
          refine gA Try.func16 #[.slice (some ad576) l0.length c0, .int .i64 (rd (l1.take (x15_1 : Int).toNat) x42_3)] ?_
          with_reducible refine (impl_FindPath.calls _ _ l0 (rd (l1.take (x15_1 : Int).toNat) x42_3) t577 _ ?side1 ?side2 A26.out).mono ?_
          (case side1 => exact cB HR0)
          (case side2 => exact HC0.out)
          rintro e w35 ⟨rfl, hb⟩
          refine ⟨_, rfl, ?_⟩
          replace HB := bs HB hb
          (try clear hb)
          (try clear hb2)
          (try clear hk)
          (try clear hi)
          refine hK.out _ _ ⟨(hC HB hw576_0), (hC HB hw576_1), (hC HB hw576_2), (hC HB hw576_3), (hC HB hw578_0), (hC HB hw578_1), (hC HB hw578_2), (hC HB hw578_3)⟩ (fun hHeld => ?_)
          clear hK K
          refine nB ?_
          refine pa 8 54 (mb 11 511) HT_ ?_
          refine ta8 9 55 (mb 11 1023) HT_ HW_ hHeld ?_
          refine oa 10 56 (mb 11 2047) HT_ (fun K hK => ?_)
          refine gA Try.func101 #[.agg #[.int .i64 ((rd_T50 l0 t572).f0), .int .i64 ((rd_T50 l0 t572).f1), .int .i64 ((rd_T50 l0 t572).f2), .int .i64 ((rd_T50 l0 t572).f3)], .agg #[.int .i64 ((rd_T50 l0 t577).f0), .int .i64 ((rd_T50 l0 t577).f1), .int .i64 ((rd_T50 l0 t577).f2), .int .i64 ((rd_T50 l0 t577).f3)]] ?_
          with_reducible refine (impl_Conflict.calls k3 ((rd_T50 l0 t572).f0) ((rd_T50 l0 t572).f1) ((rd_T50 l0 t572).f2) ((rd_T50 l0 t572).f3) ((rd_T50 l0 t577).f0) ((rd_T50 l0 t577).f1) ((rd_T50 l0 t577).f2) ((rd_T50 l0 t577).f3) false _ A29.out).mono ?_
          rintro e w36 ⟨rfl, hb⟩
          refine ⟨_, rfl, ?_⟩
          replace HB := bs HB hb
          (try clear hb)
          (try clear hb2)
          (try clear hk)
          (try clear hi)
          refine hK.out _ _ ⟨(hC HB hw576_0), (hC HB hw576_1), (hC HB hw576_2), (hC HB hw576_3), (hC HB hw578_0), (hC HB hw578_1), (hC HB hw578_2), (hC HB hw578_3)⟩ (fun hHeld => ?_)
          clear hK K
          refine nB ?_
          refine eA HT_ ?_
          try go_wp2
          go_roundg k3
          case measure => have := HK1.out; have := HJ9.out; have := HK3.out; omega
          case rel => exact ⟨(wrap64 (x42_3 + 1)), rS, H', ⟨by have := HK1.out; have := HJ9.out; have := HK3.out; omega⟩, ⟨bA⟩⟩
         rw [if_neg c21] at H
         have c21b0 := decide_eq_false c21
         (try (have c21b1 : decide (x42_3 < max x15_1 0) = false := decide_eq_false (by have g_ : x15_1 ≤ (l1.length : Int) := (by first | exact dA | exact Int.le_of_lt dA | exact (show Aside0 (x15_1 ≤ (l1.length : Int)) by assumption).out); rw [List.length_take] at c21; omega)))
         clear c21
         have H' := Aside0.mk H
         clear H
         go_wp2
         go_roundg k3
         case measure => have := HK1.out; have := HJ9.out; have := HK3.out; omega
         case rel => exact ⟨(wrap64 (x15_1 + 1)), rS, H', ⟨by have := HK1.out; have := HJ9.out; have := HK3.out; omega⟩, ⟨bA⟩⟩
    rw [if_neg c6] at H
    have c6b0 := decide_eq_false c6
    clear c6
    obtain rfl := Option.some.inj H
    go_wp2
    go_ret
    exact ⟨rA, bA⟩
 replace c4 := Bool.eq_false_iff.mpr c4
 subst c4
 have H1 : (some false) = some r := by rw [if_neg (show ¬ (false = true) by decide)] at H; exact H
 clear H
 have H := H1
 clear H1
 obtain rfl := Option.some.inj H
 go_enter Try.func68, Try.ntmps68
 go_wp2_with (first | ((with_reducible refine gate_callee (f := 32) rfl ?_); refine gL (some 11) Try.func32 #[.slice A0 l0.length c0] ?_; (with_reducible refine (impl_ArePaths.calls k _ _ l0 false _ ?_ ?_ A3.out).mono ?_); exact cO HR0; exact HC0.out; rintro e w37 ⟨rfl, hb⟩; refine ⟨_, rfl, ?_⟩; replace HB := bs HB hb; (try clear hb)))
 go_ret
 exact ⟨rA, bA⟩

/-! ### impl_ClearOf: function 120 -/
def impl_ClearOf.f (a0_0 : Int) (a0_1 : Int) (a0_2 : Int) (a0_3 : Int) : Option (Int) := (impl_IsPath.f a0_0 a0_1 a0_2 a0_3).bind fun t581 => (if t581 = true then (if a0_1 = 1 then (some 2) else (if a0_1 = 3 then (some 3) else (some 5))) else (some 0))
set_option maxHeartbeats 8000000 in
set_option maxRecDepth 100000 in
theorem impl_ClearOf.calls (a0_0 : Int) (a0_1 : Int) (a0_2 : Int) (a0_3 : Int) (r : Int) (w : World) (h : impl_ClearOf.f a0_0 a0_1 a0_2 a0_3 = some r) :
  Calls Try.prog 120 #[.agg #[.int .i64 a0_0, .int .i64 a0_1, .int .i64 a0_2, .int .i64 a0_3]] w fun e w' => e = .returned (.int .i64 r) ∧ Below w.heap.size w w' := by
 have hu50 := Try.underlying50
 have HB := Aside0.mk (Below.refl w.heap.size w)
 have H : ((impl_IsPath.f a0_0 a0_1 a0_2 a0_3).bind fun t581 => (if t581 = true then (if a0_1 = 1 then (some 2) else (if a0_1 = 3 then (some 3) else (some 5))) else (some 0))) = some r := h
 clear h
 obtain ⟨t581, A2, H⟩ := bindE H
 try dsimp only at H
 by_cases c3 : t581 = true
 ·
  subst c3
  have H1 : (if a0_1 = 1 then (some 2) else (if a0_1 = 3 then (some 3) else (some 5))) = some r := by rw [if_pos rfl] at H; exact H
  clear H
  have H := H1
  clear H1
  by_cases c4 : a0_1 = 1
  ·
   rw [if_pos c4] at H
   have c4b0 : (a0_1 == 1) = true := beq_iff_eq.mpr c4
   have c4b1 : (a0_1 != 1) = false := bne_eq_false_iff_eq.mpr c4
   clear c4
   obtain rfl := Option.some.inj H
   go_enter Try.func120, Try.ntmps120
   go_wp2_with (first | ((with_reducible refine gate_dst (N := 1) rfl ?_); refine bE (N := 1) (cs := #[.int .i64 a0_0, .int .i64 a0_1, .int .i64 a0_2, .int .i64 a0_3]) (t := 50) ?_; intro gb580 hg w5 hbox hb; have BK580 := Aside0.mk (hbox); have GW580 := gw w hg; have GE580 := gw w hg; replace HB := bs HB hb; clear hb hbox hg; obtain ⟨_, _, _, _, _, _, _, _⟩ := blkc4 BK580) | ((with_reducible refine gate_callee (f := 90) rfl ?_); refine gL (some 4) Try.func90 #[.agg #[.int .i64 a0_0, .int .i64 a0_1, .int .i64 a0_2, .int .i64 a0_3]] ?_; (with_reducible refine (impl_IsPath.calls a0_0 a0_1 a0_2 a0_3 true _ A2.out).mono ?_); rintro e w7 ⟨rfl, hb⟩; refine ⟨_, rfl, ?_⟩; replace BK580 := kb BK580 hb; replace HB := bs HB hb; (try clear hb); obtain ⟨_, _, _, _, _, _, _, _⟩ := blkc4 BK580))
   go_ret
   exact ⟨rA, bG⟩
  rw [if_neg c4] at H
  have c4b0 : (a0_1 == 1) = false := beq_eq_false_iff_ne.mpr c4
  have c4b1 : (a0_1 != 1) = true := bne_iff_ne.mpr c4
  by_cases c9 : a0_1 = 3
  ·
   rw [if_pos c9] at H
   have c9b0 : (a0_1 == 3) = true := beq_iff_eq.mpr c9
   have c9b1 : (a0_1 != 3) = false := bne_eq_false_iff_eq.mpr c9
   clear c9
   obtain rfl := Option.some.inj H
   go_enter Try.func120, Try.ntmps120
   go_wp2_with (first | ((with_reducible refine gate_dst (N := 1) rfl ?_); refine bE (N := 1) (cs := #[.int .i64 a0_0, .int .i64 a0_1, .int .i64 a0_2, .int .i64 a0_3]) (t := 50) ?_; intro gb580 hg w10 hbox hb; have BK580 := Aside0.mk (hbox); have GW580 := gw w hg; have GE580 := gw w hg; replace HB := bs HB hb; clear hb hbox hg; obtain ⟨_, _, _, _, _, _, _, _⟩ := blkc4 BK580) | ((with_reducible refine gate_callee (f := 90) rfl ?_); refine gL (some 4) Try.func90 #[.agg #[.int .i64 a0_0, .int .i64 a0_1, .int .i64 a0_2, .int .i64 a0_3]] ?_; (with_reducible refine (impl_IsPath.calls a0_0 a0_1 a0_2 a0_3 true _ A2.out).mono ?_); rintro e w12 ⟨rfl, hb⟩; refine ⟨_, rfl, ?_⟩; replace BK580 := kb BK580 hb; replace HB := bs HB hb; (try clear hb); obtain ⟨_, _, _, _, _, _, _, _⟩ := blkc4 BK580))
   go_ret
   exact ⟨rA, bG⟩
  rw [if_neg c9] at H
  have c9b0 : (a0_1 == 3) = false := beq_eq_false_iff_ne.mpr c9
  have c9b1 : (a0_1 != 3) = true := bne_iff_ne.mpr c9
  obtain rfl := Option.some.inj H
  go_enter Try.func120, Try.ntmps120
  go_wp2_with (first | ((with_reducible refine gate_dst (N := 1) rfl ?_); refine bE (N := 1) (cs := #[.int .i64 a0_0, .int .i64 a0_1, .int .i64 a0_2, .int .i64 a0_3]) (t := 50) ?_; intro gb580 hg w14 hbox hb; have BK580 := Aside0.mk (hbox); have GW580 := gw w hg; have GE580 := gw w hg; replace HB := bs HB hb; clear hb hbox hg; obtain ⟨_, _, _, _, _, _, _, _⟩ := blkc4 BK580) | ((with_reducible refine gate_callee (f := 90) rfl ?_); refine gL (some 4) Try.func90 #[.agg #[.int .i64 a0_0, .int .i64 a0_1, .int .i64 a0_2, .int .i64 a0_3]] ?_; (with_reducible refine (impl_IsPath.calls a0_0 a0_1 a0_2 a0_3 true _ A2.out).mono ?_); rintro e w16 ⟨rfl, hb⟩; refine ⟨_, rfl, ?_⟩; replace BK580 := kb BK580 hb; replace HB := bs HB hb; (try clear hb); obtain ⟨_, _, _, _, _, _, _, _⟩ := blkc4 BK580))
  go_ret
  exact ⟨rA, bG⟩
 replace c3 := Bool.eq_false_iff.mpr c3
 subst c3
 have H1 : (some 0) = some r := by rw [if_neg (show ¬ (false = true) by decide)] at H; exact H
 clear H
 have H := H1
 clear H1
 obtain rfl := Option.some.inj H
 go_enter Try.func120, Try.ntmps120
 go_wp2_with (first | ((with_reducible refine gate_dst (N := 1) rfl ?_); refine bE (N := 1) (cs := #[.int .i64 a0_0, .int .i64 a0_1, .int .i64 a0_2, .int .i64 a0_3]) (t := 50) ?_; intro gb580 hg w18 hbox hb; have BK580 := Aside0.mk (hbox); have GW580 := gw w hg; have GE580 := gw w hg; replace HB := bs HB hb; clear hb hbox hg; obtain ⟨_, _, _, _, _, _, _, _⟩ := blkc4 BK580) | ((with_reducible refine gate_callee (f := 90) rfl ?_); refine gL (some 4) Try.func90 #[.agg #[.int .i64 a0_0, .int .i64 a0_1, .int .i64 a0_2, .int .i64 a0_3]] ?_; (with_reducible refine (impl_IsPath.calls a0_0 a0_1 a0_2 a0_3 false _ A2.out).mono ?_); rintro e w20 ⟨rfl, hb⟩; refine ⟨_, rfl, ?_⟩; replace BK580 := kb BK580 hb; replace HB := bs HB hb; (try clear hb)))
 go_ret
 exact ⟨rA, bG⟩

/-! ### slices_Index_int_int: function 142 -/
def slices_Index_int_int.l0 : Nat → List Int → Int → Int → Int → Option (Int)
 | 0, _, _, _, _ => none
 | k + 1, x0, x1, x7, x8 => if x8 < x7 then (if 0 ≤ x8 then (if x8 < (x0.length : Int) then (if x1 = (rd x0 x8) then (some x8) else (slices_Index_int_int.l0 k x0 x1 x7 (wrap64 (x8 + 1)))) else (none)) else (none)) else (some (-1))
def slices_Index_int_int.f (k : Nat) (l0 : List Int) (a1 : Int) : Option (Int) := slices_Index_int_int.l0 k l0 a1 (l0.length : Int) 0
theorem slices_Index_int_int.mono_l : ∀ k, (∀ y0 y1 y2 y3, LeO (slices_Index_int_int.l0 k y0 y1 y2 y3) (slices_Index_int_int.l0 (k + 1) y0 y1 y2 y3))
 | 0 => fun _ _ _ _ r h => by simp [slices_Index_int_int.l0] at h
 | k + 1 => by
  have ih0 := slices_Index_int_int.mono_l k
  ·
   intro y0 y1 y2 y3
   unfold slices_Index_int_int.l0
   exact mz1 ih0
theorem slices_Index_int_int.mono : ∀ a0 a1 k, LeO (slices_Index_int_int.f k a0 a1) (slices_Index_int_int.f (k + 1) a0 a1) := by
 intro a0 a1 k
 have ih0 := slices_Index_int_int.mono_l k
 unfold slices_Index_int_int.f
 exact mz1 ih0
set_option maxHeartbeats 8000000 in
set_option maxRecDepth 100000 in
theorem slices_Index_int_int.calls (k : Nat) (A0 : Option Addr) (c0 : Nat) (l0 : List Int) (a1 : Int) (r : Int) (w : World) (hr0 : Kd.C (Kd.int .i64) w A0 l0.length l0) (hc0 : l0.length ≤ c0) (h : slices_Index_int_int.f k l0 a1 = some r) :
  Calls Try.prog 142 #[.slice A0 l0.length c0, .int .i64 a1] w fun e w' => e = .returned (.int .i64 r) ∧ Drawn0 w w' := by
 have HR0 := Aside0.mk hr0
 have HC0 := Aside0.mk hc0
 clear hr0 hc0
 have H : (slices_Index_int_int.l0 k l0 a1 (l0.length : Int) 0) = some r := h
 clear h
 have H' := Aside0.mk H
 clear H
 go_enter Try.func142, Try.ntmps142
 go_wp2
 go_loopg [8] k (fun kq v8 w' => ∃ (x8_1 : Int), v8 = .int .i64 x8_1 ∧ Aside0 (slices_Index_int_int.l0 kq l0 a1 (l0.length : Int) x8_1 = some r) ∧ Aside0 (kq ≤ k) ∧ Drawn0 w w')
 case atStart => exact ⟨(0), rS, H', ⟨Nat.le_refl _⟩, by repeat (first | exact Drawn0.refl _ | apply Drawn0.step)⟩
 case round =>
  clear H'
  obtain ⟨x8_1, rfl, HA, HK1, ⟨m1, rfl⟩⟩ := hrel
  cases gk with
  | zero => exact absurd HA.out (by simp [slices_Index_int_int.l0])
  | succ k1 =>
   have H := HA.out
   clear HA
   simp only [slices_Index_int_int.l0] at H
   by_cases c3 : x8_1 < (l0.length : Int)
   ·
    rw [if_pos c3] at H
    have c3b0 := decide_eq_true c3
    clear c3
    have c4 : 0 ≤ x8_1 := ifN H
    replace H := ifT H
    have c4b0 := decide_eq_true c4
    clear c4
    have c5 : x8_1 < (l0.length : Int) := ifN H
    replace H := ifT H
    have c5b0 := decide_eq_true c5
    clear c5
    by_cases c6 : a1 = (rd l0 x8_1)
    ·
     rw [if_pos c6] at H
     have c6b0 : (a1 == (rd l0 x8_1)) = true := beq_iff_eq.mpr c6
     have c6b1 : (a1 != (rd l0 x8_1)) = false := bne_eq_false_iff_eq.mpr c6
     clear c6
     obtain rfl := Option.some.inj H
     obtain ⟨p582, q582⟩ : 0 ≤ (x8_1 : Int) ∧ x8_1 < (l0.length : Int) := ⟨dA, dA⟩
     obtain ⟨ad582, e582, hx582_0⟩ := Kd.at_int HR0.out x8_1 p582 q582
     cases e582
     obtain ⟨p582, q582⟩ := eT p582 q582
     go_wp2
     go_ret
     exact ⟨rS, dD⟩
    rw [if_neg c6] at H
    have c6b0 : (a1 == (rd l0 x8_1)) = false := beq_eq_false_iff_ne.mpr c6
    have c6b1 : (a1 != (rd l0 x8_1)) = true := bne_iff_ne.mpr c6
    have H' := Aside0.mk H
    clear H
    obtain ⟨p582, q582⟩ : 0 ≤ (x8_1 : Int) ∧ x8_1 < (l0.length : Int) := ⟨dA, dA⟩
    obtain ⟨ad582, e582, hx582_0⟩ := Kd.at_int HR0.out x8_1 p582 q582
    cases e582
    obtain ⟨p582, q582⟩ := eT p582 q582
    go_wp2
    go_roundg k1
    case measure => have := HK1.out; omega
    case rel => exact ⟨(wrap64 (x8_1 + 1)), rS, H', ⟨by have := HK1.out; omega⟩, by repeat (first | exact Drawn0.refl _ | apply Drawn0.step)⟩
   rw [if_neg c3] at H
   have c3b0 := decide_eq_false c3
   clear c3
   obtain rfl := Option.some.inj H
   go_wp2
   go_ret
   exact ⟨rS, dD⟩

/-! ### slices_Contains_int_int: function 102 -/
def slices_Contains_int_int.f (k : Nat) (l0 : List Int) (a1 : Int) : Option (Bool) := (slices_Index_int_int.f k l0 a1).bind fun t583 => (some (decide (t583 ≥ 0)))
theorem slices_Contains_int_int.mono : ∀ a0 a1 k, LeO (slices_Contains_int_int.f k a0 a1) (slices_Contains_int_int.f (k + 1) a0 a1) := by
 intro a0 a1 k
 unfold slices_Contains_int_int.f
 exact mz1 slices_Index_int_int.mono
set_option maxHeartbeats 8000000 in
set_option maxRecDepth 100000 in
theorem slices_Contains_int_int.calls (k : Nat) (A0 : Option Addr) (c0 : Nat) (l0 : List Int) (a1 : Int) (r : Bool) (w : World) (hr0 : Kd.C (Kd.int .i64) w A0 l0.length l0) (hc0 : l0.length ≤ c0) (h : slices_Contains_int_int.f k l0 a1 = some r) :
  Calls Try.prog 102 #[.slice A0 l0.length c0, .int .i64 a1] w fun e w' => e = .returned (.bool r) ∧ Drawn0 w w' := by
 have HR0 := Aside0.mk hr0
 have HC0 := Aside0.mk hc0
 clear hr0 hc0
 have H : ((slices_Index_int_int.f k l0 a1).bind fun t583 => (some (decide (t583 ≥ 0)))) = some r := h
 clear h
 obtain ⟨t583, A3, H⟩ := bindE H
 try dsimp only at H
 obtain rfl := Option.some.inj H
 go_enter Try.func102, Try.ntmps102
 go_wp2_with (first | ((with_reducible refine gate_callee (f := 142) rfl ?_); refine gL (some 7) Try.func142 #[.slice A0 l0.length c0, .int .i64 a1] ?_; (with_reducible refine (slices_Index_int_int.calls k _ _ l0 a1 t583 _ ?_ ?_ A3.out).mono ?_); exact cO HR0; exact HC0.out; rintro e w' ⟨rfl, ⟨nd, rfl⟩⟩; refine ⟨_, rfl, ?_⟩))
 go_ret
 exact ⟨rS, dD⟩

/-! ### impl_sieve: function 166 -/
def impl_sieve.l0 : Nat → List Int → Bool → List Int → List Int → Int → Int → Option (List Int)
 | 0, _, _, _, _, _, _ => none
 | k + 1, x1, x2, x7, x11, x12, x13 => if x13 < x12 then (if 0 ≤ x13 then (if x13 < (x11.length : Int) then ((slices_Contains_int_int.f k x1 (rd x11 x13)).bind fun t588 => (if (t588 == x2) = true then (if x7.length < 17592186044416 then (impl_sieve.l0 k x1 x2 (x7 ++ [rd x11 x13]) x11 x12 (wrap64 (x13 + 1))) else (none)) else (impl_sieve.l0 k x1 x2 x7 x11 x12 (wrap64 (x13 + 1))))) else (none)) else (none)) else (some x7)
def impl_sieve.f (k : Nat) (l0 : List Int) (l1 : List Int) (a2 : Bool) : Option (List Int) := impl_sieve.l0 k l1 a2 (([] : List Int)) l0 (l0.length : Int) 0
theorem impl_sieve.mono_l : ∀ k, (∀ y0 y1 y2 y3 y4 y5, LeO (impl_sieve.l0 k y0 y1 y2 y3 y4 y5) (impl_sieve.l0 (k + 1) y0 y1 y2 y3 y4 y5))
 | 0 => fun _ _ _ _ _ _ r h => by simp [impl_sieve.l0] at h
 | k + 1 => by
  have ih0 := impl_sieve.mono_l k
  ·
   intro y0 y1 y2 y3 y4 y5
   unfold impl_sieve.l0
   exact mz2 ih0 slices_Contains_int_int.mono
theorem impl_sieve.mono : ∀ a0 a1 a2 k, LeO (impl_sieve.f k a0 a1 a2) (impl_sieve.f (k + 1) a0 a1 a2) := by
 intro a0 a1 a2 k
 have ih0 := impl_sieve.mono_l k
 unfold impl_sieve.f
 exact mz2 ih0 slices_Contains_int_int.mono
set_option maxHeartbeats 8000000 in
set_option maxRecDepth 100000 in
theorem impl_sieve.calls (k : Nat) (A0 : Option Addr) (c0 : Nat) (l0 : List Int) (A1 : Option Addr) (c1 : Nat) (l1 : List Int) (a2 : Bool) (r : List Int) (w : World) (hr0 : Kd.C (Kd.int .i64) w A0 l0.length l0) (hc0 : l0.length ≤ c0) (hr1 : Kd.C (Kd.int .i64) w A1 l1.length l1) (hc1 : l1.length ≤ c1) (h : impl_sieve.f k l0 l1 a2 = some r) :
  Calls Try.prog 166 #[.slice A0 l0.length c0, .slice A1 l1.length c1, .bool a2] w fun e w' => ∃ v0_ : Value, e = .returned (v0_) ∧ Kd.R (Kd.int .i64) 3 w' w.heap.size (fun _ => True) v0_ r ∧ Below w.heap.size w w' := by
 have HR0 := Aside0.mk hr0
 have HC0 := Aside0.mk hc0
 clear hr0 hc0
 have HR1 := Aside0.mk hr1
 have HC1 := Aside0.mk hc1
 clear hr1 hc1
 have HB := Aside0.mk (Below.refl w.heap.size w)
 have H : (impl_sieve.l0 k l1 a2 (([] : List Int)) l0 (l0.length : Int) 0) = some r := h
 clear h
 obtain ⟨y584, hy584⟩ : ∃ y_ : List Int, y_ = (([] : List Int)) := ⟨_, rfl⟩
 replace H : (impl_sieve.l0 k l1 a2 y584 l0 (l0.length : Int) 0) = some r := rH H hy584
 have Ny584 := Aside0.mk hy584
 clear hy584
 have H' := Aside0.mk H
 clear H
 go_enter Try.func166, Try.ntmps166
 go_wp2_with (first | ((with_reducible refine gate_dst (N := 10) rfl ?_); refine Kd.R_lit (Kd.int .i64) _ 3 ?hg (N := 10) ?hd (xs := ([] : List Int)) (inner := []) (ok := fun _ => True) (okp := fun _ => True) ?hr ?hp (fun _ hk => hk) trivial (Below.refl _ _) (Nat.le_refl _) (by simp) ?_; (case hd => rfl); (case hg => rfl); (case hr => first | (go_simp; done) | (go_simp; rfl)); (case hp => exact (Reps.none _ _)); intro v585 w4 ho5 hb hg_ hnew_; clear hg_ hnew_; (first | rw [← Ny584.out] at ho5 | (simp only [Int.reduceToNat] at ho5; rw [← Ny584.out] at ho5)); have HO586 := rl w ho5; replace HB := bs HB hb; clear hb ho5))
 go_loopg [7, 13] k (fun kq v7 v13 w' => ∃ (x7_1 : List Int) (x13_1 : Int), v13 = .int .i64 x13_1 ∧ Aside0 (impl_sieve.l0 kq l1 a2 x7_1 l0 (l0.length : Int) x13_1 = some r) ∧ Aside0 (kq ≤ k) ∧ Aside0 (Kd.R (Kd.int .i64) 3 w' w.heap.size (fun _ => True) v7 x7_1) ∧ Aside0 (Below w.heap.size w w'))
 case atStart => exact ⟨(y584), (0), rS, H', ⟨Nat.le_refl _⟩, ⟨rK HO586⟩, ⟨bA⟩⟩
 case round =>
  clear H'
  obtain ⟨x7_1, x13_1, rfl, HA, HK1, HO_7, HB⟩ := hrel
  cases gk with
  | zero => exact absurd HA.out (by simp [impl_sieve.l0])
  | succ k1 =>
   have H := HA.out
   clear HA
   simp only [impl_sieve.l0] at H
   by_cases c6 : x13_1 < (l0.length : Int)
   ·
    rw [if_pos c6] at H
    have c6b0 := decide_eq_true c6
    clear c6
    have c7 : 0 ≤ x13_1 := ifN H
    replace H := ifT H
    have c7b0 := decide_eq_true c7
    clear c7
    have c8 : x13_1 < (l0.length : Int) := ifN H
    replace H := ifT H
    have c8b0 := decide_eq_true c8
    clear c8
    obtain ⟨t588, A9, H⟩ := bindE H
    try dsimp only at H
    by_cases c10 : (t588 == a2) = true
    ·
     rw [if_pos c10] at H
     have c10b0 : (t588 == a2) = true := c10
     (try (have c10b1 : decide (t588 = a2) = true := by simpa using c10))
     (try (have c10b2 : (t588 == a2) = true := by simpa using c10))
     clear c10
     have c11 : x7_1.length < 17592186044416 := ifN H
     replace H := ifT H
     have LMc11 := Aside0.mk c11
     clear c11
     obtain ⟨y589, hy589⟩ : ∃ y_ : List Int, y_ = (x7_1 ++ [rd l0 x13_1]) := ⟨_, rfl⟩
     replace H : (impl_sieve.l0 k1 l1 a2 y589 l0 (l0.length : Int) (wrap64 (x13_1 + 1))) = some r := rH H hy589
     have Ny589 := Aside0.mk hy589
     clear hy589
     have H' := Aside0.mk H
     clear H
     obtain ⟨p587, q587⟩ : 0 ≤ (x13_1 : Int) ∧ x13_1 < (l0.length : Int) := ⟨dA, dA⟩
     obtain ⟨ad587, e587, hx587_0⟩ := Kd.at_int (Kd.C_below HR0.out HB.out) x13_1 p587 q587
     cases e587
     obtain ⟨p587, q587⟩ := eT p587 q587
     go_wp2_with (first | ((with_reducible refine gate_callee (f := 102) rfl ?_); refine gL (some 19) Try.func102 #[.slice A1 l1.length c1, .int .i64 (rd l0 x13_1)] ?_; (with_reducible refine (slices_Contains_int_int.calls k1 _ _ l1 (rd l0 x13_1) t588 _ ?_ ?_ A9.out).mono ?_); exact cB HR1; exact HC1.out; rintro e w' ⟨rfl, ⟨nd, rfl⟩⟩; refine ⟨_, rfl, ?_⟩) | ((with_reducible refine gate_builtin (b := .append) (xs := #[.tmp 22, .tmp 24]) rfl ?_); at_builtin; refine Kd.R_append (Kd.int .i64) (w0 := w) w.heap.size rfl (.tmp 22) (.tmp 24) 35 3 (.int .i64 0) 8 rfl Try.underlying35 info3 rfl (by decide) (by omega) u7 x7_1 (rd l0 x13_1) [.int .i64 (rd l0 x13_1)] (fun _ => True) (fun _ => False) rfl rfl ?aP (fun _ hk => hk.elim) ?aF ?aO ?aB ?aS ?aL ?_; (case aP => exact rfl); (case aB => exact bA); (case aF => exact (fun _ _ => trivial)); (case aO => exact (rK HO_7)); (case aS => exact (below_size bA)); (case aL => have := LMc11.out; omega); intro v590 w12 ho hb hg hat; rw [← Ny589.out] at ho; have n0_ := Aside0.mk (hb); have n1_ := Aside0.mk (ho); clear HB; clear HO_7; have HB := n0_; have HO591 := n1_; clear n0_ n1_; clear ho hb hg hat))
     go_roundg k1
     case measure => have := HK1.out; omega
     case rel => exact ⟨(y589), (wrap64 (x13_1 + 1)), rS, H', ⟨by have := HK1.out; omega⟩, ⟨rK HO591⟩, ⟨bA⟩⟩
    rw [if_neg c10] at H
    have c10b0 : (t588 == a2) = false := by simpa using c10
    (try (have c10b1 : decide (t588 = a2) = false := by simpa using c10))
    (try (have c10b2 : (t588 == a2) = false := by simpa using c10))
    (try (have c10b3 : ¬ (t588 = a2) := by simpa using c10))
    clear c10
    have H' := Aside0.mk H
    clear H
    obtain ⟨p587, q587⟩ : 0 ≤ (x13_1 : Int) ∧ x13_1 < (l0.length : Int) := ⟨dA, dA⟩
    obtain ⟨ad587, e587, hx587_0⟩ := Kd.at_int (Kd.C_below HR0.out HB.out) x13_1 p587 q587
    cases e587
    obtain ⟨p587, q587⟩ := eT p587 q587
    go_wp2_with (first | ((with_reducible refine gate_callee (f := 102) rfl ?_); refine gL (some 19) Try.func102 #[.slice A1 l1.length c1, .int .i64 (rd l0 x13_1)] ?_; (with_reducible refine (slices_Contains_int_int.calls k1 _ _ l1 (rd l0 x13_1) t588 _ ?_ ?_ A9.out).mono ?_); exact cB HR1; exact HC1.out; rintro e w' ⟨rfl, ⟨nd, rfl⟩⟩; refine ⟨_, rfl, ?_⟩))
    go_roundg k1
    case measure => have := HK1.out; omega
    case rel => exact ⟨(x7_1), (wrap64 (x13_1 + 1)), rS, H', ⟨by have := HK1.out; omega⟩, ⟨rK HO_7⟩, ⟨bA⟩⟩
   rw [if_neg c6] at H
   have c6b0 := decide_eq_false c6
   clear c6
   obtain rfl := Option.some.inj H
   go_wp2
   go_ret
   exact ⟨_, rA, rK HO_7, bA⟩

/-! ### impl_Closes: function 138 -/
def impl_Closes.f (k : Nat) (l0 : List Int) (l1 : List Int) : Option (List Int) := (impl_sieve.f k l0 l1 false).bind fun t592 => (some t592)
theorem impl_Closes.mono : ∀ a0 a1 k, LeO (impl_Closes.f k a0 a1) (impl_Closes.f (k + 1) a0 a1) := by
 intro a0 a1 k
 unfold impl_Closes.f
 exact mz1 impl_sieve.mono
set_option maxHeartbeats 8000000 in
set_option maxRecDepth 100000 in
theorem impl_Closes.calls (k : Nat) (A0 : Option Addr) (c0 : Nat) (l0 : List Int) (A1 : Option Addr) (c1 : Nat) (l1 : List Int) (r : List Int) (w : World) (hr0 : Kd.C (Kd.int .i64) w A0 l0.length l0) (hc0 : l0.length ≤ c0) (hr1 : Kd.C (Kd.int .i64) w A1 l1.length l1) (hc1 : l1.length ≤ c1) (h : impl_Closes.f k l0 l1 = some r) :
  Calls Try.prog 138 #[.slice A0 l0.length c0, .slice A1 l1.length c1] w fun e w' => ∃ v0_ : Value, e = .returned (v0_) ∧ Kd.R (Kd.int .i64) 3 w' w.heap.size (fun _ => True) v0_ r ∧ Below w.heap.size w w' := by
 have HR0 := Aside0.mk hr0
 have HC0 := Aside0.mk hc0
 clear hr0 hc0
 have HR1 := Aside0.mk hr1
 have HC1 := Aside0.mk hc1
 clear hr1 hc1
 have HB := Aside0.mk (Below.refl w.heap.size w)
 have H : ((impl_sieve.f k l0 l1 false).bind fun t592 => (some t592)) = some r := h
 clear h
 obtain ⟨t592, A3, H⟩ := bindE H
 try dsimp only at H
 obtain rfl := Option.some.inj H
 go_enter Try.func138, Try.ntmps138
 go_wp2_with (first | ((with_reducible refine gate_callee (f := 166) rfl ?_); refine gL (some 7) Try.func166 #[.slice A0 l0.length c0, .slice A1 l1.length c1, .bool false] ?_; (with_reducible refine (impl_sieve.calls k _ _ l0 _ _ l1 false t592 _ ?_ ?_ ?_ ?_ A3.out).mono ?_); exact cO HR0; exact HC0.out; exact cO HR1; exact HC1.out; rintro e w4 ⟨v593, rfl, ho0, hb⟩; refine ⟨_, rfl, ?_⟩; have HO594 := rl w ho0; replace HB := bs HB hb; (try clear hb); (try clear ho0)))
 go_ret
 exact ⟨_, rA, rK HO594, bA⟩

/-! ### impl_ClearBetween: function 99 -/
mutual
def impl_ClearBetween.j0 : Nat → List (S50) → List Int → List Int → Int → Bool → Option (Int)
 | 0, _, _, _, _, _ => none
 | k + 1, x0, x1, x2, x7, x22 => if x22 = true then (some x7) else ((impl_Closes.f k x1 x2).bind fun t597 => (impl_ClearBetween.l0 k x0 x1 x2 x7 t597 (t597.length : Int) 0))
def impl_ClearBetween.l0 : Nat → List (S50) → List Int → List Int → Int → List Int → Int → Int → Option (Int)
 | 0, _, _, _, _, _, _, _ => none
 | k + 1, x0, x1, x2, x7, x26, x27, x28 => if x28 < x27 then (if 0 ≤ x28 then (if x28 < (x26.length : Int) then ((impl_Closes.f k x2 x1).bind fun t601 => (impl_ClearBetween.l1 k x0 x1 x2 x7 (rd x26 x28) x26 x27 x28 t601 (t601.length : Int) 0)) else (none)) else (none)) else (some x7)
def impl_ClearBetween.l1 : Nat → List (S50) → List Int → List Int → Int → Int → List Int → Int → Int → List Int → Int → Int → Option (Int)
 | 0, _, _, _, _, _, _, _, _, _, _, _ => none
 | k + 1, x0, x1, x2, x7, x9, x26, x27, x28, x34, x35, x36 => if x36 < x35 then (if 0 ≤ x36 then (if x36 < (x34.length : Int) then ((impl_FindPath.f x0 x9).bind fun t605 => (if 0 ≤ t605 then (if t605 < (x0.length : Int) then ((impl_FindPath.f x0 (rd x34 x36)).bind fun t608 => (if 0 ≤ t608 then (if t608 < (x0.length : Int) then ((impl_Conflict.f k ((rd_T50 x0 t605).f0) ((rd_T50 x0 t605).f1) ((rd_T50 x0 t605).f2) ((rd_T50 x0 t605).f3) ((rd_T50 x0 t608).f0) ((rd_T50 x0 t608).f1) ((rd_T50 x0 t608).f2) ((rd_T50 x0 t608).f3)).bind fun t610 => (if t610 = true then ((impl_ClearOf.f ((rd_T50 x0 t605).f0) ((rd_T50 x0 t605).f1) ((rd_T50 x0 t605).f2) ((rd_T50 x0 t605).f3)).bind fun t611 => (impl_ClearBetween.l1 k x0 x1 x2 (mx x7 t611) x9 x26 x27 x28 x34 x35 (wrap64 (x36 + 1)))) else (impl_ClearBetween.l1 k x0 x1 x2 x7 x9 x26 x27 x28 x34 x35 (wrap64 (x36 + 1))))) else (none)) else (none))) else (none)) else (none))) else (none)) else (none)) else (impl_ClearBetween.l0 k x0 x1 x2 x7 x26 x27 (wrap64 (x28 + 1)))
end
def impl_ClearBetween.f (k : Nat) (l0 : List (S50)) (l1 : List Int) (l2 : List Int) : Option (Int) := (impl_IsTogether.f k l0 l1).bind fun t595 => (if t595 = true then ((impl_IsTogether.f k l0 l2).bind fun t596 => (impl_ClearBetween.j0 k l0 l1 l2 0 (!t596))) else (impl_ClearBetween.j0 k l0 l1 l2 0 true))
theorem impl_ClearBetween.mono_l : ∀ k, (∀ y0 y1 y2 y3 y4, LeO (impl_ClearBetween.j0 k y0 y1 y2 y3 y4) (impl_ClearBetween.j0 (k + 1) y0 y1 y2 y3 y4)) ∧ (∀ y0 y1 y2 y3 y4 y5 y6, LeO (impl_ClearBetween.l0 k y0 y1 y2 y3 y4 y5 y6) (impl_ClearBetween.l0 (k + 1) y0 y1 y2 y3 y4 y5 y6)) ∧ (∀ y0 y1 y2 y3 y4 y5 y6 y7 y8 y9 y10, LeO (impl_ClearBetween.l1 k y0 y1 y2 y3 y4 y5 y6 y7 y8 y9 y10) (impl_ClearBetween.l1 (k + 1) y0 y1 y2 y3 y4 y5 y6 y7 y8 y9 y10))
 | 0 => ⟨fun _ _ _ _ _ r h => by simp [impl_ClearBetween.j0] at h, fun _ _ _ _ _ _ _ r h => by simp [impl_ClearBetween.l0] at h, fun _ _ _ _ _ _ _ _ _ _ _ r h => by simp [impl_ClearBetween.l1] at h⟩
 | k + 1 => by
  obtain ⟨ih0, ih1, ih2⟩ := impl_ClearBetween.mono_l k
  refine ⟨?_, ?_, ?_⟩
  ·
   intro y0 y1 y2 y3 y4
   unfold impl_ClearBetween.j0
   exact mz6 ih0 ih1 ih2 impl_Closes.mono impl_Conflict.mono impl_IsTogether.mono
  ·
   intro y0 y1 y2 y3 y4 y5 y6
   unfold impl_ClearBetween.l0
   exact mz6 ih0 ih1 ih2 impl_Closes.mono impl_Conflict.mono impl_IsTogether.mono
  ·
   intro y0 y1 y2 y3 y4 y5 y6 y7 y8 y9 y10
   unfold impl_ClearBetween.l1
   exact mz6 ih0 ih1 ih2 impl_Closes.mono impl_Conflict.mono impl_IsTogether.mono
theorem impl_ClearBetween.mono : ∀ a0 a1 a2 k, LeO (impl_ClearBetween.f k a0 a1 a2) (impl_ClearBetween.f (k + 1) a0 a1 a2) := by
 intro a0 a1 a2 k
 obtain ⟨ih0, ih1, ih2⟩ := impl_ClearBetween.mono_l k
 unfold impl_ClearBetween.f
 exact mz6 ih0 ih1 ih2 impl_Closes.mono impl_Conflict.mono impl_IsTogether.mono
def impl_ClearBetween.T11 : Bool × List (List Nat × List Nat) := (true, [([], []), ([], []), ([], []), ([], []), ([2, 3], [2, 3]), ([1, 4], [1, 4]), ([5], [5]), ([0, 6, 4], [0, 6])])
def impl_ClearBetween.B11 : List Nat := [0, 0, 0, 0, 12, 30, 62, 127]
theorem impl_ClearBetween.tab11 : rtab .any (opsOf Try.f99 11) = impl_ClearBetween.T11 := by kernel_rfl
theorem impl_ClearBetween.bits11 : waitsOk impl_ClearBetween.T11.2 impl_ClearBetween.B11 = true := by kernel_rfl
set_option maxHeartbeats 8000000 in
set_option maxRecDepth 100000 in
theorem impl_ClearBetween.calls (k : Nat) (A0 : Option Addr) (c0 : Nat) (l0 : List (S50)) (A1 : Option Addr) (c1 : Nat) (l1 : List Int) (A2 : Option Addr) (c2 : Nat) (l2 : List Int) (r : Int) (w : World) (hr0 : Kd.C k50 w A0 l0.length l0) (hc0 : l0.length ≤ c0) (hr1 : Kd.C (Kd.int .i64) w A1 l1.length l1) (hc1 : l1.length ≤ c1) (hr2 : Kd.C (Kd.int .i64) w A2 l2.length l2) (hc2 : l2.length ≤ c2) (h : impl_ClearBetween.f k l0 l1 l2 = some r) :
  Calls Try.prog 99 #[.slice A0 l0.length c0, .slice A1 l1.length c1, .slice A2 l2.length c2] w fun e w' => e = .returned (.int .i64 r) ∧ Below w.heap.size w w' := by
 have hu50 := Try.underlying50
 have HR0 := Aside0.mk hr0
 have HC0 := Aside0.mk hc0
 clear hr0 hc0
 have HR1 := Aside0.mk hr1
 have HC1 := Aside0.mk hc1
 clear hr1 hc1
 have HR2 := Aside0.mk hr2
 have HC2 := Aside0.mk hc2
 clear hr2 hc2
 have HB := Aside0.mk (Below.refl w.heap.size w)
 have H : ((impl_IsTogether.f k l0 l1).bind fun t595 => (if t595 = true then ((impl_IsTogether.f k l0 l2).bind fun t596 => (impl_ClearBetween.j0 k l0 l1 l2 0 (!t596))) else (impl_ClearBetween.j0 k l0 l1 l2 0 true))) = some r := h
 clear h
 have HC4 := Aside0.mk H
 clear H
 go_enter Try.func99, Try.ntmps99
 go_upto_region 2 with (fail)
 go_cut [22] (fun v22 wc => ∃ (kq : Nat) (x22_3 : Bool), v22 = .bool x22_3 ∧ Aside0 (impl_ClearBetween.j0 kq l0 l1 l2 0 x22_3 = some r) ∧ Aside0 (kq ≤ k) ∧ Aside0 (Below w.heap.size w wc))
 case first =>
  have H := HC4.out
  clear HC4
  obtain ⟨t595, A5, H⟩ := bindE H
  try dsimp only at H
  by_cases c6 : t595 = true
  ·
   subst c6
   have H1 : ((impl_IsTogether.f k l0 l2).bind fun t596 => (impl_ClearBetween.j0 k l0 l1 l2 0 (!t596))) = some r := by rw [if_pos rfl] at H; exact H
   clear H
   have H := H1
   clear H1
   obtain ⟨t596, A7, H⟩ := bindE H
   try dsimp only at H
   have H' := Aside0.mk H
   clear H
   go_wp2_with (first | ((with_reducible refine gate_callee (f := 68) rfl ?_); refine gL (some 15) Try.func68 #[.slice A0 l0.length c0, .slice A1 l1.length c1] ?_; (with_reducible refine (impl_IsTogether.calls k _ _ l0 _ _ l1 true _ ?_ ?_ ?_ ?_ A5.out).mono ?_); exact cB HR0; exact HC0.out; exact cB HR1; exact HC1.out; rintro e w8 ⟨rfl, hb⟩; refine ⟨_, rfl, ?_⟩; replace HB := bs HB hb; (try clear hb)) | (go_at_call 68; (with_reducible refine (impl_IsTogether.calls k _ _ l0 _ _ l2 t596 _ ?_ ?_ ?_ ?_ A7.out).mono ?_); exact cB HR0; exact HC0.out; exact cB HR2; exact HC2.out; rintro e w9 ⟨rfl, hb⟩; replace HB := bs HB hb; (try clear hb)))
   go_meet
   case rel => exact ⟨_, (!t596), rS, H', ⟨oL⟩, ⟨bA⟩⟩
  replace c6 := Bool.eq_false_iff.mpr c6
  subst c6
  have H1 : (impl_ClearBetween.j0 k l0 l1 l2 0 true) = some r := by rw [if_neg (show ¬ (false = true) by decide)] at H; exact H
  clear H
  have H := H1
  clear H1
  have H' := Aside0.mk H
  clear H
  go_wp2_with (first | ((with_reducible refine gate_callee (f := 68) rfl ?_); refine gL (some 15) Try.func68 #[.slice A0 l0.length c0, .slice A1 l1.length c1] ?_; (with_reducible refine (impl_IsTogether.calls k _ _ l0 _ _ l1 false _ ?_ ?_ ?_ ?_ A5.out).mono ?_); exact cB HR0; exact HC0.out; exact cB HR1; exact HC1.out; rintro e w10 ⟨rfl, hb⟩; refine ⟨_, rfl, ?_⟩; replace HB := bs HB hb; (try clear hb)))
  go_meet
  case rel => exact ⟨_, (true), rS, H', ⟨oL⟩, ⟨bA⟩⟩
 case rest =>
  clear HC4
  obtain ⟨kq, x22_3, rfl, HA, HJ3, HB⟩ := hcut
  cases kq with
  | zero => exact absurd HA.out (by simp [impl_ClearBetween.j0])
  | succ kj3 =>
   have H := HA.out
   clear HA
   simp only [impl_ClearBetween.j0] at H
   by_cases c11 : x22_3 = true
   ·
    subst c11
    have H1 : (some 0) = some r := by rw [if_pos rfl] at H; exact H
    clear H
    have H := H1
    clear H1
    obtain rfl := Option.some.inj H
    go_wp2
    go_ret
    exact ⟨rA, bA⟩
   replace c11 := Bool.eq_false_iff.mpr c11
   subst c11
   have H1 : ((impl_Closes.f kj3 l1 l2).bind fun t597 => (impl_ClearBetween.l0 kj3 l0 l1 l2 0 t597 (t597.length : Int) 0)) = some r := by rw [if_neg (show ¬ (false = true) by decide)] at H; exact H
   clear H
   have H := H1
   clear H1
   obtain ⟨t597, A12, H⟩ := bindE H
   try dsimp only at H
   have H' := Aside0.mk H
   clear H
   go_wp2_with (first | ((with_reducible refine gate_callee (f := 138) rfl ?_); refine gL (some 26) Try.func138 #[.slice A1 l1.length c1, .slice A2 l2.length c2] ?_; (with_reducible refine (impl_Closes.calls kj3 _ _ l1 _ _ l2 t597 _ ?_ ?_ ?_ ?_ A12.out).mono ?_); exact cB HR1; exact HC1.out; exact cB HR2; exact HC2.out; rintro e w13 ⟨v598, rfl, ho0, hb⟩; refine ⟨_, rfl, ?_⟩; have HO599 := rl w ho0; replace HB := bs HB hb; (try clear hb); (try clear ho0); obtain ⟨Ao14, co14, eo14⟩ := Kd.R_slice HO599.out; subst eo14))
   go_loopg [7, 28] kj3 (fun kq v7 v28 w' => ∃ (x7_2 : Int) (x28_2 : Int), v7 = .int .i64 x7_2 ∧ v28 = .int .i64 x28_2 ∧ Aside0 (impl_ClearBetween.l0 kq l0 l1 l2 x7_2 t597 (t597.length : Int) x28_2 = some r) ∧ Aside0 (kq ≤ kj3) ∧ Aside0 (Kd.R (Kd.int .i64) 3 w' w.heap.size (fun _ => True) (.slice Ao14 t597.length co14) t597) ∧ Aside0 (Below w.heap.size w w'))
   case atStart => exact ⟨(0), (0), rS, rS, H', ⟨Nat.le_refl _⟩, ⟨rK HO599⟩, ⟨bA⟩⟩
   case round =>
    clear H'
    obtain ⟨x7_2, x28_2, rfl, rfl, HA, HK2, HO_26, HB⟩ := hrel
    cases gk with
    | zero => exact absurd HA.out (by simp [impl_ClearBetween.l0])
    | succ k2 =>
     have H := HA.out
     clear HA
     simp only [impl_ClearBetween.l0] at H
     by_cases c15 : x28_2 < (t597.length : Int)
     ·
      rw [if_pos c15] at H
      have c15b0 := decide_eq_true c15
      clear c15
      have c16 : 0 ≤ x28_2 := ifN H
      replace H := ifT H
      have c16b0 := decide_eq_true c16
      clear c16
      have c17 : x28_2 < (t597.length : Int) := ifN H
      replace H := ifT H
      have c17b0 := decide_eq_true c17
      clear c17
      obtain ⟨t601, A18, H⟩ := bindE H
      try dsimp only at H
      have H' := Aside0.mk H
      clear H
      obtain ⟨p600, q600⟩ : 0 ≤ (x28_2 : Int) ∧ x28_2 < (t597.length : Int) := ⟨dA, dA⟩
      obtain ⟨ad600, e600, hx600_0⟩ := Kd.at_int (Kd.R_reads' HO_26.out).2.2 x28_2 p600 q600
      cases e600
      obtain ⟨p600, q600⟩ := eT p600 q600
      go_wp2_with (first | ((with_reducible refine gate_callee (f := 138) rfl ?_); refine gL (some 34) Try.func138 #[.slice A2 l2.length c2, .slice A1 l1.length c1] ?_; (with_reducible refine (impl_Closes.calls k2 _ _ l2 _ _ l1 t601 _ ?_ ?_ ?_ ?_ A18.out).mono ?_); exact cB HR2; exact HC2.out; exact cB HR1; exact HC1.out; rintro e w19 ⟨v602, rfl, ho0, hb⟩; refine ⟨_, rfl, ?_⟩; have HO603 := rl w (rn ho0 HO_26); replace HO_26 := re HO_26 ho0 hb; replace HB := bs HB hb; (try clear hb); (try clear ho0); obtain ⟨Ao20, co20, eo20⟩ := Kd.R_slice HO603.out; subst eo20))
      go_loopg [7, 36] k2 (fun kq v7 v36 w' => ∃ (x7_3 : Int) (x36_3 : Int), v7 = .int .i64 x7_3 ∧ v36 = .int .i64 x36_3 ∧ Aside0 (impl_ClearBetween.l1 kq l0 l1 l2 x7_3 (rd t597 x28_2) t597 (t597.length : Int) x28_2 t601 (t601.length : Int) x36_3 = some r) ∧ Aside0 (kq ≤ k2) ∧ Aside0 (Kd.R (Kd.int .i64) 3 w' w.heap.size (n1 (.slice Ao20 t601.length co20)) (.slice (some ad600) t597.length co14) t597) ∧ Aside0 (Kd.R (Kd.int .i64) 3 w' w.heap.size (n1 (.slice (some ad600) t597.length co14)) (.slice Ao20 t601.length co20) t601) ∧ Aside0 (Below w.heap.size w w'))
      case atStart => exact ⟨(x7_2), (0), rS, rS, H', ⟨Nat.le_refl _⟩, ⟨rm HO_26 (fun _ hk => hk.2)⟩, ⟨rm HO603 (fun _ hk => hk.2)⟩, ⟨bA⟩⟩
      case round =>
       clear H'
       obtain ⟨x7_3, x36_3, rfl, rfl, HA, HK3, HO_26, HO_34, HB⟩ := hrel
       cases gk with
       | zero => exact absurd HA.out (by simp [impl_ClearBetween.l1])
       | succ k3 =>
        have H := HA.out
        clear HA
        simp only [impl_ClearBetween.l1] at H
        by_cases c21 : x36_3 < (t601.length : Int)
        ·
         rw [if_pos c21] at H
         have c21b0 := decide_eq_true c21
         clear c21
         have c22 : 0 ≤ x36_3 := ifN H
         replace H := ifT H
         have c22b0 := decide_eq_true c22
         clear c22
         have c23 : x36_3 < (t601.length : Int) := ifN H
         replace H := ifT H
         have c23b0 := decide_eq_true c23
         clear c23
         obtain ⟨t605, A24, H⟩ := bindE H
         try dsimp only at H
         have c25 : 0 ≤ t605 := ifN H
         replace H := ifT H
         have c25b0 := decide_eq_true c25
         clear c25
         have c26 : t605 < (l0.length : Int) := ifN H
         replace H := ifT H
         have c26b0 := decide_eq_true c26
         clear c26
         obtain ⟨t608, A27, H⟩ := bindE H
         try dsimp only at H
         have c28 : 0 ≤ t608 := ifN H
         replace H := ifT H
         have c28b0 := decide_eq_true c28
         clear c28
         have c29 : t608 < (l0.length : Int) := ifN H
         replace H := ifT H
         have c29b0 := decide_eq_true c29
         clear c29
         obtain ⟨t610, A30, H⟩ := bindE H
         try dsimp only at H
         by_cases c31 : t610 = true
         ·
          subst c31
          have H1 : ((impl_ClearOf.f ((rd_T50 l0 t605).f0) ((rd_T50 l0 t605).f1) ((rd_T50 l0 t605).f2) ((rd_T50 l0 t605).f3)).bind fun t611 => (impl_ClearBetween.l1 k3 l0 l1 l2 (mx x7_3 t611) (rd t597 x28_2) t597 (t597.length : Int) x28_2 t601 (t601.length : Int) (wrap64 (x36_3 + 1)))) = some r := by rw [if_pos rfl] at H; exact H
          clear H
          have H := H1
          clear H1
          obtain ⟨t611, A32, H⟩ := bindE H
          try dsimp only at H
          obtain ⟨ji33, hji33⟩ : ∃ j_ : Int, (mx x7_3 t611) = j_ := ⟨_, rfl⟩
          replace H : (impl_ClearBetween.l1 k3 l0 l1 l2 ji33 (rd t597 x28_2) t597 (t597.length : Int) x28_2 t601 (t601.length : Int) (wrap64 (x36_3 + 1))) = some r := by first | (rw [hji33] at H; exact H) | (simp only [hji33] at H ⊢; exact H)
          (try rw [hji33] at A24)
          (try rw [hji33] at A27)
          (try rw [hji33] at A30)
          (try rw [hji33] at A32)
          have hji33_ : (if x7_3 < t611 then t611 else x7_3) = ji33 := hji33
          have H' := Aside0.mk H
          clear H
          obtain ⟨p604, q604⟩ : 0 ≤ (x36_3 : Int) ∧ x36_3 < (t601.length : Int) := ⟨dA, dA⟩
          obtain ⟨ad604, e604, hx604_0⟩ := Kd.at_int (Kd.R_reads' HO_34.out).2.2 x36_3 p604 q604
          cases e604
          obtain ⟨p604, q604⟩ := eT p604 q604
          try go_wp2_with (first | ((with_reducible refine gate_callee (f := 16) rfl ?_); refine gL (some 43) Try.func16 #[.slice A0 l0.length c0, .int .i64 (rd t597 x28_2)] ?_; (with_reducible refine (impl_FindPath.calls _ _ l0 (rd t597 x28_2) t605 _ ?_ ?_ A24.out).mono ?_); exact cB HR0; exact HC0.out; rintro e w34 ⟨rfl, hb⟩; refine ⟨_, rfl, ?_⟩; replace HO_26 := rb HO_26 hb; replace HO_34 := rb HO_34 hb; replace HB := bs HB hb; (try clear hb); have p606 : 0 ≤ (t605 : Int) := dA; have q606 : t605 < (l0.length : Int) := dA; obtain ⟨ad606, e606, hx606_0, hx606_1, hx606_2, hx606_3⟩ := at_T50 HR0.out t605 p606 q606; cases e606; replace hx606_0 := hC HB hx606_0; replace hx606_1 := hC HB hx606_1; replace hx606_2 := hC HB hx606_2; replace hx606_3 := hC HB hx606_3; replace p606 := eq_true p606; replace q606 := eq_true q606) | ((with_reducible refine gate_dst (N := 12) rfl ?_); refine bE (N := 12) (cs := #[.int .i64 0, .int .i64 0, .int .i64 0, .int .i64 0]) (t := 50) ?_; intro gb607 hg w35 hbox hb; replace HO_26 := rb HO_26 hb; replace HO_34 := rb HO_34 hb; have BK607 := Aside0.mk (hbox); have GW607 := gw w hg; have GE607 := gw w hg; replace HB := bs HB hb; clear hb hbox hg; obtain ⟨_, _, _, _, _, _, _, _⟩ := blkc4 BK607))
          have n0_ : Aside0 (Kd.R (Kd.int .i64) 3 ((((w35.setCell ⟨gb607, 0, none⟩ (.int .i64 ((rd_T50 l0 t605).f0))).setCell ⟨gb607, 1, none⟩ (.int .i64 ((rd_T50 l0 t605).f1))).setCell ⟨gb607, 2, none⟩ (.int .i64 ((rd_T50 l0 t605).f2))).setCell ⟨gb607, 3, none⟩ (.int .i64 ((rd_T50 l0 t605).f3))) w.heap.size (n1 (.slice (some ad604) t601.length co20)) (.slice (some ad600) t597.length co14) t597) := ⟨rf HO_26 BK607⟩
          have n1_ : Aside0 (Kd.R (Kd.int .i64) 3 ((((w35.setCell ⟨gb607, 0, none⟩ (.int .i64 ((rd_T50 l0 t605).f0))).setCell ⟨gb607, 1, none⟩ (.int .i64 ((rd_T50 l0 t605).f1))).setCell ⟨gb607, 2, none⟩ (.int .i64 ((rd_T50 l0 t605).f2))).setCell ⟨gb607, 3, none⟩ (.int .i64 ((rd_T50 l0 t605).f3))) w.heap.size (n1 (.slice (some ad600) t597.length co14)) (.slice (some ad604) t601.length co20) t601) := ⟨rf HO_34 BK607⟩
          have n2_ : Aside0 (((((w35.setCell ⟨gb607, 0, none⟩ (.int .i64 ((rd_T50 l0 t605).f0))).setCell ⟨gb607, 1, none⟩ (.int .i64 ((rd_T50 l0 t605).f1))).setCell ⟨gb607, 2, none⟩ (.int .i64 ((rd_T50 l0 t605).f2))).setCell ⟨gb607, 3, none⟩ (.int .i64 ((rd_T50 l0 t605).f3))).heap[gb607]? = some (.cells #[.int .i64 ((rd_T50 l0 t605).f0), .int .i64 ((rd_T50 l0 t605).f1), .int .i64 ((rd_T50 l0 t605).f2), .int .i64 ((rd_T50 l0 t605).f3)] 50 (0, 0))) := ⟨kp BK607⟩
          have n3_ : Aside0 (Below w.heap.size w ((((w35.setCell ⟨gb607, 0, none⟩ (.int .i64 ((rd_T50 l0 t605).f0))).setCell ⟨gb607, 1, none⟩ (.int .i64 ((rd_T50 l0 t605).f1))).setCell ⟨gb607, 2, none⟩ (.int .i64 ((rd_T50 l0 t605).f2))).setCell ⟨gb607, 3, none⟩ (.int .i64 ((rd_T50 l0 t605).f3)))) := ⟨bG⟩
          (try clear HO_26)
          (try clear HO_34)
          (try clear BK607)
          (try clear HB)
          generalize ((((w35.setCell ⟨gb607, 0, none⟩ (.int .i64 ((rd_T50 l0 t605).f0))).setCell ⟨gb607, 1, none⟩ (.int .i64 ((rd_T50 l0 t605).f1))).setCell ⟨gb607, 2, none⟩ (.int .i64 ((rd_T50 l0 t605).f2))).setCell ⟨gb607, 3, none⟩ (.int .i64 ((rd_T50 l0 t605).f3))) = w37 at n0_ n1_ n2_ n3_ ⊢
          have HO_26 := n0_
          have HO_34 := n1_
          have BK607 := n2_
          have HB := n3_
          clear n0_ n1_ n2_ n3_
          replace HO_26 := dr HO_26
          replace HO_34 := dr HO_34
          replace BK607 := dk BK607
          have HBo := HB
          replace HB := db HB
          obtain ⟨p609, q609⟩ : 0 ≤ (t608 : Int) ∧ t608 < (l0.length : Int) := ⟨dA, dA⟩
          obtain ⟨ad609, e609, hx609_0, hx609_1, hx609_2, hx609_3⟩ := at_T50 HR0.out t608 p609 q609
          have hw609_3 := hx609_3
          have hw609_2 := hx609_2
          have hw609_1 := hx609_1
          have hw609_0 := hx609_0
          obtain rfl : ad606 = ad609 := (by injection e609)
          replace hx609_0 := hC HB hx609_0
          replace hx609_1 := hC HB hx609_1
          replace hx609_2 := hC HB hx609_2
          replace hx609_3 := hC HB hx609_3
          obtain ⟨p609, q609⟩ := eT p609 q609
          refine sw (ds := []) 8 (mb 8 0) impl_ClearBetween.tab11 impl_ClearBetween.bits11 (h4c BK607 (h1c (hC HB hw609_0) (h1c (hC HB hw609_1) (h1c (hC HB hw609_2) (h1 (hC HB hw609_3)))))) (fun hHeld HT_ HW_ => ?_)
          generalize w37.drew = w38 at HO_26 HO_34 BK607 HB hx609_0 hx609_1 hx609_2 hx609_3 hHeld ⊢
          refine pa 1 47 (mb 8 2) HT_ ?_
          refine pa 2 48 (mb 8 6) HT_ ?_
          refine pa 3 49 (mb 8 14) HT_ ?_
          refine ta8 0 46 (mb 8 15) HT_ HW_ hHeld ?_
          refine oa 4 50 (mb 8 31) HT_ (fun K hK => ?_)
          refine gA Try.func16 #[.slice (some ad606) l0.length c0, .int .i64 (rd t601 x36_3)] ?_
          with_reducible refine (impl_FindPath.calls _ _ l0 (rd t601 x36_3) t608 _ ?side1 ?side2 A27.out).mono ?_
          (case side1 => exact cB HR0)
          (case side2 => exact HC0.out)
          rintro e w39 ⟨rfl, hb⟩
          refine ⟨_, rfl, ?_⟩
          replace HO_26 := rb HO_26 hb
          replace HO_34 := rb HO_34 hb
          replace BK607 := kb BK607 hb
          replace HB := bs HB hb
          (try clear hb)
          (try clear hb2)
          (try clear hk)
          (try clear hi)
          refine hK.out _ _ (cm4 BK607 ⟨(hC HB hw609_0), (hC HB hw609_1), (hC HB hw609_2), (hC HB hw609_3)⟩) (fun hHeld => ?_)
          clear hK K
          refine nB ?_
          refine pa 5 51 (mb 8 63) HT_ ?_
          refine ta8 6 52 (mb 8 127) HT_ HW_ hHeld ?_
          refine oa 7 53 (mb 8 255) HT_ (fun K hK => ?_)
          refine gA Try.func101 #[.agg #[.int .i64 ((rd_T50 l0 t605).f0), .int .i64 ((rd_T50 l0 t605).f1), .int .i64 ((rd_T50 l0 t605).f2), .int .i64 ((rd_T50 l0 t605).f3)], .agg #[.int .i64 ((rd_T50 l0 t608).f0), .int .i64 ((rd_T50 l0 t608).f1), .int .i64 ((rd_T50 l0 t608).f2), .int .i64 ((rd_T50 l0 t608).f3)]] ?_
          with_reducible refine (impl_Conflict.calls k3 ((rd_T50 l0 t605).f0) ((rd_T50 l0 t605).f1) ((rd_T50 l0 t605).f2) ((rd_T50 l0 t605).f3) ((rd_T50 l0 t608).f0) ((rd_T50 l0 t608).f1) ((rd_T50 l0 t608).f2) ((rd_T50 l0 t608).f3) true _ A30.out).mono ?_
          rintro e w40 ⟨rfl, hb⟩
          refine ⟨_, rfl, ?_⟩
          replace HO_26 := rb HO_26 hb
          replace HO_34 := rb HO_34 hb
          replace BK607 := kb BK607 hb
          replace HB := bs HB hb
          (try clear hb)
          (try clear hb2)
          (try clear hk)
          (try clear hi)
          refine hK.out _ _ (cm4 BK607 ⟨(hC HB hw609_0), (hC HB hw609_1), (hC HB hw609_2), (hC HB hw609_3)⟩) (fun hHeld => ?_)
          clear hK K
          refine nB ?_
          refine eA HT_ ?_
          obtain ⟨_, _, _, _, _, _, _, _⟩ := blkc4 BK607
          try go_wp2_with (first | ((with_reducible refine gate_callee (f := 120) rfl ?_); refine gL (some 56) Try.func120 #[.agg #[.int .i64 ((rd_T50 l0 t605).f0), .int .i64 ((rd_T50 l0 t605).f1), .int .i64 ((rd_T50 l0 t605).f2), .int .i64 ((rd_T50 l0 t605).f3)]] ?_; (with_reducible refine (impl_ClearOf.calls ((rd_T50 l0 t605).f0) ((rd_T50 l0 t605).f1) ((rd_T50 l0 t605).f2) ((rd_T50 l0 t605).f3) t611 _ A32.out).mono ?_); rintro e w42 ⟨rfl, hb⟩; refine ⟨_, rfl, ?_⟩; replace HO_26 := rb HO_26 hb; replace HO_34 := rb HO_34 hb; replace BK607 := kb BK607 hb; replace HB := bs HB hb; (try clear hb)))
          go_roundg k3
          case measure => have := HJ3.out; have := HK2.out; have := HK3.out; omega
          case rel => exact ⟨(ji33), (wrap64 (x36_3 + 1)), (by first | rfl | (simp; done) | (simp only [← hji33] <;> (first | rfl | simp)) | (simp [*]; done)), rS, H', ⟨by have := HJ3.out; have := HK2.out; have := HK3.out; omega⟩, ⟨rK HO_26⟩, ⟨rK HO_34⟩, ⟨bG⟩⟩
         replace c31 := Bool.eq_false_iff.mpr c31
         subst c31
         have H1 : (impl_ClearBetween.l1 k3 l0 l1 l2 x7_3 (rd t597 x28_2) t597 (t597.length : Int) x28_2 t601 (t601.length : Int) (wrap64 (x36_3 + 1))) = some r := by rw [if_neg (show ¬ (false = true) by decide)] at H; exact H
         clear H
         have H := H1
         clear H1
         have H' := Aside0.mk H
         clear H
         obtain ⟨p604, q604⟩ : 0 ≤ (x36_3 : Int) ∧ x36_3 < (t601.length : Int) := ⟨dA, dA⟩
         obtain ⟨ad604, e604, hx604_0⟩ := Kd.at_int (Kd.R_reads' HO_34.out).2.2 x36_3 p604 q604
         cases e604
         obtain ⟨p604, q604⟩ := eT p604 q604
         try go_wp2_with (first | ((with_reducible refine gate_callee (f := 16) rfl ?_); refine gL (some 43) Try.func16 #[.slice A0 l0.length c0, .int .i64 (rd t597 x28_2)] ?_; (with_reducible refine (impl_FindPath.calls _ _ l0 (rd t597 x28_2) t605 _ ?_ ?_ A24.out).mono ?_); exact cB HR0; exact HC0.out; rintro e w43 ⟨rfl, hb⟩; refine ⟨_, rfl, ?_⟩; replace HO_26 := rb HO_26 hb; replace HO_34 := rb HO_34 hb; replace HB := bs HB hb; (try clear hb); have p606 : 0 ≤ (t605 : Int) := dA; have q606 : t605 < (l0.length : Int) := dA; obtain ⟨ad606, e606, hx606_0, hx606_1, hx606_2, hx606_3⟩ := at_T50 HR0.out t605 p606 q606; cases e606; replace hx606_0 := hC HB hx606_0; replace hx606_1 := hC HB hx606_1; replace hx606_2 := hC HB hx606_2; replace hx606_3 := hC HB hx606_3; replace p606 := eq_true p606; replace q606 := eq_true q606) | ((with_reducible refine gate_dst (N := 12) rfl ?_); refine bE (N := 12) (cs := #[.int .i64 0, .int .i64 0, .int .i64 0, .int .i64 0]) (t := 50) ?_; intro gb607 hg w44 hbox hb; replace HO_26 := rb HO_26 hb; replace HO_34 := rb HO_34 hb; have BK607 := Aside0.mk (hbox); have GW607 := gw w hg; have GE607 := gw w hg; replace HB := bs HB hb; clear hb hbox hg; obtain ⟨_, _, _, _, _, _, _, _⟩ := blkc4 BK607))
         have n0_ : Aside0 (Kd.R (Kd.int .i64) 3 ((((w44.setCell ⟨gb607, 0, none⟩ (.int .i64 ((rd_T50 l0 t605).f0))).setCell ⟨gb607, 1, none⟩ (.int .i64 ((rd_T50 l0 t605).f1))).setCell ⟨gb607, 2, none⟩ (.int .i64 ((rd_T50 l0 t605).f2))).setCell ⟨gb607, 3, none⟩ (.int .i64 ((rd_T50 l0 t605).f3))) w.heap.size (n1 (.slice (some ad604) t601.length co20)) (.slice (some ad600) t597.length co14) t597) := ⟨rf HO_26 BK607⟩
         have n1_ : Aside0 (Kd.R (Kd.int .i64) 3 ((((w44.setCell ⟨gb607, 0, none⟩ (.int .i64 ((rd_T50 l0 t605).f0))).setCell ⟨gb607, 1, none⟩ (.int .i64 ((rd_T50 l0 t605).f1))).setCell ⟨gb607, 2, none⟩ (.int .i64 ((rd_T50 l0 t605).f2))).setCell ⟨gb607, 3, none⟩ (.int .i64 ((rd_T50 l0 t605).f3))) w.heap.size (n1 (.slice (some ad600) t597.length co14)) (.slice (some ad604) t601.length co20) t601) := ⟨rf HO_34 BK607⟩
         have n2_ : Aside0 (((((w44.setCell ⟨gb607, 0, none⟩ (.int .i64 ((rd_T50 l0 t605).f0))).setCell ⟨gb607, 1, none⟩ (.int .i64 ((rd_T50 l0 t605).f1))).setCell ⟨gb607, 2, none⟩ (.int .i64 ((rd_T50 l0 t605).f2))).setCell ⟨gb607, 3, none⟩ (.int .i64 ((rd_T50 l0 t605).f3))).heap[gb607]? = some (.cells #[.int .i64 ((rd_T50 l0 t605).f0), .int .i64 ((rd_T50 l0 t605).f1), .int .i64 ((rd_T50 l0 t605).f2), .int .i64 ((rd_T50 l0 t605).f3)] 50 (0, 0))) := ⟨kp BK607⟩
         have n3_ : Aside0 (Below w.heap.size w ((((w44.setCell ⟨gb607, 0, none⟩ (.int .i64 ((rd_T50 l0 t605).f0))).setCell ⟨gb607, 1, none⟩ (.int .i64 ((rd_T50 l0 t605).f1))).setCell ⟨gb607, 2, none⟩ (.int .i64 ((rd_T50 l0 t605).f2))).setCell ⟨gb607, 3, none⟩ (.int .i64 ((rd_T50 l0 t605).f3)))) := ⟨bG⟩
         (try clear HO_26)
         (try clear HO_34)
         (try clear BK607)
         (try clear HB)
         generalize ((((w44.setCell ⟨gb607, 0, none⟩ (.int .i64 ((rd_T50 l0 t605).f0))).setCell ⟨gb607, 1, none⟩ (.int .i64 ((rd_T50 l0 t605).f1))).setCell ⟨gb607, 2, none⟩ (.int .i64 ((rd_T50 l0 t605).f2))).setCell ⟨gb607, 3, none⟩ (.int .i64 ((rd_T50 l0 t605).f3))) = w46 at n0_ n1_ n2_ n3_ ⊢
         have HO_26 := n0_
         have HO_34 := n1_
         have BK607 := n2_
         have HB := n3_
         clear n0_ n1_ n2_ n3_
         replace HO_26 := dr HO_26
         replace HO_34 := dr HO_34
         replace BK607 := dk BK607
         have HBo := HB
         replace HB := db HB
         obtain ⟨p609, q609⟩ : 0 ≤ (t608 : Int) ∧ t608 < (l0.length : Int) := ⟨dA, dA⟩
         obtain ⟨ad609, e609, hx609_0, hx609_1, hx609_2, hx609_3⟩ := at_T50 HR0.out t608 p609 q609
         have hw609_3 := hx609_3
         have hw609_2 := hx609_2
         have hw609_1 := hx609_1
         have hw609_0 := hx609_0
         obtain rfl : ad606 = ad609 := (by injection e609)
         replace hx609_0 := hC HB hx609_0
         replace hx609_1 := hC HB hx609_1
         replace hx609_2 := hC HB hx609_2
         replace hx609_3 := hC HB hx609_3
         obtain ⟨p609, q609⟩ := eT p609 q609
         refine sw (ds := []) 8 (mb 8 0) impl_ClearBetween.tab11 impl_ClearBetween.bits11 (h4c BK607 (h1c (hC HB hw609_0) (h1c (hC HB hw609_1) (h1c (hC HB hw609_2) (h1 (hC HB hw609_3)))))) (fun hHeld HT_ HW_ => ?_)
         generalize w46.drew = w47 at HO_26 HO_34 BK607 HB hx609_0 hx609_1 hx609_2 hx609_3 hHeld ⊢
         refine pa 1 47 (mb 8 2) HT_ ?_
         refine pa 2 48 (mb 8 6) HT_ ?_
         refine pa 3 49 (mb 8 14) HT_ ?_
         refine ta8 0 46 (mb 8 15) HT_ HW_ hHeld ?_
         refine oa 4 50 (mb 8 31) HT_ (fun K hK => ?_)
         refine gA Try.func16 #[.slice (some ad606) l0.length c0, .int .i64 (rd t601 x36_3)] ?_
         with_reducible refine (impl_FindPath.calls _ _ l0 (rd t601 x36_3) t608 _ ?side1 ?side2 A27.out).mono ?_
         (case side1 => exact cB HR0)
         (case side2 => exact HC0.out)
         rintro e w48 ⟨rfl, hb⟩
         refine ⟨_, rfl, ?_⟩
         replace HO_26 := rb HO_26 hb
         replace HO_34 := rb HO_34 hb
         replace BK607 := kb BK607 hb
         replace HB := bs HB hb
         (try clear hb)
         (try clear hb2)
         (try clear hk)
         (try clear hi)
         refine hK.out _ _ (cm4 BK607 ⟨(hC HB hw609_0), (hC HB hw609_1), (hC HB hw609_2), (hC HB hw609_3)⟩) (fun hHeld => ?_)
         clear hK K
         refine nB ?_
         refine pa 5 51 (mb 8 63) HT_ ?_
         refine ta8 6 52 (mb 8 127) HT_ HW_ hHeld ?_
         refine oa 7 53 (mb 8 255) HT_ (fun K hK => ?_)
         refine gA Try.func101 #[.agg #[.int .i64 ((rd_T50 l0 t605).f0), .int .i64 ((rd_T50 l0 t605).f1), .int .i64 ((rd_T50 l0 t605).f2), .int .i64 ((rd_T50 l0 t605).f3)], .agg #[.int .i64 ((rd_T50 l0 t608).f0), .int .i64 ((rd_T50 l0 t608).f1), .int .i64 ((rd_T50 l0 t608).f2), .int .i64 ((rd_T50 l0 t608).f3)]] ?_
         with_reducible refine (impl_Conflict.calls k3 ((rd_T50 l0 t605).f0) ((rd_T50 l0 t605).f1) ((rd_T50 l0 t605).f2) ((rd_T50 l0 t605).f3) ((rd_T50 l0 t608).f0) ((rd_T50 l0 t608).f1) ((rd_T50 l0 t608).f2) ((rd_T50 l0 t608).f3) false _ A30.out).mono ?_
         rintro e w49 ⟨rfl, hb⟩
         refine ⟨_, rfl, ?_⟩
         replace HO_26 := rb HO_26 hb
         replace HO_34 := rb HO_34 hb
         replace BK607 := kb BK607 hb
         replace HB := bs HB hb
         (try clear hb)
         (try clear hb2)
         (try clear hk)
         (try clear hi)
         refine hK.out _ _ (cm4 BK607 ⟨(hC HB hw609_0), (hC HB hw609_1), (hC HB hw609_2), (hC HB hw609_3)⟩) (fun hHeld => ?_)
         clear hK K
         refine nB ?_
         refine eA HT_ ?_
         try go_wp2
         go_roundg k3
         case measure => have := HJ3.out; have := HK2.out; have := HK3.out; omega
         case rel => exact ⟨(x7_3), (wrap64 (x36_3 + 1)), rS, rS, H', ⟨by have := HJ3.out; have := HK2.out; have := HK3.out; omega⟩, ⟨rK HO_26⟩, ⟨rK HO_34⟩, ⟨bG⟩⟩
        rw [if_neg c21] at H
        have c21b0 := decide_eq_false c21
        clear c21
        have H' := Aside0.mk H
        clear H
        go_wp2
        go_roundg k3
        case measure => have := HJ3.out; have := HK2.out; have := HK3.out; omega
        case rel => exact ⟨(x7_3), (wrap64 (x28_2 + 1)), rS, rS, H', ⟨by have := HJ3.out; have := HK2.out; have := HK3.out; omega⟩, ⟨rm HO_26 (fun _ hk => trivial)⟩, ⟨bA⟩⟩
     rw [if_neg c15] at H
     have c15b0 := decide_eq_false c15
     clear c15
     obtain rfl := Option.some.inj H
     go_wp2
     go_ret
     exact ⟨rA, bA⟩

/-! ### impl_IsControl: function 44 -/
def impl_IsControl.j0 : Nat → List (S50) → Bool → List Int → Int → List Int → Int → Option (Bool)
 | 0, _, _, _, _, _, _ => none
 | k + 1, x0, x28, x613000, x613001, x613002, x613003 => if x28 = true then (some false) else (if (x613002.length : Int) = 0 then (some (x613003 == 0)) else ((impl_ClearBetween.f k x0 x613000 x613002).bind fun t616 => ((impl_InRange.f x613003 1 t616).bind fun t617 => (some t617))))
def impl_IsControl.f (k : Nat) (l0 : List (S50)) (l1_0 : List Int) (a1_1 : Int) (l1_2 : List Int) (a1_3 : Int) : Option (Bool) := (impl_IsTogether.f k l0 l1_0).bind fun t613 => (if t613 = true then ((impl_IsTogether.f k l0 l1_2).bind fun t614 => (if t614 = true then (if (l1_0.length : Int) = 0 then (impl_IsControl.j0 k l0 true l1_0 a1_1 l1_2 a1_3) else ((impl_InRange.f a1_1 0 1000000).bind fun t615 => (impl_IsControl.j0 k l0 (!t615) l1_0 a1_1 l1_2 a1_3))) else (impl_IsControl.j0 k l0 true l1_0 a1_1 l1_2 a1_3))) else (impl_IsControl.j0 k l0 true l1_0 a1_1 l1_2 a1_3))
theorem impl_IsControl.mono_l : ∀ k, (∀ y0 y1 y2 y3 y4 y5, LeO (impl_IsControl.j0 k y0 y1 y2 y3 y4 y5) (impl_IsControl.j0 (k + 1) y0 y1 y2 y3 y4 y5))
 | 0 => fun _ _ _ _ _ _ r h => by simp [impl_IsControl.j0] at h
 | k + 1 => by
  have ih0 := impl_IsControl.mono_l k
  ·
   intro y0 y1 y2 y3 y4 y5
   unfold impl_IsControl.j0
   exact mz3 ih0 impl_ClearBetween.mono impl_IsTogether.mono
theorem impl_IsControl.mono : ∀ a0 a1 a2 a3 a4 k, LeO (impl_IsControl.f k a0 a1 a2 a3 a4) (impl_IsControl.f (k + 1) a0 a1 a2 a3 a4) := by
 intro a0 a1 a2 a3 a4 k
 have ih0 := impl_IsControl.mono_l k
 unfold impl_IsControl.f
 exact mz3 ih0 impl_ClearBetween.mono impl_IsTogether.mono
def impl_IsControl.T5 : Bool × List (List Nat × List Nat) := (true, [([], []), ([0], [0]), ([], []), ([], []), ([3], [3]), ([], []), ([5], [5]), ([2, 4, 6], [2, 4, 6]), ([1, 7, 7], [1, 7]), ([8, 8, 0, 1, 2, 3, 4, 5, 6, 7, 8], [8])])
def impl_IsControl.B5 : List Nat := [0, 1, 0, 0, 8, 0, 32, 124, 255, 511]
theorem impl_IsControl.tab5 : rtab .any (opsOf Try.f44 5) = impl_IsControl.T5 := by kernel_rfl
theorem impl_IsControl.bits5 : waitsOk impl_IsControl.T5.2 impl_IsControl.B5 = true := by kernel_rfl
set_option maxHeartbeats 8000000 in
set_option maxRecDepth 100000 in
theorem impl_IsControl.calls (k : Nat) (A0 : Option Addr) (c0 : Nat) (l0 : List (S50)) (A1_0 : Option Addr) (c1_0 : Nat) (l1_0 : List Int) (a1_1 : Int) (A1_2 : Option Addr) (c1_2 : Nat) (l1_2 : List Int) (a1_3 : Int) (r : Bool) (w : World) (hr0 : Kd.C k50 w A0 l0.length l0) (hc0 : l0.length ≤ c0) (hr1_0 : Kd.C (Kd.int .i64) w A1_0 l1_0.length l1_0) (hc1_0 : l1_0.length ≤ c1_0) (hr1_2 : Kd.C (Kd.int .i64) w A1_2 l1_2.length l1_2) (hc1_2 : l1_2.length ≤ c1_2) (h : impl_IsControl.f k l0 l1_0 a1_1 l1_2 a1_3 = some r) :
  Calls Try.prog 44 #[.slice A0 l0.length c0, .agg #[.slice A1_0 l1_0.length c1_0, .int .i64 a1_1, .slice A1_2 l1_2.length c1_2, .int .i64 a1_3]] w fun e w' => e = .returned (.bool r) ∧ Below w.heap.size w w' := by
 have hu66 := Try.underlying66
 have HR0 := Aside0.mk hr0
 have HC0 := Aside0.mk hc0
 clear hr0 hc0
 have HR1_0 := Aside0.mk hr1_0
 have HC1_0 := Aside0.mk hc1_0
 clear hr1_0 hc1_0
 have HR1_2 := Aside0.mk hr1_2
 have HC1_2 := Aside0.mk hc1_2
 clear hr1_2 hc1_2
 have HB := Aside0.mk (Below.refl w.heap.size w)
 have H : ((impl_IsTogether.f k l0 l1_0).bind fun t613 => (if t613 = true then ((impl_IsTogether.f k l0 l1_2).bind fun t614 => (if t614 = true then (if (l1_0.length : Int) = 0 then (impl_IsControl.j0 k l0 true l1_0 a1_1 l1_2 a1_3) else ((impl_InRange.f a1_1 0 1000000).bind fun t615 => (impl_IsControl.j0 k l0 (!t615) l1_0 a1_1 l1_2 a1_3))) else (impl_IsControl.j0 k l0 true l1_0 a1_1 l1_2 a1_3))) else (impl_IsControl.j0 k l0 true l1_0 a1_1 l1_2 a1_3))) = some r := h
 clear h
 have HC3 := Aside0.mk H
 clear H
 go_enter Try.func44, Try.ntmps44
 go_upto_region 1 with (first | ((with_reducible refine gate_dst (N := 3) rfl ?_); (try (refine gate_guard (by rfl) ?_; dsimp only)); refine bE (N := 3) (cs := #[.slice A1_0 l1_0.length c1_0, .int .i64 a1_1, .slice A1_2 l1_2.length c1_2, .int .i64 a1_3]) (t := 66) ?_; intro gb612 hg w4 hbox hb; have BK612 := Aside0.mk (hbox); have GW612 := gw w hg; have GE612 := gw w hg; replace HB := bs HB hb; clear hb hbox hg))
 (try simp only [Act.put, List.setIfInBounds_toArray, List.set_cons_zero, List.set_cons_succ])
 go_cut [28] (fun v28 wc => ∃ (kq : Nat) (x28_2 : Bool), v28 = .bool x28_2 ∧ Aside0 (impl_IsControl.j0 kq l0 x28_2 l1_0 a1_1 l1_2 a1_3 = some r) ∧ Aside0 (kq ≤ k) ∧ Aside0 (wc.heap[gb612]? = some (.cells #[(.slice A1_0 l1_0.length c1_0), .int .i64 a1_1, (.slice A1_2 l1_2.length c1_2), .int .i64 a1_3] 66 (0, 0))) ∧ Aside0 (Below w.heap.size w wc))
 case first =>
  have H := HC3.out
  clear HC3
  obtain ⟨t613, A5, H⟩ := bindE H
  try dsimp only at H
  by_cases c6 : t613 = true
  ·
   subst c6
   have H1 : ((impl_IsTogether.f k l0 l1_2).bind fun t614 => (if t614 = true then (if (l1_0.length : Int) = 0 then (impl_IsControl.j0 k l0 true l1_0 a1_1 l1_2 a1_3) else ((impl_InRange.f a1_1 0 1000000).bind fun t615 => (impl_IsControl.j0 k l0 (!t615) l1_0 a1_1 l1_2 a1_3))) else (impl_IsControl.j0 k l0 true l1_0 a1_1 l1_2 a1_3))) = some r := by rw [if_pos rfl] at H; exact H
   clear H
   have H := H1
   clear H1
   obtain ⟨t614, A7, H⟩ := bindE H
   try dsimp only at H
   by_cases c8 : t614 = true
   ·
    subst c8
    have H1 : (if (l1_0.length : Int) = 0 then (impl_IsControl.j0 k l0 true l1_0 a1_1 l1_2 a1_3) else ((impl_InRange.f a1_1 0 1000000).bind fun t615 => (impl_IsControl.j0 k l0 (!t615) l1_0 a1_1 l1_2 a1_3))) = some r := by rw [if_pos rfl] at H; exact H
    clear H
    have H := H1
    clear H1
    by_cases c9 : (l1_0.length : Int) = 0
    ·
     rw [if_pos c9] at H
     have c9b0 : ((l1_0.length : Int) == 0) = true := beq_iff_eq.mpr c9
     have c9b1 : ((l1_0.length : Int) != 0) = false := bne_eq_false_iff_eq.mpr c9
     clear c9
     (first | rw [c9b0] | (simp only [i64_w, i32_w]; rw [c9b0]) | skip)
     have H' := Aside0.mk H
     clear H
     obtain ⟨_, _, _, _, _, _, _, _⟩ := blkc4 BK612
     go_wp2_with (first | ((with_reducible refine gate_callee (f := 68) rfl ?_); refine gL (some 8) Try.func68 #[.slice A0 l0.length c0, .slice A1_0 l1_0.length c1_0] ?_; (with_reducible refine (impl_IsTogether.calls k _ _ l0 _ _ l1_0 true _ ?_ ?_ ?_ ?_ A5.out).mono ?_); exact cB HR0; exact HC0.out; exact cB HR1_0; exact HC1_0.out; rintro e w11 ⟨rfl, hb⟩; refine ⟨_, rfl, ?_⟩; replace BK612 := kb BK612 hb; replace HB := bs HB hb; (try clear hb); obtain ⟨_, _, _, _, _, _, _, _⟩ := blkc4 BK612) | (go_at_call 68; (with_reducible refine (impl_IsTogether.calls k _ _ l0 _ _ l1_2 true _ ?_ ?_ ?_ ?_ A7.out).mono ?_); exact cB HR0; exact HC0.out; exact cB HR1_2; exact HC1_2.out; rintro e w13 ⟨rfl, hb⟩; replace BK612 := kb BK612 hb; replace HB := bs HB hb; (try clear hb); obtain ⟨_, _, _, _, _, _, _, _⟩ := blkc4 BK612))
     go_meet
     case rel => exact ⟨_, (true), rS, H', ⟨oL⟩, ⟨bK BK612⟩, ⟨bG⟩⟩
    rw [if_neg c9] at H
    have c9b0 : ((l1_0.length : Int) == 0) = false := beq_eq_false_iff_ne.mpr c9
    have c9b1 : ((l1_0.length : Int) != 0) = true := bne_iff_ne.mpr c9
    have c9b2 : ¬ (l1_0 = []) := fun h_ => c9 (by rw [h_]; rfl)
    (first | rw [c9b0] | (simp only [i64_w, i32_w]; rw [c9b0]) | skip)
    obtain ⟨t615, A15, H⟩ := bindE H
    try dsimp only at H
    have H' := Aside0.mk H
    clear H
    obtain ⟨_, _, _, _, _, _, _, _⟩ := blkc4 BK612
    go_wp2_with (first | ((with_reducible refine gate_callee (f := 68) rfl ?_); refine gL (some 8) Try.func68 #[.slice A0 l0.length c0, .slice A1_0 l1_0.length c1_0] ?_; (with_reducible refine (impl_IsTogether.calls k _ _ l0 _ _ l1_0 true _ ?_ ?_ ?_ ?_ A5.out).mono ?_); exact cB HR0; exact HC0.out; exact cB HR1_0; exact HC1_0.out; rintro e w17 ⟨rfl, hb⟩; refine ⟨_, rfl, ?_⟩; replace BK612 := kb BK612 hb; replace HB := bs HB hb; (try clear hb); obtain ⟨_, _, _, _, _, _, _, _⟩ := blkc4 BK612) | (go_at_call 68; (with_reducible refine (impl_IsTogether.calls k _ _ l0 _ _ l1_2 true _ ?_ ?_ ?_ ?_ A7.out).mono ?_); exact cB HR0; exact HC0.out; exact cB HR1_2; exact HC1_2.out; rintro e w19 ⟨rfl, hb⟩; replace BK612 := kb BK612 hb; replace HB := bs HB hb; (try clear hb); obtain ⟨_, _, _, _, _, _, _, _⟩ := blkc4 BK612) | (go_at_call 75; (with_reducible refine (impl_InRange.calls a1_1 0 1000000 t615 _ A15.out).mono ?_); rintro e w' ⟨rfl, ⟨nd, rfl⟩⟩))
    go_meet
    case rel => exact ⟨_, (!t615), rS, H', ⟨oL⟩, ⟨bK BK612⟩, ⟨bG⟩⟩
   replace c8 := Bool.eq_false_iff.mpr c8
   subst c8
   have H1 : (impl_IsControl.j0 k l0 true l1_0 a1_1 l1_2 a1_3) = some r := by rw [if_neg (show ¬ (false = true) by decide)] at H; exact H
   clear H
   have H := H1
   clear H1
   have H' := Aside0.mk H
   clear H
   obtain ⟨_, _, _, _, _, _, _, _⟩ := blkc4 BK612
   go_wp2_with (first | ((with_reducible refine gate_callee (f := 68) rfl ?_); refine gL (some 8) Try.func68 #[.slice A0 l0.length c0, .slice A1_0 l1_0.length c1_0] ?_; (with_reducible refine (impl_IsTogether.calls k _ _ l0 _ _ l1_0 true _ ?_ ?_ ?_ ?_ A5.out).mono ?_); exact cB HR0; exact HC0.out; exact cB HR1_0; exact HC1_0.out; rintro e w22 ⟨rfl, hb⟩; refine ⟨_, rfl, ?_⟩; replace BK612 := kb BK612 hb; replace HB := bs HB hb; (try clear hb); obtain ⟨_, _, _, _, _, _, _, _⟩ := blkc4 BK612) | (go_at_call 68; (with_reducible refine (impl_IsTogether.calls k _ _ l0 _ _ l1_2 false _ ?_ ?_ ?_ ?_ A7.out).mono ?_); exact cB HR0; exact HC0.out; exact cB HR1_2; exact HC1_2.out; rintro e w24 ⟨rfl, hb⟩; replace BK612 := kb BK612 hb; replace HB := bs HB hb; (try clear hb)))
   go_meet
   case rel => exact ⟨_, (true), rS, H', ⟨oL⟩, ⟨bK BK612⟩, ⟨bG⟩⟩
  replace c6 := Bool.eq_false_iff.mpr c6
  subst c6
  have H1 : (impl_IsControl.j0 k l0 true l1_0 a1_1 l1_2 a1_3) = some r := by rw [if_neg (show ¬ (false = true) by decide)] at H; exact H
  clear H
  have H := H1
  clear H1
  have H' := Aside0.mk H
  clear H
  obtain ⟨_, _, _, _, _, _, _, _⟩ := blkc4 BK612
  go_wp2_with (first | ((with_reducible refine gate_callee (f := 68) rfl ?_); refine gL (some 8) Try.func68 #[.slice A0 l0.length c0, .slice A1_0 l1_0.length c1_0] ?_; (with_reducible refine (impl_IsTogether.calls k _ _ l0 _ _ l1_0 false _ ?_ ?_ ?_ ?_ A5.out).mono ?_); exact cB HR0; exact HC0.out; exact cB HR1_0; exact HC1_0.out; rintro e w26 ⟨rfl, hb⟩; refine ⟨_, rfl, ?_⟩; replace BK612 := kb BK612 hb; replace HB := bs HB hb; (try clear hb)))
  go_meet
  case rel => exact ⟨_, (true), rS, H', ⟨oL⟩, ⟨bK BK612⟩, ⟨bG⟩⟩
 case rest =>
  clear HC3
  obtain ⟨kq, x28_2, rfl, HA, HJ2, BK612, HB⟩ := hcut
  cases kq with
  | zero => exact absurd HA.out (by simp [impl_IsControl.j0])
  | succ kj2 =>
   have H := HA.out
   clear HA
   simp only [impl_IsControl.j0] at H
   by_cases c27 : x28_2 = true
   ·
    subst c27
    have H1 : (some false) = some r := by rw [if_pos rfl] at H; exact H
    clear H
    have H := H1
    clear H1
    obtain rfl := Option.some.inj H
    go_wp2
    go_ret
    exact ⟨rA, bG⟩
   replace c27 := Bool.eq_false_iff.mpr c27
   subst c27
   have H1 : (if (l1_2.length : Int) = 0 then (some (a1_3 == 0)) else ((impl_ClearBetween.f kj2 l0 l1_0 l1_2).bind fun t616 => ((impl_InRange.f a1_3 1 t616).bind fun t617 => (some t617)))) = some r := by rw [if_neg (show ¬ (false = true) by decide)] at H; exact H
   clear H
   have H := H1
   clear H1
   by_cases c28 : (l1_2.length : Int) = 0
   ·
    rw [if_pos c28] at H
    have c28b0 : ((l1_2.length : Int) == 0) = true := beq_iff_eq.mpr c28
    have c28b1 : ((l1_2.length : Int) != 0) = false := bne_eq_false_iff_eq.mpr c28
    clear c28
    obtain rfl := Option.some.inj H
    obtain ⟨_, _, _, _, _, _, _, _⟩ := blkc4 BK612
    go_wp2
    go_ret
    exact ⟨rA, bG⟩
   rw [if_neg c28] at H
   have c28b0 : ((l1_2.length : Int) == 0) = false := beq_eq_false_iff_ne.mpr c28
   have c28b1 : ((l1_2.length : Int) != 0) = true := bne_iff_ne.mpr c28
   have c28b2 : ¬ (l1_2 = []) := fun h_ => c28 (by rw [h_]; rfl)
   obtain ⟨t616, A30, H⟩ := bindE H
   try dsimp only at H
   obtain ⟨t617, A31, H⟩ := bindE H
   try dsimp only at H
   obtain rfl := Option.some.inj H
   obtain ⟨_, _, _, _, _, _, _, _⟩ := blkc4 BK612
   try go_wp2
   replace BK612 := dk BK612
   have HBo := HB
   replace HB := db HB
   refine sw (ds := []) 10 (mb 10 0) impl_IsControl.tab5 impl_IsControl.bits5 (h4 BK612) (fun hHeld HT_ HW_ => ?_)
   generalize wc.drew = w33 at BK612 HB hHeld ⊢
   refine pa 0 36 (mb 10 1) HT_ ?_
   refine pa 2 38 (mb 10 5) HT_ ?_
   refine pa 3 39 (mb 10 13) HT_ ?_
   refine pa 5 41 (mb 10 45) HT_ ?_
   refine ta4 1 37 (mb 10 47) HT_ HW_ hHeld ?_
   refine ta4 4 40 (mb 10 63) HT_ HW_ hHeld ?_
   refine ta4 6 42 (mb 10 127) HT_ HW_ hHeld ?_
   refine oa 7 43 (mb 10 255) HT_ (fun K hK => ?_)
   refine gA Try.func99 #[.slice A0 l0.length c0, .slice A1_0 l1_0.length c1_0, .slice A1_2 l1_2.length c1_2] ?_
   with_reducible refine (impl_ClearBetween.calls kj2 _ _ l0 _ _ l1_0 _ _ l1_2 t616 _ ?side1 ?side2 ?side3 ?side4 ?side5 ?side6 A30.out).mono ?_
   (case side1 => exact cB HR0)
   (case side2 => exact HC0.out)
   (case side3 => exact cB HR1_0)
   (case side4 => exact HC1_0.out)
   (case side5 => exact cB HR1_2)
   (case side6 => exact HC1_2.out)
   rintro e w34 ⟨rfl, hb⟩
   refine ⟨_, rfl, ?_⟩
   replace BK612 := kb BK612 hb
   replace HB := bs HB hb
   (try clear hb)
   (try clear hb2)
   (try clear hk)
   (try clear hi)
   refine hK.out _ _ (cn4 BK612) (fun hHeld => ?_)
   clear hK K
   refine nB ?_
   refine oa 8 44 (mb 10 511) HT_ (fun K hK => ?_)
   refine gA Try.func75 #[.int .i64 a1_3, .int .i64 1, .int .i64 t616] ?_
   with_reducible refine (impl_InRange.calls a1_3 1 t616 t617 _ A31.out).mono ?_
   rintro e w' ⟨rfl, ⟨nd, rfl⟩⟩
   refine ⟨_, rfl, ?_⟩
   refine hK.out _ _ (cn4 BK612) (fun hHeld => ?_)
   clear hK K
   refine nB ?_
   refine pa 9 4 (mb 10 1023) HT_ ?_
   refine eA HT_ ?_
   try go_wp2
   go_ret
   exact ⟨rA, bG⟩

/-! ### impl_LeastGreen: function 77 -/
def impl_LeastGreen.l0 : Nat → List (S50) → List Int → Int → Int → Option (Int)
 | 0, _, _, _, _ => none
 | k + 1, x0, x8, x9, x10 => if x10 < x9 then (if 0 ≤ x10 then (if x10 < (x8.length : Int) then ((impl_FindPath.f x0 (rd x8 x10)).bind fun t619 => (if t619 ≥ 0 then (if 0 ≤ t619 then (if t619 < (x0.length : Int) then (if ((rd_T50 x0 t619).f1) = 2 then (some 7) else (impl_LeastGreen.l0 k x0 x8 x9 (wrap64 (x10 + 1)))) else (none)) else (none)) else (impl_LeastGreen.l0 k x0 x8 x9 (wrap64 (x10 + 1))))) else (none)) else (none)) else (some 5)
def impl_LeastGreen.f (k : Nat) (l0 : List (S50)) (l1 : List Int) : Option (Int) := impl_LeastGreen.l0 k l0 l1 (l1.length : Int) 0
theorem impl_LeastGreen.mono_l : ∀ k, (∀ y0 y1 y2 y3, LeO (impl_LeastGreen.l0 k y0 y1 y2 y3) (impl_LeastGreen.l0 (k + 1) y0 y1 y2 y3))
 | 0 => fun _ _ _ _ r h => by simp [impl_LeastGreen.l0] at h
 | k + 1 => by
  have ih0 := impl_LeastGreen.mono_l k
  ·
   intro y0 y1 y2 y3
   unfold impl_LeastGreen.l0
   exact mz1 ih0
theorem impl_LeastGreen.mono : ∀ a0 a1 k, LeO (impl_LeastGreen.f k a0 a1) (impl_LeastGreen.f (k + 1) a0 a1) := by
 intro a0 a1 k
 have ih0 := impl_LeastGreen.mono_l k
 unfold impl_LeastGreen.f
 exact mz1 ih0
set_option maxHeartbeats 8000000 in
set_option maxRecDepth 100000 in
theorem impl_LeastGreen.calls (k : Nat) (A0 : Option Addr) (c0 : Nat) (l0 : List (S50)) (A1 : Option Addr) (c1 : Nat) (l1 : List Int) (r : Int) (w : World) (hr0 : Kd.C k50 w A0 l0.length l0) (hc0 : l0.length ≤ c0) (hr1 : Kd.C (Kd.int .i64) w A1 l1.length l1) (hc1 : l1.length ≤ c1) (h : impl_LeastGreen.f k l0 l1 = some r) :
  Calls Try.prog 77 #[.slice A0 l0.length c0, .slice A1 l1.length c1] w fun e w' => e = .returned (.int .i64 r) ∧ Below w.heap.size w w' := by
 have HR0 := Aside0.mk hr0
 have HC0 := Aside0.mk hc0
 clear hr0 hc0
 have HR1 := Aside0.mk hr1
 have HC1 := Aside0.mk hc1
 clear hr1 hc1
 have HB := Aside0.mk (Below.refl w.heap.size w)
 have H : (impl_LeastGreen.l0 k l0 l1 (l1.length : Int) 0) = some r := h
 clear h
 have H' := Aside0.mk H
 clear H
 go_enter Try.func77, Try.ntmps77
 go_wp2
 go_loopg [10] k (fun kq v10 w' => ∃ (x10_1 : Int), v10 = .int .i64 x10_1 ∧ Aside0 (impl_LeastGreen.l0 kq l0 l1 (l1.length : Int) x10_1 = some r) ∧ Aside0 (kq ≤ k) ∧ Aside0 (Below w.heap.size w w'))
 case atStart => exact ⟨(0), rS, H', ⟨Nat.le_refl _⟩, ⟨bA⟩⟩
 case round =>
  clear H'
  obtain ⟨x10_1, rfl, HA, HK1, HB⟩ := hrel
  cases gk with
  | zero => exact absurd HA.out (by simp [impl_LeastGreen.l0])
  | succ k1 =>
   have H := HA.out
   clear HA
   simp only [impl_LeastGreen.l0] at H
   by_cases c3 : x10_1 < (l1.length : Int)
   ·
    rw [if_pos c3] at H
    have c3b0 := decide_eq_true c3
    clear c3
    have c4 : 0 ≤ x10_1 := ifN H
    replace H := ifT H
    have c4b0 := decide_eq_true c4
    clear c4
    have c5 : x10_1 < (l1.length : Int) := ifN H
    replace H := ifT H
    have c5b0 := decide_eq_true c5
    clear c5
    obtain ⟨t619, A6, H⟩ := bindE H
    try dsimp only at H
    by_cases c7 : t619 ≥ 0
    ·
     rw [if_pos c7] at H
     have c7b0 := decide_eq_true c7
     clear c7
     have c8 : 0 ≤ t619 := ifN H
     replace H := ifT H
     have c8b0 := decide_eq_true c8
     clear c8
     have c9 : t619 < (l0.length : Int) := ifN H
     replace H := ifT H
     have c9b0 := decide_eq_true c9
     clear c9
     by_cases c10 : ((rd_T50 l0 t619).f1) = 2
     ·
      rw [if_pos c10] at H
      have c10b0 : (((rd_T50 l0 t619).f1) == 2) = true := beq_iff_eq.mpr c10
      have c10b1 : (((rd_T50 l0 t619).f1) != 2) = false := bne_eq_false_iff_eq.mpr c10
      clear c10
      obtain rfl := Option.some.inj H
      obtain ⟨p618, q618⟩ : 0 ≤ (x10_1 : Int) ∧ x10_1 < (l1.length : Int) := ⟨dA, dA⟩
      obtain ⟨ad618, e618, hx618_0⟩ := Kd.at_int (Kd.C_below HR1.out HB.out) x10_1 p618 q618
      cases e618
      obtain ⟨p618, q618⟩ := eT p618 q618
      go_wp2_with (first | ((with_reducible refine gate_callee (f := 16) rfl ?_); refine gL (some 16) Try.func16 #[.slice A0 l0.length c0, .int .i64 (rd l1 x10_1)] ?_; (with_reducible refine (impl_FindPath.calls _ _ l0 (rd l1 x10_1) t619 _ ?_ ?_ A6.out).mono ?_); exact cB HR0; exact HC0.out; rintro e w11 ⟨rfl, hb⟩; refine ⟨_, rfl, ?_⟩; replace HB := bs HB hb; (try clear hb); have p620 : 0 ≤ (t619 : Int) := dA; have q620 : t619 < (l0.length : Int) := dA; obtain ⟨ad620, e620, hx620_0, hx620_1, hx620_2, hx620_3⟩ := at_T50 HR0.out t619 p620 q620; cases e620; replace hx620_0 := hC HB hx620_0; replace hx620_1 := hC HB hx620_1; replace hx620_2 := hC HB hx620_2; replace hx620_3 := hC HB hx620_3; replace p620 := eq_true p620; replace q620 := eq_true q620))
      go_ret
      exact ⟨rA, bA⟩
     rw [if_neg c10] at H
     have c10b0 : (((rd_T50 l0 t619).f1) == 2) = false := beq_eq_false_iff_ne.mpr c10
     have c10b1 : (((rd_T50 l0 t619).f1) != 2) = true := bne_iff_ne.mpr c10
     have H' := Aside0.mk H
     clear H
     obtain ⟨p618, q618⟩ : 0 ≤ (x10_1 : Int) ∧ x10_1 < (l1.length : Int) := ⟨dA, dA⟩
     obtain ⟨ad618, e618, hx618_0⟩ := Kd.at_int (Kd.C_below HR1.out HB.out) x10_1 p618 q618
     cases e618
     obtain ⟨p618, q618⟩ := eT p618 q618
     go_wp2_with (first | ((with_reducible refine gate_callee (f := 16) rfl ?_); refine gL (some 16) Try.func16 #[.slice A0 l0.length c0, .int .i64 (rd l1 x10_1)] ?_; (with_reducible refine (impl_FindPath.calls _ _ l0 (rd l1 x10_1) t619 _ ?_ ?_ A6.out).mono ?_); exact cB HR0; exact HC0.out; rintro e w12 ⟨rfl, hb⟩; refine ⟨_, rfl, ?_⟩; replace HB := bs HB hb; (try clear hb); have p620 : 0 ≤ (t619 : Int) := dA; have q620 : t619 < (l0.length : Int) := dA; obtain ⟨ad620, e620, hx620_0, hx620_1, hx620_2, hx620_3⟩ := at_T50 HR0.out t619 p620 q620; cases e620; replace hx620_0 := hC HB hx620_0; replace hx620_1 := hC HB hx620_1; replace hx620_2 := hC HB hx620_2; replace hx620_3 := hC HB hx620_3; replace p620 := eq_true p620; replace q620 := eq_true q620))
     go_roundg k1
     case measure => have := HK1.out; omega
     case rel => exact ⟨(wrap64 (x10_1 + 1)), rS, H', ⟨by have := HK1.out; omega⟩, ⟨bA⟩⟩
    rw [if_neg c7] at H
    have c7b0 := decide_eq_false c7
    clear c7
    have H' := Aside0.mk H
    clear H
    obtain ⟨p618, q618⟩ : 0 ≤ (x10_1 : Int) ∧ x10_1 < (l1.length : Int) := ⟨dA, dA⟩
    obtain ⟨ad618, e618, hx618_0⟩ := Kd.at_int (Kd.C_below HR1.out HB.out) x10_1 p618 q618
    cases e618
    obtain ⟨p618, q618⟩ := eT p618 q618
    go_wp2_with (first | ((with_reducible refine gate_callee (f := 16) rfl ?_); refine gL (some 16) Try.func16 #[.slice A0 l0.length c0, .int .i64 (rd l1 x10_1)] ?_; (with_reducible refine (impl_FindPath.calls _ _ l0 (rd l1 x10_1) t619 _ ?_ ?_ A6.out).mono ?_); exact cB HR0; exact HC0.out; rintro e w13 ⟨rfl, hb⟩; refine ⟨_, rfl, ?_⟩; replace HB := bs HB hb; (try clear hb)))
    go_roundg k1
    case measure => have := HK1.out; omega
    case rel => exact ⟨(wrap64 (x10_1 + 1)), rS, H', ⟨by have := HK1.out; omega⟩, ⟨bA⟩⟩
   rw [if_neg c3] at H
   have c3b0 := decide_eq_false c3
   clear c3
   obtain rfl := Option.some.inj H
   go_wp2
   go_ret
   exact ⟨rA, bA⟩

/-! ### impl_CanEnd: function 43 -/
def impl_CanEnd.f (k : Nat) (l0 : List (S50)) (l1_0 : List Int) (a1_1 : Int) (l1_2 : List Int) (a1_3 : Int) : Option (Bool) := (impl_IsControl.f k l0 l1_0 a1_1 l1_2 a1_3).bind fun t622 => (if t622 = true then (if (l1_2.length : Int) = 0 then ((impl_LeastGreen.f k l0 l1_0).bind fun t623 => (some (decide (a1_1 ≥ t623)))) else (some false)) else (some false))
theorem impl_CanEnd.mono : ∀ a0 a1 a2 a3 a4 k, LeO (impl_CanEnd.f k a0 a1 a2 a3 a4) (impl_CanEnd.f (k + 1) a0 a1 a2 a3 a4) := by
 intro a0 a1 a2 a3 a4 k
 unfold impl_CanEnd.f
 exact mz2 impl_IsControl.mono impl_LeastGreen.mono
def impl_CanEnd.T1 : Bool × List (List Nat × List Nat) := (true, [([], []), ([], []), ([0, 1], [0, 1]), ([2, 2], [2]), ([3], [3]), ([4, 3], [3, 4]), ([5, 3], [3, 5]), ([6, 3], [3, 6]), ([3, 7], [3, 7]), ([8, 3], [8]), ([9], [9]), ([10, 9], [9, 10]), ([9], [9]), ([9], [9]), ([13, 9], [9, 13]), ([12, 14, 9, 9], [9, 12, 14]), ([11, 15, 9], [9, 11, 15]), ([9, 16], [9, 16]), ([17, 15, 0, 1, 2, 3, 4, 5, 6, 7, 8, 9, 10, 11, 12, 13, 14, 15, 16, 17], [17])])
def impl_CanEnd.B1 : List Nat := [0, 0, 3, 7, 15, 31, 63, 127, 255, 511, 1023, 2047, 1023, 1023, 9215, 29695, 65535, 131071, 262143]
theorem impl_CanEnd.tab1 : rtab .any (opsOf Try.f43 1) = impl_CanEnd.T1 := by kernel_rfl
theorem impl_CanEnd.bits1 : waitsOk impl_CanEnd.T1.2 impl_CanEnd.B1 = true := by kernel_rfl
set_option maxHeartbeats 8000000 in
set_option maxRecDepth 100000 in
theorem impl_CanEnd.calls (k : Nat) (A0 : Option Addr) (c0 : Nat) (l0 : List (S50)) (A1_0 : Option Addr) (c1_0 : Nat) (l1_0 : List Int) (a1_1 : Int) (A1_2 : Option Addr) (c1_2 : Nat) (l1_2 : List Int) (a1_3 : Int) (r : Bool) (w : World) (hr0 : Kd.C k50 w A0 l0.length l0) (hc0 : l0.length ≤ c0) (hr1_0 : Kd.C (Kd.int .i64) w A1_0 l1_0.length l1_0) (hc1_0 : l1_0.length ≤ c1_0) (hr1_2 : Kd.C (Kd.int .i64) w A1_2 l1_2.length l1_2) (hc1_2 : l1_2.length ≤ c1_2) (h : impl_CanEnd.f k l0 l1_0 a1_1 l1_2 a1_3 = some r) :
  Calls Try.prog 43 #[.slice A0 l0.length c0, .agg #[.slice A1_0 l1_0.length c1_0, .int .i64 a1_1, .slice A1_2 l1_2.length c1_2, .int .i64 a1_3]] w fun e w' => e = .returned (.bool r) ∧ Below w.heap.size w w' := by
 have hu66 := Try.underlying66
 have HR0 := Aside0.mk hr0
 have HC0 := Aside0.mk hc0
 clear hr0 hc0
 have HR1_0 := Aside0.mk hr1_0
 have HC1_0 := Aside0.mk hc1_0
 clear hr1_0 hc1_0
 have HR1_2 := Aside0.mk hr1_2
 have HC1_2 := Aside0.mk hc1_2
 clear hr1_2 hc1_2
 have HB := Aside0.mk (Below.refl w.heap.size w)
 have H : ((impl_IsControl.f k l0 l1_0 a1_1 l1_2 a1_3).bind fun t622 => (if t622 = true then (if (l1_2.length : Int) = 0 then ((impl_LeastGreen.f k l0 l1_0).bind fun t623 => (some (decide (a1_1 ≥ t623)))) else (some false)) else (some false))) = some r := h
 clear h
 obtain ⟨t622, A3, H⟩ := bindE H
 try dsimp only at H
 by_cases c4 : t622 = true
 ·
  subst c4
  have H1 : (if (l1_2.length : Int) = 0 then ((impl_LeastGreen.f k l0 l1_0).bind fun t623 => (some (decide (a1_1 ≥ t623)))) else (some false)) = some r := by rw [if_pos rfl] at H; exact H
  clear H
  have H := H1
  clear H1
  by_cases c5 : (l1_2.length : Int) = 0
  ·
   rw [if_pos c5] at H
   have c5b0 : ((l1_2.length : Int) == 0) = true := beq_iff_eq.mpr c5
   have c5b1 : ((l1_2.length : Int) != 0) = false := bne_eq_false_iff_eq.mpr c5
   clear c5
   obtain ⟨t623, A6, H⟩ := bindE H
   try dsimp only at H
   obtain rfl := Option.some.inj H
   go_enter Try.func43, Try.ntmps43
   try go_wp2_with (first | ((with_reducible refine gate_dst (N := 3) rfl ?_); (try (refine gate_guard (by rfl) ?_; dsimp only)); refine bE (N := 3) (cs := #[.slice A1_0 l1_0.length c1_0, .int .i64 a1_1, .slice A1_2 l1_2.length c1_2, .int .i64 a1_3]) (t := 66) ?_; intro gb621 hg w7 hbox hb; have BK621 := Aside0.mk (hbox); have GW621 := gw w hg; have GE621 := gw w hg; replace HB := bs HB hb; clear hb hbox hg))
   replace BK621 := dk BK621
   have HBo := HB
   replace HB := db HB
   refine sw (ds := []) 19 (mb 19 0) impl_CanEnd.tab1 impl_CanEnd.bits1 (h4 BK621) (fun hHeld HT_ HW_ => ?_)
   generalize w7.drew = w8 at BK621 HB hHeld ⊢
   refine pa 0 5 (mb 19 1) HT_ ?_
   refine ta4 1 6 (mb 19 3) HT_ HW_ hHeld ?_
   refine oa 2 7 (mb 19 7) HT_ (fun K hK => ?_)
   refine gA Try.func44 #[.slice A0 l0.length c0, .agg #[.slice A1_0 l1_0.length c1_0, .int .i64 a1_1, .slice A1_2 l1_2.length c1_2, .int .i64 a1_3]] ?_
   with_reducible refine (impl_IsControl.calls k _ _ l0 _ _ l1_0 a1_1 _ _ l1_2 a1_3 true _ ?side1 ?side2 ?side3 ?side4 ?side5 ?side6 A3.out).mono ?_
   (case side1 => exact cB HR0)
   (case side2 => exact HC0.out)
   (case side3 => exact cB HR1_0)
   (case side4 => exact HC1_0.out)
   (case side5 => exact cB HR1_2)
   (case side6 => exact HC1_2.out)
   rintro e w9 ⟨rfl, hb⟩
   refine ⟨_, rfl, ?_⟩
   replace BK621 := kb BK621 hb
   replace HB := bs HB hb
   (try clear hb)
   (try clear hb2)
   (try clear hk)
   (try clear hi)
   refine hK.out _ _ (cn4 BK621) (fun hHeld => ?_)
   clear hK K
   refine nB ?_
   refine pa 3 8 (mb 19 15) HT_ ?_
   refine pa 4 9 (mb 19 31) HT_ ?_
   refine ta4 5 10 (mb 19 63) HT_ HW_ hHeld ?_
   refine pa 6 11 (mb 19 127) HT_ ?_
   refine pa 7 12 (mb 19 255) HT_ ?_
   refine pa 8 13 (mb 19 511) HT_ ?_
   refine pa 9 14 (mb 19 1023) HT_ ?_
   refine pa 10 15 (mb 19 2047) HT_ ?_
   refine pa 12 17 (mb 19 6143) HT_ ?_
   refine pa 13 18 (mb 19 14335) HT_ ?_
   refine ta4 11 16 (mb 19 16383) HT_ HW_ hHeld ?_
   refine ta4 14 19 (mb 19 32767) HT_ HW_ hHeld ?_
   refine oa 15 20 (mb 19 65535) HT_ (fun K hK => ?_)
   refine gA Try.func77 #[.slice A0 l0.length c0, .slice A1_0 l1_0.length c1_0] ?_
   with_reducible refine (impl_LeastGreen.calls k _ _ l0 _ _ l1_0 t623 _ ?side1 ?side2 ?side3 ?side4 A6.out).mono ?_
   (case side1 => exact cB HR0)
   (case side2 => exact HC0.out)
   (case side3 => exact cB HR1_0)
   (case side4 => exact HC1_0.out)
   rintro e w10 ⟨rfl, hb⟩
   refine ⟨_, rfl, ?_⟩
   replace BK621 := kb BK621 hb
   replace HB := bs HB hb
   (try clear hb)
   (try clear hb2)
   (try clear hk)
   (try clear hi)
   refine hK.out _ _ (cn4 BK621) (fun hHeld => ?_)
   clear hK K
   refine nB ?_
   refine pa 16 21 (mb 19 131071) HT_ ?_
   refine pa 17 22 (mb 19 262143) HT_ ?_
   refine pa 18 4 (mb 19 524287) HT_ ?_
   refine eA HT_ ?_
   try go_wp2
   go_ret
   exact ⟨rA, bG⟩
  rw [if_neg c5] at H
  have c5b0 : ((l1_2.length : Int) == 0) = false := beq_eq_false_iff_ne.mpr c5
  have c5b1 : ((l1_2.length : Int) != 0) = true := bne_iff_ne.mpr c5
  have c5b2 : ¬ (l1_2 = []) := fun h_ => c5 (by rw [h_]; rfl)
  obtain rfl := Option.some.inj H
  go_enter Try.func43, Try.ntmps43
  try go_wp2_with (first | ((with_reducible refine gate_dst (N := 3) rfl ?_); (try (refine gate_guard (by rfl) ?_; dsimp only)); refine bE (N := 3) (cs := #[.slice A1_0 l1_0.length c1_0, .int .i64 a1_1, .slice A1_2 l1_2.length c1_2, .int .i64 a1_3]) (t := 66) ?_; intro gb621 hg w11 hbox hb; have BK621 := Aside0.mk (hbox); have GW621 := gw w hg; have GE621 := gw w hg; replace HB := bs HB hb; clear hb hbox hg))
  replace BK621 := dk BK621
  have HBo := HB
  replace HB := db HB
  refine sw (ds := []) 19 (mb 19 0) impl_CanEnd.tab1 impl_CanEnd.bits1 (h4 BK621) (fun hHeld HT_ HW_ => ?_)
  generalize w11.drew = w12 at BK621 HB hHeld ⊢
  refine pa 0 5 (mb 19 1) HT_ ?_
  refine ta4 1 6 (mb 19 3) HT_ HW_ hHeld ?_
  refine oa 2 7 (mb 19 7) HT_ (fun K hK => ?_)
  refine gA Try.func44 #[.slice A0 l0.length c0, .agg #[.slice A1_0 l1_0.length c1_0, .int .i64 a1_1, .slice A1_2 l1_2.length c1_2, .int .i64 a1_3]] ?_
  with_reducible refine (impl_IsControl.calls k _ _ l0 _ _ l1_0 a1_1 _ _ l1_2 a1_3 true _ ?side1 ?side2 ?side3 ?side4 ?side5 ?side6 A3.out).mono ?_
  (case side1 => exact cB HR0)
  (case side2 => exact HC0.out)
  (case side3 => exact cB HR1_0)
  (case side4 => exact HC1_0.out)
  (case side5 => exact cB HR1_2)
  (case side6 => exact HC1_2.out)
  rintro e w13 ⟨rfl, hb⟩
  refine ⟨_, rfl, ?_⟩
  replace BK621 := kb BK621 hb
  replace HB := bs HB hb
  (try clear hb)
  (try clear hb2)
  (try clear hk)
  (try clear hi)
  refine hK.out _ _ (cn4 BK621) (fun hHeld => ?_)
  clear hK K
  refine nB ?_
  refine pa 3 8 (mb 19 15) HT_ ?_
  refine pa 4 9 (mb 19 31) HT_ ?_
  refine ta4 5 10 (mb 19 63) HT_ HW_ hHeld ?_
  refine pa 6 11 (mb 19 127) HT_ ?_
  refine pa 7 12 (mb 19 255) HT_ ?_
  refine pa 8 13 (mb 19 511) HT_ ?_
  refine pa 9 14 (mb 19 1023) HT_ ?_
  refine pu 10 15 (mb 19 2047) HT_ ?_
  refine pu 11 16 (mb 19 4095) HT_ ?_
  refine pu 12 17 (mb 19 8191) HT_ ?_
  refine pu 13 18 (mb 19 16383) HT_ ?_
  refine pu 14 19 (mb 19 32767) HT_ ?_
  refine pu 15 20 (mb 19 65535) HT_ ?_
  refine pu 16 21 (mb 19 131071) HT_ ?_
  refine pa 17 22 (mb 19 262143) HT_ ?_
  refine pa 18 4 (mb 19 524287) HT_ ?_
  refine eA HT_ ?_
  try go_wp2
  go_ret
  exact ⟨rA, bG⟩
 replace c4 := Bool.eq_false_iff.mpr c4
 subst c4
 have H1 : (some false) = some r := by rw [if_neg (show ¬ (false = true) by decide)] at H; exact H
 clear H
 have H := H1
 clear H1
 obtain rfl := Option.some.inj H
 go_enter Try.func43, Try.ntmps43
 try go_wp2_with (first | ((with_reducible refine gate_dst (N := 3) rfl ?_); (try (refine gate_guard (by rfl) ?_; dsimp only)); refine bE (N := 3) (cs := #[.slice A1_0 l1_0.length c1_0, .int .i64 a1_1, .slice A1_2 l1_2.length c1_2, .int .i64 a1_3]) (t := 66) ?_; intro gb621 hg w14 hbox hb; have BK621 := Aside0.mk (hbox); have GW621 := gw w hg; have GE621 := gw w hg; replace HB := bs HB hb; clear hb hbox hg))
 replace BK621 := dk BK621
 have HBo := HB
 replace HB := db HB
 refine sw (ds := []) 19 (mb 19 0) impl_CanEnd.tab1 impl_CanEnd.bits1 (h4 BK621) (fun hHeld HT_ HW_ => ?_)
 generalize w14.drew = w15 at BK621 HB hHeld ⊢
 refine pa 0 5 (mb 19 1) HT_ ?_
 refine ta4 1 6 (mb 19 3) HT_ HW_ hHeld ?_
 refine oa 2 7 (mb 19 7) HT_ (fun K hK => ?_)
 refine gA Try.func44 #[.slice A0 l0.length c0, .agg #[.slice A1_0 l1_0.length c1_0, .int .i64 a1_1, .slice A1_2 l1_2.length c1_2, .int .i64 a1_3]] ?_
 with_reducible refine (impl_IsControl.calls k _ _ l0 _ _ l1_0 a1_1 _ _ l1_2 a1_3 false _ ?side1 ?side2 ?side3 ?side4 ?side5 ?side6 A3.out).mono ?_
 (case side1 => exact cB HR0)
 (case side2 => exact HC0.out)
 (case side3 => exact cB HR1_0)
 (case side4 => exact HC1_0.out)
 (case side5 => exact cB HR1_2)
 (case side6 => exact HC1_2.out)
 rintro e w16 ⟨rfl, hb⟩
 refine ⟨_, rfl, ?_⟩
 replace BK621 := kb BK621 hb
 replace HB := bs HB hb
 (try clear hb)
 (try clear hb2)
 (try clear hk)
 (try clear hi)
 refine hK.out _ _ (cn4 BK621) (fun hHeld => ?_)
 clear hK K
 refine nB ?_
 refine pa 3 8 (mb 19 15) HT_ ?_
 refine pu 4 9 (mb 19 31) HT_ ?_
 refine pu 5 10 (mb 19 63) HT_ ?_
 refine pu 6 11 (mb 19 127) HT_ ?_
 refine pu 7 12 (mb 19 255) HT_ ?_
 refine pa 8 13 (mb 19 511) HT_ ?_
 refine pa 9 14 (mb 19 1023) HT_ ?_
 refine pu 10 15 (mb 19 2047) HT_ ?_
 refine pu 11 16 (mb 19 4095) HT_ ?_
 refine pu 12 17 (mb 19 8191) HT_ ?_
 refine pu 13 18 (mb 19 16383) HT_ ?_
 refine pu 14 19 (mb 19 32767) HT_ ?_
 refine pu 15 20 (mb 19 65535) HT_ ?_
 refine pu 16 21 (mb 19 131071) HT_ ?_
 refine pa 17 22 (mb 19 262143) HT_ ?_
 refine pa 18 4 (mb 19 524287) HT_ ?_
 refine eA HT_ ?_
 try go_wp2
 go_ret
 exact ⟨rA, bG⟩

/-! ### slices_Clone_int_int: function 100 -/
def slices_Clone_int_int.f (l0 : List Int) : Option (List Int) := if l0.length < 17592186044416 then some l0 else none
theorem slices_Clone_int_int.eq0 {P : Program} (w : World) (d : Nat) (t e : TypeId) (a : Option Addr) (n c n' c' : Nat) (h : P.underlying t = some (.slice e)) : (Op.equalIn (d + 1) t (.slice a n c) (.slice none n' c')).run P w = .ok a.isNone w := by
 cases a <;> simp [Op.equalIn, run_underlying h]
theorem slices_Clone_int_int.eq1 {P : Program} (w : World) (t e : TypeId) (a : Option Addr) (n c n' c' : Nat) (h : P.underlying t = some (.slice e)) : (binOp .eql t (.slice a n c) (.slice none n' c')).run P w = .ok (.bool a.isNone) w := by
 simp only [binOp]
 simp [Op.equal, Op.maxDepth, slices_Clone_int_int.eq0 w 9999 t e a n c n' c' h]
set_option maxHeartbeats 4000000 in
set_option maxRecDepth 100000 in
theorem slices_Clone_int_int.calls (A0 : Option Addr) (c0 : Nat) (l0 : List Int) (r : List Int) (w : World) (hr0 : Kd.C (Kd.int .i64) w A0 l0.length l0) (hc0 : l0.length ≤ c0) (h : slices_Clone_int_int.f l0 = some r) :
  Calls Try.prog 100 #[.slice A0 l0.length c0] w fun e w' => ∃ v0_ : Value, e = .returned (v0_) ∧ Kd.R (Kd.int .i64) 3 w' w.heap.size (fun _ => True) v0_ r ∧ Below w.heap.size w w' := by
 unfold slices_Clone_int_int.f at h
 have hlim := ifN h
 replace h := ifT h
 obtain rfl := Option.some.inj h
 have HL := Aside0.mk hlim
 have HR0 := Aside0.mk hr0
 have HC0 := Aside0.mk hc0
 clear hr0 hc0 h hlim
 have q_ : ∀ (w : World) (a : Option Addr) (n c n' c' : Nat), (binOp .eql 35 (.slice a n c) (.slice none n' c')).run Try.prog w = .ok (.bool a.isNone) w := fun w a n c n' c' => slices_Clone_int_int.eq1 w _ _ a n c n' c' Try.underlying35
 cases A0 with
 | none =>
  have hl0 : l0 = [] := by
   rcases Nat.eq_zero_or_pos l0.length with h0 | h0
   ·
    exact List.eq_nil_of_length_eq_zero h0
   ·
    obtain ⟨ad, ha, _⟩ := HR0.out.2.2 h0
    cases ha
  subst hl0
  go_enter Try.func100, Try.ntmps100
  go_wp2
  go_ret
  exact ⟨_, rfl, Kd.R_nil _ _ _ _ _, Below.refl _ _⟩
 | some ad =>
  go_enter Try.func100, Try.ntmps100
  go_wp2_with (first
   | ((with_reducible refine gate_dst (N := 5) rfl ?_); refine Kd.R_lit (Kd.int .i64) _ 3 ?hg (N := 5) ?hd (xs := ([] : List Int)) (inner := []) (ok := fun _ => True) (okp := fun _ => True) ?hr ?hp (fun _ hk => hk) trivial (Below.refl w.heap.size w) (Nat.le_refl _) (by simp) ?_; (case hd => rfl); (case hg => rfl); (case hr => first | (go_simp; done) | (go_simp; rfl)); (case hp => exact (Reps.none _ _)); intro v304 w3 ho4 hb hg_ hnew_; have HO := Aside0.mk ho4; have HB := Aside0.mk hb; clear ho4 hb hg_ hnew_)
   | ((with_reducible refine gate_builtin (b := .append) (xs := #[.tmp 5, .tmp 6]) rfl ?_); at_builtin; refine Kd.R_append_rows (Kd.int .i64) (w0 := w) w.heap.size rfl (.tmp 5) (.tmp 6) 35 3 (.int .i64 0) 8 rfl Try.underlying35 info3 rfl (by decide) (by omega) v304 ([] : List Int) l0 _ _ _ (fun _ => True) (fun _ => False) rfl rfl ?aO ?aR (fun _ _ h => h) (fun _ h => h.elim) ?aF ?aB ?aS ?aL ?_; (case aR => exact Kd.C_below HR0.out HB.out); (case aB => exact HB.out); (case aF => exact (fun _ _ => trivial)); (case aO => exact HO.out); (case aS => exact HB.out.size); (case aL => have := HL.out; simp; omega); intro v1 w9 ho hb hg hat; rw [List.nil_append] at ho; have HO1 := Aside0.mk ho; have HB1 := Aside0.mk hb; clear ho hb hg hat))
  go_ret
  exact ⟨_, rfl, HO1.out, HB1.out⟩

/-! ### impl_cloneControl: function 97 -/
def impl_cloneControl.f (l0_0 : List Int) (a0_1 : Int) (l0_2 : List Int) (a0_3 : Int) : Option (List Int × Int × List Int × Int) := (slices_Clone_int_int.f l0_0).bind fun t626 => ((slices_Clone_int_int.f l0_2).bind fun t629 => (some (t626, a0_1, t629, a0_3)))
def impl_cloneControl.T1 : Bool × List (List Nat × List Nat) := (true, [([], []), ([0], [0]), ([1], [1]), ([], []), ([3], [3]), ([4, 2], [4]), ([0, 1, 2, 3, 4], []), ([6, 2, 5, 0, 1, 2, 3, 4], [2, 6]), ([0, 1, 2, 3, 4, 5, 6, 7], []), ([8, 5, 7, 0, 1, 2, 3, 4, 5, 6, 7], [5, 8])])
def impl_cloneControl.B1 : List Nat := [0, 1, 3, 0, 8, 31, 31, 127, 255, 511]
theorem impl_cloneControl.tab1 : rtab .any (opsOf Try.f97 1) = impl_cloneControl.T1 := by kernel_rfl
theorem impl_cloneControl.bits1 : waitsOk impl_cloneControl.T1.2 impl_cloneControl.B1 = true := by kernel_rfl
set_option maxHeartbeats 8000000 in
set_option maxRecDepth 100000 in
theorem impl_cloneControl.calls (A0_0 : Option Addr) (c0_0 : Nat) (l0_0 : List Int) (a0_1 : Int) (A0_2 : Option Addr) (c0_2 : Nat) (l0_2 : List Int) (a0_3 : Int) (r1 : List Int) (r2 : Int) (r3 : List Int) (r4 : Int) (w : World) (hr0_0 : Kd.C (Kd.int .i64) w A0_0 l0_0.length l0_0) (hc0_0 : l0_0.length ≤ c0_0) (hr0_2 : Kd.C (Kd.int .i64) w A0_2 l0_2.length l0_2) (hc0_2 : l0_2.length ≤ c0_2) (h : impl_cloneControl.f l0_0 a0_1 l0_2 a0_3 = some (r1, r2, r3, r4)) :
  Calls Try.prog 97 #[.agg #[.slice A0_0 l0_0.length c0_0, .int .i64 a0_1, .slice A0_2 l0_2.length c0_2, .int .i64 a0_3]] w fun e w' => ∃ v0_ v2_ : Value, e = .returned (.agg #[v0_, .int .i64 r2, v2_, .int .i64 r4]) ∧ Kd.R (Kd.int .i64) 3 w' w.heap.size (n1 v2_) v0_ r1 ∧ Kd.R (Kd.int .i64) 3 w' w.heap.size (n1 v0_) v2_ r3 ∧ Below w.heap.size w w' := by
 have hu66 := Try.underlying66
 have HR0_0 := Aside0.mk hr0_0
 have HC0_0 := Aside0.mk hc0_0
 clear hr0_0 hc0_0
 have HR0_2 := Aside0.mk hr0_2
 have HC0_2 := Aside0.mk hc0_2
 clear hr0_2 hc0_2
 have HB := Aside0.mk (Below.refl w.heap.size w)
 have H : ((slices_Clone_int_int.f l0_0).bind fun t626 => ((slices_Clone_int_int.f l0_2).bind fun t629 => (some (t626, a0_1, t629, a0_3)))) = some (r1, r2, r3, r4) := h
 clear h
 obtain ⟨t626, A2, H⟩ := bindE H
 try dsimp only at H
 obtain ⟨t629, A3, H⟩ := bindE H
 try dsimp only at H
 simp only [Option.some.injEq, Prod.mk.injEq] at H
 obtain ⟨rfl, rfl, rfl, rfl⟩ := H
 go_enter Try.func97, Try.ntmps97
 try go_wp2_with (first | ((with_reducible refine gate_dst (N := 1) rfl ?_); refine bE (N := 1) (cs := #[.slice A0_0 l0_0.length c0_0, .int .i64 a0_1, .slice A0_2 l0_2.length c0_2, .int .i64 a0_3]) (t := 66) ?_; intro gb624 hg w4 hbox hb; have BK624 := Aside0.mk (hbox); have GW624 := gw w hg; have GE624 := gw w hg; replace HB := bs HB hb; clear hb hbox hg) | ((with_reducible refine gate_dst (N := 2) rfl ?_); refine bE (N := 2) (cs := #[.slice none 0 0, .int .i64 0, .slice none 0 0, .int .i64 0]) (t := 66) ?_; intro gb625 hg w5 hbox hb; have BK625 := Aside0.mk (hbox); have GW625 := gw w hg; have GE625 := gw w hg; replace HB := bs HB hb; have NB624_625 := nl BK624 hg; have NB625_624 := nr BK624 hg; replace BK624 := kb BK624 hb; clear hb hbox hg))
 replace BK624 := dk BK624
 replace BK625 := dk BK625
 have HBo := HB
 replace HB := db HB
 refine sw (ds := [7, 9]) 10 (mb 10 0) impl_cloneControl.tab1 impl_cloneControl.bits1 (h4 BK624) (fun hHeld HT_ HW_ => ?_)
 generalize w5.drew = w6 at BK624 BK625 HB hHeld ⊢
 refine pa 0 3 (mb 10 1) HT_ ?_
 refine pa 3 6 (mb 10 9) HT_ ?_
 refine ta4 1 4 (mb 10 11) HT_ HW_ hHeld ?_
 refine ta4 4 7 (mb 10 27) HT_ HW_ hHeld ?_
 refine oa 2 5 (mb 10 31) HT_ (fun K hK => ?_)
 refine gA Try.func100 #[.slice A0_0 l0_0.length c0_0] ?_
 with_reducible refine (slices_Clone_int_int.calls _ _ l0_0 t626 _ ?side1 ?side2 A2.out).mono ?_
 (case side1 => exact cB HR0_0)
 (case side2 => exact HC0_0.out)
 rintro e w7 ⟨v627, rfl, ho0, hb⟩
 refine ⟨_, rfl, ?_⟩
 have HO628 := rl w ho0
 replace BK624 := kb BK624 hb
 replace BK625 := kb BK625 hb
 replace HB := bs HB hb
 (try clear hb)
 (try clear hb2)
 (try clear hk)
 (try clear hi)
 (try clear ho0)
 refine hK.out _ _ (cn4 BK624) (fun hHeld => ?_)
 clear hK K
 refine nB ?_
 refine pa 6 9 (mb 10 95) HT_ ?_
 refine oa 5 8 (mb 10 127) HT_ (fun K hK => ?_)
 refine gA Try.func100 #[.slice A0_2 l0_2.length c0_2] ?_
 with_reducible refine (slices_Clone_int_int.calls _ _ l0_2 t629 _ ?side1 ?side2 A3.out).mono ?_
 (case side1 => exact cB HR0_2)
 (case side2 => exact HC0_2.out)
 rintro e w8 ⟨v630, rfl, ho0, hb⟩
 refine ⟨_, rfl, ?_⟩
 have HO631 := rl w (rn ho0 HO628)
 replace HO628 := re HO628 ho0 hb
 replace BK624 := kb BK624 hb
 replace BK625 := kb BK625 hb
 replace HB := bs HB hb
 (try clear hb)
 (try clear hb2)
 (try clear hk)
 (try clear hi)
 (try clear ho0)
 obtain ⟨Ao9, co9, eo9⟩ := Kd.R_slice HO628.out
 (first | subst eo9 | (injection eo9 with f1_ f2_ f3_; have f4_ := f1_.symm; have f5_ := f3_.symm; clear f1_ f2_ f3_; subst f4_; subst f5_))
 obtain ⟨Ao11, co11, eo11⟩ := Kd.R_slice HO631.out
 (first | subst eo11 | (injection eo11 with f1_ f2_ f3_; have f4_ := f1_.symm; have f5_ := f3_.symm; clear f1_ f2_ f3_; subst f4_; subst f5_))
 refine hK.out _ _ (cn4 BK624) (fun hHeld => ?_)
 clear hK K
 refine nB ?_
 refine last_ (i := 7) (N := none) (mb 10 255) rfl rfl (one_of HT_.out (by kernel_rfl)) (by decide) (fun K hK => ?_)
 have hs10 : w8.cell? ⟨gb624, 0, none⟩ = some (.slice A0_0 l0_0.length c0_0) := bC BK624 0
 have hfs10 := blk_frozen BK624.out 0
 have hns10_1 := NB625_624.out
 have hms10_1 := NB624_625.out
 refine skip_ (w1 := ?_) (by rfl) rfl ?_ ?_
 rotate_left
 ·
  go_simp
  rfl
 refine hK.out _ _ ?_
 clear hK K
 refine pa 8 10 (mb 10 511) HT_ ?_
 refine last_ (i := 9) (N := none) (mb 10 1023) rfl rfl (one_of HT_.out (by kernel_rfl)) (by decide) (fun K hK => ?_)
 have hs12 : w8.cell? ⟨gb624, 2, none⟩ = some (.slice A0_2 l0_2.length c0_2) := bC BK624 2
 have hfs12 := blk_frozen BK624.out 2
 have hns12_1 := NB625_624.out
 have hms12_1 := NB624_625.out
 refine skip_ (w1 := ?_) (by rfl) rfl ?_ ?_
 rotate_left
 ·
  go_simp
  rfl
 refine hK.out _ _ ?_
 clear hK K
 refine eA HT_ ?_
 have hnb13 := NB624_625.out
 have hnc13 := NB625_624.out
 obtain ⟨_, _, _, _, _, _, _, _⟩ := blkc4 BK624
 obtain ⟨_, _, _, _, _, _, _, _⟩ := blkc4 BK625
 try go_wp2
 refine bodyPost_ret (results_cell_row rfl _ _ gb625 66 #[.slice Ao9 t626.length co9, .int .i64 a0_1, .slice Ao11 t629.length co11, .int .i64 a0_3] (0, 0) _ rfl (kP BK625 NB625_624) Try.underlying66 rfl (by kernel_rfl)) rfl ?_
 exact ⟨_, _, rA, by (with_reducible repeat (first | apply Kd.R_alloc | apply Kd.R_drewN | apply Kd.R_drew)); exact Kd.R_mono (Kd.R_far (p := ⟨gb625, 3, none⟩) (Kd.R_far (p := ⟨gb625, 2, none⟩) (Kd.R_far (p := ⟨gb625, 1, none⟩) (Kd.R_far (p := ⟨gb625, 0, none⟩) (Kd.R_far (p := ⟨gb624, 2, none⟩) (Kd.R_far (p := ⟨gb624, 0, none⟩) (Kd.R_types (Kd.R_types HO628.out BK624.out (by decide)) BK625.out (by decide)) (fun _ hk => hk.1.2) (.slice Ao9 t626.length co9)) (fun _ hk => hk.1.2) (.slice Ao11 t629.length co11)) (fun _ hk => hk.2) (.slice Ao9 t626.length co9)) (fun _ hk => hk.2) (.int .i64 a0_1)) (fun _ hk => hk.2) (.slice Ao11 t629.length co11)) (fun _ hk => hk.2) (.int .i64 a0_3)) (fun _ hk => hk.1.1.2), by (with_reducible repeat (first | apply Kd.R_alloc | apply Kd.R_drewN | apply Kd.R_drew)); exact Kd.R_mono (Kd.R_far (p := ⟨gb625, 3, none⟩) (Kd.R_far (p := ⟨gb625, 2, none⟩) (Kd.R_far (p := ⟨gb625, 1, none⟩) (Kd.R_far (p := ⟨gb625, 0, none⟩) (Kd.R_far (p := ⟨gb624, 2, none⟩) (Kd.R_far (p := ⟨gb624, 0, none⟩) (Kd.R_types (Kd.R_types HO631.out BK624.out (by decide)) BK625.out (by decide)) (fun _ hk => hk.1.2) (.slice Ao9 t626.length co9)) (fun _ hk => hk.1.2) (.slice Ao11 t629.length co11)) (fun _ hk => hk.2) (.slice Ao9 t626.length co9)) (fun _ hk => hk.2) (.int .i64 a0_1)) (fun _ hk => hk.2) (.slice Ao11 t629.length co11)) (fun _ hk => hk.2) (.int .i64 a0_3)) (fun _ hk => hk.1.1.2), bG⟩

/-! ### slices_Equal_int_int: function 98 -/
def slices_Equal_int_int.l0 : Nat → List Int → List Int → Int → Int → Option (Bool)
 | 0, _, _, _, _ => none
 | k + 1, x0, x1, x12, x13 => if x13 < x12 then (if 0 ≤ x13 then (if x13 < (x0.length : Int) then (if x13 < (x1.length : Int) then (if (rd x0 x13) = (rd x1 x13) then (slices_Equal_int_int.l0 k x0 x1 x12 (wrap64 (x13 + 1))) else (some false)) else (none)) else (none)) else (none)) else (some true)
def slices_Equal_int_int.f (k : Nat) (l0 : List Int) (l1 : List Int) : Option (Bool) := if (l0.length : Int) = (l1.length : Int) then (slices_Equal_int_int.l0 k l0 l1 (l0.length : Int) 0) else (some false)
theorem slices_Equal_int_int.mono_l : ∀ k, (∀ y0 y1 y2 y3, LeO (slices_Equal_int_int.l0 k y0 y1 y2 y3) (slices_Equal_int_int.l0 (k + 1) y0 y1 y2 y3))
 | 0 => fun _ _ _ _ r h => by simp [slices_Equal_int_int.l0] at h
 | k + 1 => by
  have ih0 := slices_Equal_int_int.mono_l k
  ·
   intro y0 y1 y2 y3
   unfold slices_Equal_int_int.l0
   exact mz1 ih0
theorem slices_Equal_int_int.mono : ∀ a0 a1 k, LeO (slices_Equal_int_int.f k a0 a1) (slices_Equal_int_int.f (k + 1) a0 a1) := by
 intro a0 a1 k
 have ih0 := slices_Equal_int_int.mono_l k
 unfold slices_Equal_int_int.f
 exact mz1 ih0
set_option maxHeartbeats 8000000 in
set_option maxRecDepth 100000 in
theorem slices_Equal_int_int.calls (k : Nat) (A0 : Option Addr) (c0 : Nat) (l0 : List Int) (A1 : Option Addr) (c1 : Nat) (l1 : List Int) (r : Bool) (w : World) (hr0 : Kd.C (Kd.int .i64) w A0 l0.length l0) (hc0 : l0.length ≤ c0) (hr1 : Kd.C (Kd.int .i64) w A1 l1.length l1) (hc1 : l1.length ≤ c1) (h : slices_Equal_int_int.f k l0 l1 = some r) :
  Calls Try.prog 98 #[.slice A0 l0.length c0, .slice A1 l1.length c1] w fun e w' => e = .returned (.bool r) ∧ Drawn0 w w' := by
 have HR0 := Aside0.mk hr0
 have HC0 := Aside0.mk hc0
 clear hr0 hc0
 have HR1 := Aside0.mk hr1
 have HC1 := Aside0.mk hc1
 clear hr1 hc1
 have H : (if (l0.length : Int) = (l1.length : Int) then (slices_Equal_int_int.l0 k l0 l1 (l0.length : Int) 0) else (some false)) = some r := h
 clear h
 by_cases c3 : (l0.length : Int) = (l1.length : Int)
 ·
  rw [if_pos c3] at H
  have c3b0 : ((l0.length : Int) == (l1.length : Int)) = true := beq_iff_eq.mpr c3
  have c3b1 : ((l0.length : Int) != (l1.length : Int)) = false := bne_eq_false_iff_eq.mpr c3
  have c3b2 : (l0.length == l1.length) = true := by first | simpa using c3 | (simp at c3 ⊢; omega)
  clear c3
  have H' := Aside0.mk H
  clear H
  go_enter Try.func98, Try.ntmps98
  go_wp2
  repeat (go_quiet (fail); try go_wp2)
  go_loopg [13] k (fun kq v13 w' => ∃ (x13_1 : Int), v13 = .int .i64 x13_1 ∧ Aside0 (slices_Equal_int_int.l0 kq l0 l1 (l0.length : Int) x13_1 = some r) ∧ Aside0 (kq ≤ k) ∧ Drawn0 w w')
  case atStart => exact ⟨(0), rS, H', ⟨Nat.le_refl _⟩, by repeat (first | exact Drawn0.refl _ | apply Drawn0.step)⟩
  case round =>
   clear H'
   obtain ⟨x13_1, rfl, HA, HK1, ⟨m1, rfl⟩⟩ := hrel
   cases gk with
   | zero => exact absurd HA.out (by simp [slices_Equal_int_int.l0])
   | succ k1 =>
    have H := HA.out
    clear HA
    simp only [slices_Equal_int_int.l0] at H
    by_cases c4 : x13_1 < (l0.length : Int)
    ·
     rw [if_pos c4] at H
     have c4b0 := decide_eq_true c4
     clear c4
     have c5 : 0 ≤ x13_1 := ifN H
     replace H := ifT H
     have c5b0 := decide_eq_true c5
     clear c5
     have c6 : x13_1 < (l0.length : Int) := ifN H
     replace H := ifT H
     have c6b0 := decide_eq_true c6
     clear c6
     have c7 : x13_1 < (l1.length : Int) := ifN H
     replace H := ifT H
     have c7b0 := decide_eq_true c7
     clear c7
     by_cases c8 : (rd l0 x13_1) = (rd l1 x13_1)
     ·
      rw [if_pos c8] at H
      have c8b0 : ((rd l0 x13_1) == (rd l1 x13_1)) = true := beq_iff_eq.mpr c8
      have c8b1 : ((rd l0 x13_1) != (rd l1 x13_1)) = false := bne_eq_false_iff_eq.mpr c8
      clear c8
      have H' := Aside0.mk H
      clear H
      obtain ⟨p632, q632⟩ : 0 ≤ (x13_1 : Int) ∧ x13_1 < (l0.length : Int) := ⟨dA, dA⟩
      obtain ⟨ad632, e632, hx632_0⟩ := Kd.at_int HR0.out x13_1 p632 q632
      cases e632
      obtain ⟨p632, q632⟩ := eT p632 q632
      obtain ⟨p633, q633⟩ : 0 ≤ (x13_1 : Int) ∧ x13_1 < (l1.length : Int) := ⟨dA, dA⟩
      obtain ⟨ad633, e633, hx633_0⟩ := Kd.at_int HR1.out x13_1 p633 q633
      cases e633
      obtain ⟨p633, q633⟩ := eT p633 q633
      go_wp2
      repeat (go_quiet (fail); try go_wp2)
      go_roundg k1
      case measure => have := HK1.out; omega
      case rel => exact ⟨(wrap64 (x13_1 + 1)), rS, H', ⟨by have := HK1.out; omega⟩, by repeat (first | exact Drawn0.refl _ | apply Drawn0.step)⟩
     rw [if_neg c8] at H
     have c8b0 : ((rd l0 x13_1) == (rd l1 x13_1)) = false := beq_eq_false_iff_ne.mpr c8
     have c8b1 : ((rd l0 x13_1) != (rd l1 x13_1)) = true := bne_iff_ne.mpr c8
     obtain rfl := Option.some.inj H
     obtain ⟨p632, q632⟩ : 0 ≤ (x13_1 : Int) ∧ x13_1 < (l0.length : Int) := ⟨dA, dA⟩
     obtain ⟨ad632, e632, hx632_0⟩ := Kd.at_int HR0.out x13_1 p632 q632
     cases e632
     obtain ⟨p632, q632⟩ := eT p632 q632
     obtain ⟨p633, q633⟩ : 0 ≤ (x13_1 : Int) ∧ x13_1 < (l1.length : Int) := ⟨dA, dA⟩
     obtain ⟨ad633, e633, hx633_0⟩ := Kd.at_int HR1.out x13_1 p633 q633
     cases e633
     obtain ⟨p633, q633⟩ := eT p633 q633
     go_wp2
     repeat (go_quiet (fail); try go_wp2)
     go_ret
     exact ⟨rS, dD⟩
    rw [if_neg c4] at H
    have c4b0 := decide_eq_false c4
    clear c4
    obtain rfl := Option.some.inj H
    go_wp2
    repeat (go_quiet (fail); try go_wp2)
    go_ret
    exact ⟨rS, dD⟩
 rw [if_neg c3] at H
 have c3b0 : ((l0.length : Int) == (l1.length : Int)) = false := beq_eq_false_iff_ne.mpr c3
 have c3b1 : ((l0.length : Int) != (l1.length : Int)) = true := bne_iff_ne.mpr c3
 have c3b2 : (l0.length == l1.length) = false := by first | simpa using c3 | (simp at c3 ⊢; omega)
 obtain rfl := Option.some.inj H
 go_enter Try.func98, Try.ntmps98
 go_wp2
 repeat (go_quiet (fail); try go_wp2)
 go_ret
 exact ⟨rS, dD⟩

/-! ### impl_AskStage: function 42 -/
def impl_AskStage.j0 : Nat → List (S50) → List Int → Bool → List Int → Int → List Int → Int → List Int → Int → List Int → Int → Option (List Int × Int × List Int × Int × Bool)
 | 0, _, _, _, _, _, _, _, _, _, _, _ => none
 | k + 1, x0, x2, x32, x635000, x635001, x635002, x635003, x645000, x645001, x645002, x645003 => if x32 = true then (some (x645000, x645001, x645002, x645003, false)) else ((impl_ClearBetween.f k x0 x635000 x2).bind fun t648 => (if t648 > 0 then ((slices_Clone_int_int.f x2).bind fun t649 => (some (x645000, x645001, t649, t648, true))) else ((slices_Clone_int_int.f x2).bind fun t652 => (some (t652, 0, ([] : List Int), 0, true)))))
def impl_AskStage.f (k : Nat) (l0 : List (S50)) (l1_0 : List Int) (a1_1 : Int) (l1_2 : List Int) (a1_3 : Int) (l2 : List Int) : Option (List Int × Int × List Int × Int × Bool) := (impl_cloneControl.f l1_0 a1_1 l1_2 a1_3).bind fun bt636 => ((impl_CanEnd.f k l0 l1_0 a1_1 l1_2 a1_3).bind fun t645 => (if t645 = true then (if (l2.length : Int) = 0 then (impl_AskStage.j0 k l0 l2 true l1_0 a1_1 l1_2 a1_3 bt636.1 bt636.2.1 bt636.2.2.1 bt636.2.2.2) else ((impl_IsTogether.f k l0 l2).bind fun t646 => (if t646 = true then ((slices_Equal_int_int.f k l2 l1_0).bind fun t647 => (impl_AskStage.j0 k l0 l2 t647 l1_0 a1_1 l1_2 a1_3 bt636.1 bt636.2.1 bt636.2.2.1 bt636.2.2.2)) else (impl_AskStage.j0 k l0 l2 true l1_0 a1_1 l1_2 a1_3 bt636.1 bt636.2.1 bt636.2.2.1 bt636.2.2.2)))) else (impl_AskStage.j0 k l0 l2 true l1_0 a1_1 l1_2 a1_3 bt636.1 bt636.2.1 bt636.2.2.1 bt636.2.2.2)))
theorem impl_AskStage.mono_l : ∀ k, (∀ y0 y1 y2 y3 y4 y5 y6 y7 y8 y9 y10, LeO (impl_AskStage.j0 k y0 y1 y2 y3 y4 y5 y6 y7 y8 y9 y10) (impl_AskStage.j0 (k + 1) y0 y1 y2 y3 y4 y5 y6 y7 y8 y9 y10))
 | 0 => fun _ _ _ _ _ _ _ _ _ _ _ r h => by simp [impl_AskStage.j0] at h
 | k + 1 => by
  have ih0 := impl_AskStage.mono_l k
  ·
   intro y0 y1 y2 y3 y4 y5 y6 y7 y8 y9 y10
   unfold impl_AskStage.j0
   exact mz5 ih0 impl_CanEnd.mono impl_ClearBetween.mono impl_IsTogether.mono slices_Equal_int_int.mono
theorem impl_AskStage.mono : ∀ a0 a1 a2 a3 a4 a5 k, LeO (impl_AskStage.f k a0 a1 a2 a3 a4 a5) (impl_AskStage.f (k + 1) a0 a1 a2 a3 a4 a5) := by
 intro a0 a1 a2 a3 a4 a5 k
 have ih0 := impl_AskStage.mono_l k
 unfold impl_AskStage.f
 exact mz5 ih0 impl_CanEnd.mono impl_ClearBetween.mono impl_IsTogether.mono slices_Equal_int_int.mono
set_option maxHeartbeats 8000000 in
set_option maxRecDepth 100000 in
theorem impl_AskStage.calls (k : Nat) (A0 : Option Addr) (c0 : Nat) (l0 : List (S50)) (A1_0 : Option Addr) (c1_0 : Nat) (l1_0 : List Int) (a1_1 : Int) (A1_2 : Option Addr) (c1_2 : Nat) (l1_2 : List Int) (a1_3 : Int) (A2 : Option Addr) (c2 : Nat) (l2 : List Int) (r1 : List Int) (r2 : Int) (r3 : List Int) (r4 : Int) (r5 : Bool) (w : World) (hr0 : Kd.C k50 w A0 l0.length l0) (hc0 : l0.length ≤ c0) (hr1_0 : Kd.C (Kd.int .i64) w A1_0 l1_0.length l1_0) (hc1_0 : l1_0.length ≤ c1_0) (hr1_2 : Kd.C (Kd.int .i64) w A1_2 l1_2.length l1_2) (hc1_2 : l1_2.length ≤ c1_2) (hr2 : Kd.C (Kd.int .i64) w A2 l2.length l2) (hc2 : l2.length ≤ c2) (h : impl_AskStage.f k l0 l1_0 a1_1 l1_2 a1_3 l2 = some (r1, r2, r3, r4, r5)) :
  Calls Try.prog 42 #[.slice A0 l0.length c0, .agg #[.slice A1_0 l1_0.length c1_0, .int .i64 a1_1, .slice A1_2 l1_2.length c1_2, .int .i64 a1_3], .slice A2 l2.length c2] w fun e w' => ∃ v0_ v2_ : Value, e = .returned (.tuple #[.agg #[v0_, .int .i64 r2, v2_, .int .i64 r4], .bool r5]) ∧ Kd.R (Kd.int .i64) 3 w' w.heap.size (n1 v2_) v0_ r1 ∧ Kd.R (Kd.int .i64) 3 w' w.heap.size (n1 v0_) v2_ r3 ∧ Below w.heap.size w w' := by
 have hu66 := Try.underlying66
 have HR0 := Aside0.mk hr0
 have HC0 := Aside0.mk hc0
 clear hr0 hc0
 have HR1_0 := Aside0.mk hr1_0
 have HC1_0 := Aside0.mk hc1_0
 clear hr1_0 hc1_0
 have HR1_2 := Aside0.mk hr1_2
 have HC1_2 := Aside0.mk hc1_2
 clear hr1_2 hc1_2
 have HR2 := Aside0.mk hr2
 have HC2 := Aside0.mk hc2
 clear hr2 hc2
 have HB := Aside0.mk (Below.refl w.heap.size w)
 have H : ((impl_cloneControl.f l1_0 a1_1 l1_2 a1_3).bind fun bt636 => ((impl_CanEnd.f k l0 l1_0 a1_1 l1_2 a1_3).bind fun t645 => (if t645 = true then (if (l2.length : Int) = 0 then (impl_AskStage.j0 k l0 l2 true l1_0 a1_1 l1_2 a1_3 bt636.1 bt636.2.1 bt636.2.2.1 bt636.2.2.2) else ((impl_IsTogether.f k l0 l2).bind fun t646 => (if t646 = true then ((slices_Equal_int_int.f k l2 l1_0).bind fun t647 => (impl_AskStage.j0 k l0 l2 t647 l1_0 a1_1 l1_2 a1_3 bt636.1 bt636.2.1 bt636.2.2.1 bt636.2.2.2)) else (impl_AskStage.j0 k l0 l2 true l1_0 a1_1 l1_2 a1_3 bt636.1 bt636.2.1 bt636.2.2.1 bt636.2.2.2)))) else (impl_AskStage.j0 k l0 l2 true l1_0 a1_1 l1_2 a1_3 bt636.1 bt636.2.1 bt636.2.2.1 bt636.2.2.2)))) = some (r1, r2, r3, r4, r5) := h
 clear h
 obtain ⟨⟨t636, t639, t640, t643⟩, A4, H⟩ := bindE H
 try dsimp only at H
 have HC5 := Aside0.mk H
 clear H
 go_enter Try.func42, Try.ntmps42
 go_upto_region 2 with (first | ((with_reducible refine gate_dst (N := 4) rfl ?_); (try (refine gate_guard (by rfl) ?_; dsimp only)); refine bE (N := 4) (cs := #[.slice A1_0 l1_0.length c1_0, .int .i64 a1_1, .slice A1_2 l1_2.length c1_2, .int .i64 a1_3]) (t := 66) ?_; intro gb634 hg w6 hbox hb; have BK634 := Aside0.mk (hbox); have GW634 := gw w hg; have GE634 := gw w hg; replace HB := bs HB hb; clear hb hbox hg) | ((with_reducible refine gate_dst (N := 6) rfl ?_); (try (refine gate_guard (by rfl) ?_; dsimp only)); refine bE (N := 6) (cs := #[.slice none 0 0, .int .i64 0, .slice none 0 0, .int .i64 0]) (t := 66) ?_; intro gb635 hg w7 hbox hb; have BK635 := Aside0.mk (hbox); have GW635 := gw w hg; have GE635 := gw w hg; replace HB := bs HB hb; have NB634_635 := nl BK634 hg; have NB635_634 := nr BK634 hg; replace BK634 := kb BK634 hb; clear hb hbox hg; have hnb8 := NB634_635.out; have hnc8 := NB635_634.out; obtain ⟨_, _, _, _, _, _, _, _⟩ := blkc4 BK634) | ((with_reducible refine gate_callee (f := 97) rfl ?_); refine gL (some 11) Try.func97 #[.agg #[.slice A1_0 l1_0.length c1_0, .int .i64 a1_1, .slice A1_2 l1_2.length c1_2, .int .i64 a1_3]] ?_; (with_reducible refine (impl_cloneControl.calls _ _ l1_0 a1_1 _ _ l1_2 a1_3 t636 t639 t640 t643 _ ?_ ?_ ?_ ?_ A4.out).mono ?_); exact cB HR1_0; exact HC1_0.out; exact cB HR1_2; exact HC1_2.out; rintro e w10 ⟨v637, v641, rfl, ho0, ho1, hb⟩; refine ⟨_, rfl, ?_⟩; have HO638 := rl w ho0; have HO642 := rl w ho1; replace BK634 := kb BK634 hb; replace BK635 := kb BK635 hb; replace HB := bs HB hb; (try clear hb); (try clear ho0); (try clear ho1)) | ((with_reducible refine gate_dst (N := 8) rfl ?_); (try (refine gate_guard (by rfl) ?_; dsimp only)); refine bE (N := 8) (cs := #[.slice none 0 0, .int .i64 0, .slice none 0 0, .int .i64 0]) (t := 66) ?_; intro gb644 hg w11 hbox hb; replace HO638 := rb HO638 hb; replace HO642 := rb HO642 hb; have BK644 := Aside0.mk (hbox); have GW644 := gw w hg; have GE644 := gw w hg; replace HB := bs HB hb; have NB634_644 := nl BK634 hg; have NB644_634 := nr BK634 hg; replace BK634 := kb BK634 hb; have NB635_644 := nl BK635 hg; have NB644_635 := nr BK635 hg; replace BK635 := kb BK635 hb; clear hb hbox hg; obtain ⟨Ao12, co12, eo12⟩ := Kd.R_slice HO638.out; subst eo12; have hnb13 := NB644_634.out; have hnc13 := NB634_644.out; have hnb14 := NB644_635.out; have hnc14 := NB635_644.out; obtain ⟨_, _, _, _, _, _, _, _⟩ := blkc4 BK644; obtain ⟨Ao16, co16, eo16⟩ := Kd.R_slice HO642.out; subst eo16))
 (try simp only [Act.put, List.setIfInBounds_toArray, List.set_cons_zero, List.set_cons_succ])
 go_cut [32] (fun v32 wc => ∃ (kq : Nat) (x32_4 : Bool), v32 = .bool x32_4 ∧ Aside0 (impl_AskStage.j0 kq l0 l2 x32_4 l1_0 a1_1 l1_2 a1_3 t636 t639 t640 t643 = some (r1, r2, r3, r4, r5)) ∧ Aside0 (kq ≤ k) ∧ Aside0 (Kd.R (Kd.int .i64) 3 wc w.heap.size (n1 (.slice Ao16 t640.length co16)) (.slice Ao12 t636.length co12) t636) ∧ Aside0 (Kd.R (Kd.int .i64) 3 wc w.heap.size (n1 (.slice Ao12 t636.length co12)) (.slice Ao16 t640.length co16) t640) ∧ Aside0 (wc.heap[gb634]? = some (.cells #[(.slice A1_0 l1_0.length c1_0), .int .i64 a1_1, (.slice A1_2 l1_2.length c1_2), .int .i64 a1_3] 66 (0, 0))) ∧ Aside0 (wc.heap[gb635]? = some (.cells #[(.slice none 0 0), .int .i64 0, (.slice none 0 0), .int .i64 0] 66 (0, 0))) ∧ Aside0 (wc.heap[gb644]? = some (.cells #[(.slice Ao12 t636.length co12), .int .i64 t639, (.slice Ao16 t640.length co16), .int .i64 t643] 66 (0, 0))) ∧ Aside0 (Below w.heap.size w wc))
 case first =>
  have H := HC5.out
  clear HC5
  obtain ⟨t645, A17, H⟩ := bindE H
  try dsimp only at H
  by_cases c18 : t645 = true
  ·
   subst c18
   have H1 : (if (l2.length : Int) = 0 then (impl_AskStage.j0 k l0 l2 true l1_0 a1_1 l1_2 a1_3 t636 t639 t640 t643) else ((impl_IsTogether.f k l0 l2).bind fun t646 => (if t646 = true then ((slices_Equal_int_int.f k l2 l1_0).bind fun t647 => (impl_AskStage.j0 k l0 l2 t647 l1_0 a1_1 l1_2 a1_3 t636 t639 t640 t643)) else (impl_AskStage.j0 k l0 l2 true l1_0 a1_1 l1_2 a1_3 t636 t639 t640 t643)))) = some (r1, r2, r3, r4, r5) := by rw [if_pos rfl] at H; exact H
   clear H
   have H := H1
   clear H1
   by_cases c19 : (l2.length : Int) = 0
   ·
    rw [if_pos c19] at H
    have c19b0 : ((l2.length : Int) == 0) = true := beq_iff_eq.mpr c19
    have c19b1 : ((l2.length : Int) != 0) = false := bne_eq_false_iff_eq.mpr c19
    clear c19
    (first | rw [c19b0] | (simp only [i64_w, i32_w]; rw [c19b0]) | skip)
    have H' := Aside0.mk H
    clear H
    have hnb20 := NB634_635.out
    have hnc20 := NB635_634.out
    have hnb21 := NB634_644.out
    have hnc21 := NB644_634.out
    obtain ⟨_, _, _, _, _, _, _, _⟩ := blkc4 BK634
    go_wp2_with (first | ((with_reducible refine gate_callee (f := 43) rfl ?_); refine gL (some 14) Try.func43 #[.slice A0 l0.length c0, .agg #[.slice A1_0 l1_0.length c1_0, .int .i64 a1_1, .slice A1_2 l1_2.length c1_2, .int .i64 a1_3]] ?_; (with_reducible refine (impl_CanEnd.calls k _ _ l0 _ _ l1_0 a1_1 _ _ l1_2 a1_3 true _ ?_ ?_ ?_ ?_ ?_ ?_ A17.out).mono ?_); exact Kd.C_below HR0.out bG; exact HC0.out; exact Kd.C_below HR1_0.out bG; exact HC1_0.out; exact Kd.C_below HR1_2.out bG; exact HC1_2.out; rintro e w23 ⟨rfl, hb⟩; refine ⟨_, rfl, ?_⟩; replace HO638 := Aside0.mk (Kd.R_below (rf HO638 BK644) hb); replace HO642 := Aside0.mk (Kd.R_below (rf HO642 BK644) hb); replace BK634 := kc (kf BK634 NB634_644) hb; replace BK635 := kc (kf BK635 NB635_644) hb; replace BK644 := kc (o := .cells #[.slice Ao12 t636.length co12, .int .i64 t639, .slice Ao16 t640.length co16, .int .i64 t643] 66 (0, 0)) (kp BK644) hb; replace HB := bs HB hb; (try clear hb)))
    go_meet
    case rel => exact ⟨_, (true), rS, H', ⟨oL⟩, ⟨rK HO638⟩, ⟨rK HO642⟩, ⟨bK BK634⟩, ⟨bK BK635⟩, ⟨bK BK644⟩, ⟨bG⟩⟩
   rw [if_neg c19] at H
   have c19b0 : ((l2.length : Int) == 0) = false := beq_eq_false_iff_ne.mpr c19
   have c19b1 : ((l2.length : Int) != 0) = true := bne_iff_ne.mpr c19
   have c19b2 : ¬ (l2 = []) := fun h_ => c19 (by rw [h_]; rfl)
   (first | rw [c19b0] | (simp only [i64_w, i32_w]; rw [c19b0]) | skip)
   obtain ⟨t646, A24, H⟩ := bindE H
   try dsimp only at H
   by_cases c25 : t646 = true
   ·
    subst c25
    have H1 : ((slices_Equal_int_int.f k l2 l1_0).bind fun t647 => (impl_AskStage.j0 k l0 l2 t647 l1_0 a1_1 l1_2 a1_3 t636 t639 t640 t643)) = some (r1, r2, r3, r4, r5) := by rw [if_pos rfl] at H; exact H
    clear H
    have H := H1
    clear H1
    obtain ⟨t647, A26, H⟩ := bindE H
    try dsimp only at H
    have H' := Aside0.mk H
    clear H
    have hnb27 := NB634_635.out
    have hnc27 := NB635_634.out
    have hnb28 := NB634_644.out
    have hnc28 := NB644_634.out
    obtain ⟨_, _, _, _, _, _, _, _⟩ := blkc4 BK634
    go_wp2_with (first | ((with_reducible refine gate_callee (f := 43) rfl ?_); refine gL (some 14) Try.func43 #[.slice A0 l0.length c0, .agg #[.slice A1_0 l1_0.length c1_0, .int .i64 a1_1, .slice A1_2 l1_2.length c1_2, .int .i64 a1_3]] ?_; (with_reducible refine (impl_CanEnd.calls k _ _ l0 _ _ l1_0 a1_1 _ _ l1_2 a1_3 true _ ?_ ?_ ?_ ?_ ?_ ?_ A17.out).mono ?_); exact Kd.C_below HR0.out bG; exact HC0.out; exact Kd.C_below HR1_0.out bG; exact HC1_0.out; exact Kd.C_below HR1_2.out bG; exact HC1_2.out; rintro e w30 ⟨rfl, hb⟩; refine ⟨_, rfl, ?_⟩; replace HO638 := Aside0.mk (Kd.R_below (rf HO638 BK644) hb); replace HO642 := Aside0.mk (Kd.R_below (rf HO642 BK644) hb); replace BK634 := kc (kf BK634 NB634_644) hb; replace BK635 := kc (kf BK635 NB635_644) hb; replace BK644 := kc (o := .cells #[.slice Ao12 t636.length co12, .int .i64 t639, .slice Ao16 t640.length co16, .int .i64 t643] 66 (0, 0)) (kp BK644) hb; replace HB := bs HB hb; (try clear hb)) | (go_at_call 68; (with_reducible refine (impl_IsTogether.calls k _ _ l0 _ _ l2 true _ ?_ ?_ ?_ ?_ A24.out).mono ?_); exact cB HR0; exact HC0.out; exact cB HR2; exact HC2.out; rintro e w31 ⟨rfl, hb⟩; replace HO638 := rb HO638 hb; replace HO642 := rb HO642 hb; replace BK634 := kb BK634 hb; replace BK635 := kb BK635 hb; replace BK644 := kb BK644 hb; replace HB := bs HB hb; (try clear hb); obtain ⟨_, _, _, _, _, _, _, _⟩ := blkc4 BK634) | (go_at_call 98; (with_reducible refine (slices_Equal_int_int.calls k _ _ l2 _ _ l1_0 t647 _ ?_ ?_ ?_ ?_ A26.out).mono ?_); exact cB HR2; exact HC2.out; exact cB HR1_0; exact HC1_0.out; rintro e w' ⟨rfl, ⟨nd, rfl⟩⟩))
    go_meet
    case rel => exact ⟨_, (t647), rS, H', ⟨oL⟩, ⟨rK HO638⟩, ⟨rK HO642⟩, ⟨bK BK634⟩, ⟨bK BK635⟩, ⟨bK BK644⟩, ⟨bG⟩⟩
   replace c25 := Bool.eq_false_iff.mpr c25
   subst c25
   have H1 : (impl_AskStage.j0 k l0 l2 true l1_0 a1_1 l1_2 a1_3 t636 t639 t640 t643) = some (r1, r2, r3, r4, r5) := by rw [if_neg (show ¬ (false = true) by decide)] at H; exact H
   clear H
   have H := H1
   clear H1
   have H' := Aside0.mk H
   clear H
   have hnb33 := NB634_635.out
   have hnc33 := NB635_634.out
   have hnb34 := NB634_644.out
   have hnc34 := NB644_634.out
   obtain ⟨_, _, _, _, _, _, _, _⟩ := blkc4 BK634
   go_wp2_with (first | ((with_reducible refine gate_callee (f := 43) rfl ?_); refine gL (some 14) Try.func43 #[.slice A0 l0.length c0, .agg #[.slice A1_0 l1_0.length c1_0, .int .i64 a1_1, .slice A1_2 l1_2.length c1_2, .int .i64 a1_3]] ?_; (with_reducible refine (impl_CanEnd.calls k _ _ l0 _ _ l1_0 a1_1 _ _ l1_2 a1_3 true _ ?_ ?_ ?_ ?_ ?_ ?_ A17.out).mono ?_); exact Kd.C_below HR0.out bG; exact HC0.out; exact Kd.C_below HR1_0.out bG; exact HC1_0.out; exact Kd.C_below HR1_2.out bG; exact HC1_2.out; rintro e w36 ⟨rfl, hb⟩; refine ⟨_, rfl, ?_⟩; replace HO638 := Aside0.mk (Kd.R_below (rf HO638 BK644) hb); replace HO642 := Aside0.mk (Kd.R_below (rf HO642 BK644) hb); replace BK634 := kc (kf BK634 NB634_644) hb; replace BK635 := kc (kf BK635 NB635_644) hb; replace BK644 := kc (o := .cells #[.slice Ao12 t636.length co12, .int .i64 t639, .slice Ao16 t640.length co16, .int .i64 t643] 66 (0, 0)) (kp BK644) hb; replace HB := bs HB hb; (try clear hb)) | (go_at_call 68; (with_reducible refine (impl_IsTogether.calls k _ _ l0 _ _ l2 false _ ?_ ?_ ?_ ?_ A24.out).mono ?_); exact cB HR0; exact HC0.out; exact cB HR2; exact HC2.out; rintro e w37 ⟨rfl, hb⟩; replace HO638 := rb HO638 hb; replace HO642 := rb HO642 hb; replace BK634 := kb BK634 hb; replace BK635 := kb BK635 hb; replace BK644 := kb BK644 hb; replace HB := bs HB hb; (try clear hb)))
   go_meet
   case rel => exact ⟨_, (true), rS, H', ⟨oL⟩, ⟨rK HO638⟩, ⟨rK HO642⟩, ⟨bK BK634⟩, ⟨bK BK635⟩, ⟨bK BK644⟩, ⟨bG⟩⟩
  replace c18 := Bool.eq_false_iff.mpr c18
  subst c18
  have H1 : (impl_AskStage.j0 k l0 l2 true l1_0 a1_1 l1_2 a1_3 t636 t639 t640 t643) = some (r1, r2, r3, r4, r5) := by rw [if_neg (show ¬ (false = true) by decide)] at H; exact H
  clear H
  have H := H1
  clear H1
  have H' := Aside0.mk H
  clear H
  have hnb38 := NB634_635.out
  have hnc38 := NB635_634.out
  have hnb39 := NB634_644.out
  have hnc39 := NB644_634.out
  obtain ⟨_, _, _, _, _, _, _, _⟩ := blkc4 BK634
  go_wp2_with (first | ((with_reducible refine gate_callee (f := 43) rfl ?_); refine gL (some 14) Try.func43 #[.slice A0 l0.length c0, .agg #[.slice A1_0 l1_0.length c1_0, .int .i64 a1_1, .slice A1_2 l1_2.length c1_2, .int .i64 a1_3]] ?_; (with_reducible refine (impl_CanEnd.calls k _ _ l0 _ _ l1_0 a1_1 _ _ l1_2 a1_3 false _ ?_ ?_ ?_ ?_ ?_ ?_ A17.out).mono ?_); exact Kd.C_below HR0.out bG; exact HC0.out; exact Kd.C_below HR1_0.out bG; exact HC1_0.out; exact Kd.C_below HR1_2.out bG; exact HC1_2.out; rintro e w41 ⟨rfl, hb⟩; refine ⟨_, rfl, ?_⟩; replace HO638 := Aside0.mk (Kd.R_below (rf HO638 BK644) hb); replace HO642 := Aside0.mk (Kd.R_below (rf HO642 BK644) hb); replace BK634 := kc (kf BK634 NB634_644) hb; replace BK635 := kc (kf BK635 NB635_644) hb; replace BK644 := kc (o := .cells #[.slice Ao12 t636.length co12, .int .i64 t639, .slice Ao16 t640.length co16, .int .i64 t643] 66 (0, 0)) (kp BK644) hb; replace HB := bs HB hb; (try clear hb)))
  go_meet
  case rel => exact ⟨_, (true), rS, H', ⟨oL⟩, ⟨rK HO638⟩, ⟨rK HO642⟩, ⟨bK BK634⟩, ⟨bK BK635⟩, ⟨bK BK644⟩, ⟨bG⟩⟩
 case rest =>
  clear HC5
  obtain ⟨kq, x32_4, rfl, HA, HJ4, HO_645000, HO_645002, BK634, BK635, BK644, HB⟩ := hcut
  cases kq with
  | zero => exact absurd HA.out (by simp [impl_AskStage.j0])
  | succ kj4 =>
   have H := HA.out
   clear HA
   simp only [impl_AskStage.j0] at H
   by_cases c42 : x32_4 = true
   ·
    subst c42
    have H1 : (some (t636, t639, t640, t643, false)) = some (r1, r2, r3, r4, r5) := by rw [if_pos rfl] at H; exact H
    clear H
    have H := H1
    clear H1
    simp only [Option.some.injEq, Prod.mk.injEq] at H
    obtain ⟨rfl, rfl, rfl, rfl, rfl⟩ := H
    have hnb43 := NB644_634.out
    have hnc43 := NB634_644.out
    have hnb44 := NB644_635.out
    have hnc44 := NB635_644.out
    obtain ⟨_, _, _, _, _, _, _, _⟩ := blkc4 BK644
    have hnb46 := NB635_634.out
    have hnc46 := NB634_635.out
    obtain ⟨_, _, _, _, _, _, _, _⟩ := blkc4 BK635
    go_wp2
    refine bodyPost_ret (results_ct rfl _ _ gb635 66 #[.slice Ao12 t636.length co12, .int .i64 t639, .slice Ao16 t640.length co16, .int .i64 t643] (0, 0) _ rfl (kp BK635) Try.underlying66 rfl (by kernel_rfl)) rfl ?_
    exact ⟨_, _, rA, rf HO_645000 BK635, rf HO_645002 BK635, bG⟩
   replace c42 := Bool.eq_false_iff.mpr c42
   subst c42
   have H1 : ((impl_ClearBetween.f kj4 l0 l1_0 l2).bind fun t648 => (if t648 > 0 then ((slices_Clone_int_int.f l2).bind fun t649 => (some (t636, t639, t649, t648, true))) else ((slices_Clone_int_int.f l2).bind fun t652 => (some (t652, 0, ([] : List Int), 0, true))))) = some (r1, r2, r3, r4, r5) := by rw [if_neg (show ¬ (false = true) by decide)] at H; exact H
   clear H
   have H := H1
   clear H1
   obtain ⟨t648, A48, H⟩ := bindE H
   try dsimp only at H
   by_cases c49 : t648 > 0
   ·
    rw [if_pos c49] at H
    have c49b0 := decide_eq_true c49
    clear c49
    obtain ⟨t649, A50, H⟩ := bindE H
    try dsimp only at H
    simp only [Option.some.injEq, Prod.mk.injEq] at H
    obtain ⟨rfl, rfl, rfl, rfl, rfl⟩ := H
    have hnb51 := NB634_635.out
    have hnc51 := NB635_634.out
    have hnb52 := NB634_644.out
    have hnc52 := NB644_634.out
    obtain ⟨_, _, _, _, _, _, _, _⟩ := blkc4 BK634
    go_wp2_with (first | ((with_reducible refine gate_callee (f := 99) rfl ?_); refine gL (some 38) Try.func99 #[.slice A0 l0.length c0, .slice A1_0 l1_0.length c1_0, .slice A2 l2.length c2] ?_; (with_reducible refine (impl_ClearBetween.calls kj4 _ _ l0 _ _ l1_0 _ _ l2 t648 _ ?_ ?_ ?_ ?_ ?_ ?_ A48.out).mono ?_); exact cB HR0; exact HC0.out; exact cB HR1_0; exact HC1_0.out; exact cB HR2; exact HC2.out; rintro e w54 ⟨rfl, hb⟩; refine ⟨_, rfl, ?_⟩; replace HO_645000 := rb HO_645000 hb; replace HO_645002 := rb HO_645002 hb; replace BK634 := kb BK634 hb; replace BK635 := kb BK635 hb; replace BK644 := kb BK644 hb; replace HB := bs HB hb; (try clear hb)) | ((with_reducible refine gate_callee (f := 100) rfl ?_); refine gL (some 42) Try.func100 #[.slice A2 l2.length c2] ?_; (with_reducible refine (slices_Clone_int_int.calls _ _ l2 t649 _ ?_ ?_ A50.out).mono ?_); exact cB HR2; exact HC2.out; rintro e w55 ⟨v650, rfl, ho0, hb⟩; refine ⟨_, rfl, ?_⟩; have HO651 := rl w (rn (rn ho0 HO_645000) HO_645002); replace HO_645000 := re HO_645000 ho0 hb; replace HO_645002 := re HO_645002 ho0 hb; replace BK634 := kb BK634 hb; replace BK635 := kb BK635 hb; replace BK644 := kb BK644 hb; replace HB := bs HB hb; (try clear hb); (try clear ho0); obtain ⟨Ao56, co56, eo56⟩ := Kd.R_slice HO651.out; subst eo56; have hnb57 := NB644_635.out; have hnc57 := NB635_644.out; obtain ⟨_, _, _, _, _, _, _, _⟩ := blkc4 BK644; obtain ⟨_, _, _, _, _, _, _, _⟩ := blkc4 BK635))
    refine bodyPost_ret (results_ct rfl _ _ gb635 66 #[.slice Ao12 t636.length co12, .int .i64 t639, .slice Ao56 t649.length co56, .int .i64 t648] (0, 0) _ rfl (kP BK635 NB635_644) Try.underlying66 rfl (by kernel_rfl)) rfl ?_
    exact ⟨_, _, rA, by (with_reducible repeat (first | apply Kd.R_alloc | apply Kd.R_drewN | apply Kd.R_drew)); exact Kd.R_mono (Kd.R_far (p := ⟨gb635, 3, none⟩) (Kd.R_far (p := ⟨gb635, 2, none⟩) (Kd.R_far (p := ⟨gb635, 1, none⟩) (Kd.R_far (p := ⟨gb635, 0, none⟩) (Kd.R_far (p := ⟨gb644, 3, none⟩) (Kd.R_far (p := ⟨gb644, 2, none⟩) (Kd.R_types (Kd.R_types HO_645000.out BK644.out (by decide)) BK635.out (by decide)) (fun _ hk => hk.1.2) (.slice Ao56 t649.length co56)) (fun _ hk => hk.1.2) (.int .i64 t648)) (fun _ hk => hk.2) (.slice Ao12 t636.length co12)) (fun _ hk => hk.2) (.int .i64 t639)) (fun _ hk => hk.2) (.slice Ao56 t649.length co56)) (fun _ hk => hk.2) (.int .i64 t648)) (fun _ hk => hk.1.1.2), by (with_reducible repeat (first | apply Kd.R_alloc | apply Kd.R_drewN | apply Kd.R_drew)); exact Kd.R_mono (Kd.R_far (p := ⟨gb635, 3, none⟩) (Kd.R_far (p := ⟨gb635, 2, none⟩) (Kd.R_far (p := ⟨gb635, 1, none⟩) (Kd.R_far (p := ⟨gb635, 0, none⟩) (Kd.R_far (p := ⟨gb644, 3, none⟩) (Kd.R_far (p := ⟨gb644, 2, none⟩) (Kd.R_types (Kd.R_types HO651.out BK644.out (by decide)) BK635.out (by decide)) (fun _ hk => hk.1.2) (.slice Ao56 t649.length co56)) (fun _ hk => hk.1.2) (.int .i64 t648)) (fun _ hk => hk.2) (.slice Ao12 t636.length co12)) (fun _ hk => hk.2) (.int .i64 t639)) (fun _ hk => hk.2) (.slice Ao56 t649.length co56)) (fun _ hk => hk.2) (.int .i64 t648)) (fun _ hk => hk.1.1.1.2), bG⟩
   rw [if_neg c49] at H
   have c49b0 := decide_eq_false c49
   clear c49
   obtain ⟨t652, A60, H⟩ := bindE H
   try dsimp only at H
   simp only [Option.some.injEq, Prod.mk.injEq] at H
   obtain ⟨rfl, rfl, rfl, rfl, rfl⟩ := H
   have hnb61 := NB634_635.out
   have hnc61 := NB635_634.out
   have hnb62 := NB634_644.out
   have hnc62 := NB644_634.out
   obtain ⟨_, _, _, _, _, _, _, _⟩ := blkc4 BK634
   go_wp2_with (first | ((with_reducible refine gate_callee (f := 99) rfl ?_); refine gL (some 38) Try.func99 #[.slice A0 l0.length c0, .slice A1_0 l1_0.length c1_0, .slice A2 l2.length c2] ?_; (with_reducible refine (impl_ClearBetween.calls kj4 _ _ l0 _ _ l1_0 _ _ l2 t648 _ ?_ ?_ ?_ ?_ ?_ ?_ A48.out).mono ?_); exact cB HR0; exact HC0.out; exact cB HR1_0; exact HC1_0.out; exact cB HR2; exact HC2.out; rintro e w64 ⟨rfl, hb⟩; refine ⟨_, rfl, ?_⟩; replace HO_645000 := rb HO_645000 hb; replace HO_645002 := rb HO_645002 hb; replace BK634 := kb BK634 hb; replace BK635 := kb BK635 hb; replace BK644 := kb BK644 hb; replace HB := bs HB hb; (try clear hb)) | ((with_reducible refine gate_callee (f := 100) rfl ?_); refine gL (some 48) Try.func100 #[.slice A2 l2.length c2] ?_; (with_reducible refine (slices_Clone_int_int.calls _ _ l2 t652 _ ?_ ?_ A60.out).mono ?_); exact cB HR2; exact HC2.out; rintro e w65 ⟨v653, rfl, ho0, hb⟩; refine ⟨_, rfl, ?_⟩; have HO654 := rl w (rn (rn ho0 HO_645000) HO_645002); replace HO_645000 := re HO_645000 ho0 hb; replace HO_645002 := re HO_645002 ho0 hb; replace BK634 := kb BK634 hb; replace BK635 := kb BK635 hb; replace BK644 := kb BK644 hb; replace HB := bs HB hb; (try clear hb); (try clear ho0); obtain ⟨Ao66, co66, eo66⟩ := Kd.R_slice HO654.out; subst eo66; have hnb67 := NB635_644.out; have hnc67 := NB644_635.out; obtain ⟨_, _, _, _, _, _, _, _⟩ := blkc4 BK635))
   refine bodyPost_ret (results_ct rfl _ _ gb635 66 #[.slice Ao66 t652.length co66, .int .i64 0, .slice none 0 0, .int .i64 0] (0, 0) _ rfl (kp BK635) Try.underlying66 rfl (by kernel_rfl)) rfl ?_
   exact ⟨_, _, rA, Kd.R_mono (rf HO654 BK635) (fun _ hk => (by simp [Value.ownBlock])), by first | exact Kd.R_nil _ _ _ _ _ | exact Kd.N_nil _ _ _ _ _ | exact Kd.V_nil _ _ _ _ _ | exact Kd.Q_nil _ _ _ _ _ | exact Kd.S_nil _ _ _ _ _, bG⟩

/-! ### impl_EqualControls: function 45 -/
def impl_EqualControls.f (k : Nat) (l0_0 : List Int) (a0_1 : Int) (l0_2 : List Int) (a0_3 : Int) (l1_0 : List Int) (a1_1 : Int) (l1_2 : List Int) (a1_3 : Int) : Option (Bool) := if a0_1 = a1_1 then (if a0_3 = a1_3 then ((slices_Equal_int_int.f k l0_0 l1_0).bind fun t657 => (if t657 = true then ((slices_Equal_int_int.f k l0_2 l1_2).bind fun t658 => (some t658)) else (some false))) else (some false)) else (some false)
theorem impl_EqualControls.mono : ∀ a0 a1 a2 a3 a4 a5 a6 a7 k, LeO (impl_EqualControls.f k a0 a1 a2 a3 a4 a5 a6 a7) (impl_EqualControls.f (k + 1) a0 a1 a2 a3 a4 a5 a6 a7) := by
 intro a0 a1 a2 a3 a4 a5 a6 a7 k
 unfold impl_EqualControls.f
 exact mz1 slices_Equal_int_int.mono
set_option maxHeartbeats 8000000 in
set_option maxRecDepth 100000 in
theorem impl_EqualControls.calls (k : Nat) (A0_0 : Option Addr) (c0_0 : Nat) (l0_0 : List Int) (a0_1 : Int) (A0_2 : Option Addr) (c0_2 : Nat) (l0_2 : List Int) (a0_3 : Int) (A1_0 : Option Addr) (c1_0 : Nat) (l1_0 : List Int) (a1_1 : Int) (A1_2 : Option Addr) (c1_2 : Nat) (l1_2 : List Int) (a1_3 : Int) (r : Bool) (w : World) (hr0_0 : Kd.C (Kd.int .i64) w A0_0 l0_0.length l0_0) (hc0_0 : l0_0.length ≤ c0_0) (hr0_2 : Kd.C (Kd.int .i64) w A0_2 l0_2.length l0_2) (hc0_2 : l0_2.length ≤ c0_2) (hr1_0 : Kd.C (Kd.int .i64) w A1_0 l1_0.length l1_0) (hc1_0 : l1_0.length ≤ c1_0) (hr1_2 : Kd.C (Kd.int .i64) w A1_2 l1_2.length l1_2) (hc1_2 : l1_2.length ≤ c1_2) (h : impl_EqualControls.f k l0_0 a0_1 l0_2 a0_3 l1_0 a1_1 l1_2 a1_3 = some r) :
  Calls Try.prog 45 #[.agg #[.slice A0_0 l0_0.length c0_0, .int .i64 a0_1, .slice A0_2 l0_2.length c0_2, .int .i64 a0_3], .agg #[.slice A1_0 l1_0.length c1_0, .int .i64 a1_1, .slice A1_2 l1_2.length c1_2, .int .i64 a1_3]] w fun e w' => e = .returned (.bool r) ∧ Below w.heap.size w w' := by
 have hu66 := Try.underlying66
 have HR0_0 := Aside0.mk hr0_0
 have HC0_0 := Aside0.mk hc0_0
 clear hr0_0 hc0_0
 have HR0_2 := Aside0.mk hr0_2
 have HC0_2 := Aside0.mk hc0_2
 clear hr0_2 hc0_2
 have HR1_0 := Aside0.mk hr1_0
 have HC1_0 := Aside0.mk hc1_0
 clear hr1_0 hc1_0
 have HR1_2 := Aside0.mk hr1_2
 have HC1_2 := Aside0.mk hc1_2
 clear hr1_2 hc1_2
 have HB := Aside0.mk (Below.refl w.heap.size w)
 have H : (if a0_1 = a1_1 then (if a0_3 = a1_3 then ((slices_Equal_int_int.f k l0_0 l1_0).bind fun t657 => (if t657 = true then ((slices_Equal_int_int.f k l0_2 l1_2).bind fun t658 => (some t658)) else (some false))) else (some false)) else (some false)) = some r := h
 clear h
 by_cases c3 : a0_1 = a1_1
 ·
  rw [if_pos c3] at H
  have c3b0 : (a0_1 == a1_1) = true := beq_iff_eq.mpr c3
  have c3b1 : (a0_1 != a1_1) = false := bne_eq_false_iff_eq.mpr c3
  clear c3
  by_cases c4 : a0_3 = a1_3
  ·
   rw [if_pos c4] at H
   have c4b0 : (a0_3 == a1_3) = true := beq_iff_eq.mpr c4
   have c4b1 : (a0_3 != a1_3) = false := bne_eq_false_iff_eq.mpr c4
   clear c4
   obtain ⟨t657, A5, H⟩ := bindE H
   try dsimp only at H
   by_cases c6 : t657 = true
   ·
    subst c6
    have H1 : ((slices_Equal_int_int.f k l0_2 l1_2).bind fun t658 => (some t658)) = some r := by rw [if_pos rfl] at H; exact H
    clear H
    have H := H1
    clear H1
    obtain ⟨t658, A7, H⟩ := bindE H
    try dsimp only at H
    obtain rfl := Option.some.inj H
    go_enter Try.func45, Try.ntmps45
    go_wp2_with (first | ((with_reducible refine gate_dst (N := 2) rfl ?_); refine bE (N := 2) (cs := #[.slice A0_0 l0_0.length c0_0, .int .i64 a0_1, .slice A0_2 l0_2.length c0_2, .int .i64 a0_3]) (t := 66) ?_; intro gb655 hg w8 hbox hb; have BK655 := Aside0.mk (hbox); have GW655 := gw w hg; have GE655 := gw w hg; replace HB := bs HB hb; clear hb hbox hg) | ((with_reducible refine gate_dst (N := 3) rfl ?_); refine bE (N := 3) (cs := #[.slice A1_0 l1_0.length c1_0, .int .i64 a1_1, .slice A1_2 l1_2.length c1_2, .int .i64 a1_3]) (t := 66) ?_; intro gb656 hg w9 hbox hb; have BK656 := Aside0.mk (hbox); have GW656 := gw w hg; have GE656 := gw w hg; replace HB := bs HB hb; have NB655_656 := nl BK655 hg; have NB656_655 := nr BK655 hg; replace BK655 := kb BK655 hb; clear hb hbox hg; have hnb10 := NB655_656.out; have hnc10 := NB656_655.out; obtain ⟨_, _, _, _, _, _, _, _⟩ := blkc4 BK655; obtain ⟨_, _, _, _, _, _, _, _⟩ := blkc4 BK656) | (go_at_call 98; (with_reducible refine (slices_Equal_int_int.calls k _ _ l0_0 _ _ l1_0 true _ ?_ ?_ ?_ ?_ A5.out).mono ?_); exact cB HR0_0; exact HC0_0.out; exact cB HR1_0; exact HC1_0.out; rintro e w' ⟨rfl, ⟨nd, rfl⟩⟩) | (go_at_call 98; (with_reducible refine (slices_Equal_int_int.calls k _ _ l0_2 _ _ l1_2 t658 _ ?_ ?_ ?_ ?_ A7.out).mono ?_); exact cG HR0_2; exact HC0_2.out; exact cG HR1_2; exact HC1_2.out; rintro e w' ⟨rfl, ⟨nd, rfl⟩⟩))
    go_ret
    exact ⟨rA, bG⟩
   replace c6 := Bool.eq_false_iff.mpr c6
   subst c6
   have H1 : (some false) = some r := by rw [if_neg (show ¬ (false = true) by decide)] at H; exact H
   clear H
   have H := H1
   clear H1
   obtain rfl := Option.some.inj H
   go_enter Try.func45, Try.ntmps45
   go_wp2_with (first | ((with_reducible refine gate_dst (N := 2) rfl ?_); refine bE (N := 2) (cs := #[.slice A0_0 l0_0.length c0_0, .int .i64 a0_1, .slice A0_2 l0_2.length c0_2, .int .i64 a0_3]) (t := 66) ?_; intro gb655 hg w13 hbox hb; have BK655 := Aside0.mk (hbox); have GW655 := gw w hg; have GE655 := gw w hg; replace HB := bs HB hb; clear hb hbox hg) | ((with_reducible refine gate_dst (N := 3) rfl ?_); refine bE (N := 3) (cs := #[.slice A1_0 l1_0.length c1_0, .int .i64 a1_1, .slice A1_2 l1_2.length c1_2, .int .i64 a1_3]) (t := 66) ?_; intro gb656 hg w14 hbox hb; have BK656 := Aside0.mk (hbox); have GW656 := gw w hg; have GE656 := gw w hg; replace HB := bs HB hb; have NB655_656 := nl BK655 hg; have NB656_655 := nr BK655 hg; replace BK655 := kb BK655 hb; clear hb hbox hg; have hnb15 := NB655_656.out; have hnc15 := NB656_655.out; obtain ⟨_, _, _, _, _, _, _, _⟩ := blkc4 BK655; obtain ⟨_, _, _, _, _, _, _, _⟩ := blkc4 BK656) | (go_at_call 98; (with_reducible refine (slices_Equal_int_int.calls k _ _ l0_0 _ _ l1_0 false _ ?_ ?_ ?_ ?_ A5.out).mono ?_); exact cB HR0_0; exact HC0_0.out; exact cB HR1_0; exact HC1_0.out; rintro e w' ⟨rfl, ⟨nd, rfl⟩⟩))
   go_ret
   exact ⟨rA, bG⟩
  rw [if_neg c4] at H
  have c4b0 : (a0_3 == a1_3) = false := beq_eq_false_iff_ne.mpr c4
  have c4b1 : (a0_3 != a1_3) = true := bne_iff_ne.mpr c4
  obtain rfl := Option.some.inj H
  go_enter Try.func45, Try.ntmps45
  go_wp2_with (first | ((with_reducible refine gate_dst (N := 2) rfl ?_); refine bE (N := 2) (cs := #[.slice A0_0 l0_0.length c0_0, .int .i64 a0_1, .slice A0_2 l0_2.length c0_2, .int .i64 a0_3]) (t := 66) ?_; intro gb655 hg w18 hbox hb; have BK655 := Aside0.mk (hbox); have GW655 := gw w hg; have GE655 := gw w hg; replace HB := bs HB hb; clear hb hbox hg) | ((with_reducible refine gate_dst (N := 3) rfl ?_); refine bE (N := 3) (cs := #[.slice A1_0 l1_0.length c1_0, .int .i64 a1_1, .slice A1_2 l1_2.length c1_2, .int .i64 a1_3]) (t := 66) ?_; intro gb656 hg w19 hbox hb; have BK656 := Aside0.mk (hbox); have GW656 := gw w hg; have GE656 := gw w hg; replace HB := bs HB hb; have NB655_656 := nl BK655 hg; have NB656_655 := nr BK655 hg; replace BK655 := kb BK655 hb; clear hb hbox hg; have hnb20 := NB655_656.out; have hnc20 := NB656_655.out; obtain ⟨_, _, _, _, _, _, _, _⟩ := blkc4 BK655; obtain ⟨_, _, _, _, _, _, _, _⟩ := blkc4 BK656))
  go_ret
  exact ⟨rA, bG⟩
 rw [if_neg c3] at H
 have c3b0 : (a0_1 == a1_1) = false := beq_eq_false_iff_ne.mpr c3
 have c3b1 : (a0_1 != a1_1) = true := bne_iff_ne.mpr c3
 obtain rfl := Option.some.inj H
 go_enter Try.func45, Try.ntmps45
 go_wp2_with (first | ((with_reducible refine gate_dst (N := 2) rfl ?_); refine bE (N := 2) (cs := #[.slice A0_0 l0_0.length c0_0, .int .i64 a0_1, .slice A0_2 l0_2.length c0_2, .int .i64 a0_3]) (t := 66) ?_; intro gb655 hg w23 hbox hb; have BK655 := Aside0.mk (hbox); have GW655 := gw w hg; have GE655 := gw w hg; replace HB := bs HB hb; clear hb hbox hg) | ((with_reducible refine gate_dst (N := 3) rfl ?_); refine bE (N := 3) (cs := #[.slice A1_0 l1_0.length c1_0, .int .i64 a1_1, .slice A1_2 l1_2.length c1_2, .int .i64 a1_3]) (t := 66) ?_; intro gb656 hg w24 hbox hb; have BK656 := Aside0.mk (hbox); have GW656 := gw w hg; have GE656 := gw w hg; replace HB := bs HB hb; have NB655_656 := nl BK655 hg; have NB656_655 := nr BK655 hg; replace BK655 := kb BK655 hb; clear hb hbox hg; have hnb25 := NB655_656.out; have hnc25 := NB656_655.out; obtain ⟨_, _, _, _, _, _, _, _⟩ := blkc4 BK655; obtain ⟨_, _, _, _, _, _, _, _⟩ := blkc4 BK656))
 go_ret
 exact ⟨rA, bG⟩

/-! ### impl_TickControl: function 46 -/
def impl_TickControl.f (k : Nat) (l0 : List (S50)) (l1_0 : List Int) (a1_1 : Int) (l1_2 : List Int) (a1_3 : Int) : Option (List Int × Int × List Int × Int) := (impl_cloneControl.f l1_0 a1_1 l1_2 a1_3).bind fun bt661 => ((impl_IsControl.f k l0 l1_0 a1_1 l1_2 a1_3).bind fun t670 => (if t670 = true then (if (l1_2.length : Int) = 0 then (some (bt661.1, mn (wrap64 (a1_1 + 1)) 1000000, bt661.2.2.1, bt661.2.2.2)) else (if a1_3 > 1 then (some (bt661.1, bt661.2.1, bt661.2.2.1, wrap64 (bt661.2.2.2 - 1))) else ((slices_Clone_int_int.f l1_2).bind fun t671 => (some (t671, 0, ([] : List Int), 0))))) else (some (bt661.1, bt661.2.1, bt661.2.2.1, bt661.2.2.2))))
theorem impl_TickControl.mono : ∀ a0 a1 a2 a3 a4 k, LeO (impl_TickControl.f k a0 a1 a2 a3 a4) (impl_TickControl.f (k + 1) a0 a1 a2 a3 a4) := by
 intro a0 a1 a2 a3 a4 k
 unfold impl_TickControl.f
 exact mz1 impl_IsControl.mono
set_option maxHeartbeats 8000000 in
set_option maxRecDepth 100000 in
theorem impl_TickControl.calls (k : Nat) (A0 : Option Addr) (c0 : Nat) (l0 : List (S50)) (A1_0 : Option Addr) (c1_0 : Nat) (l1_0 : List Int) (a1_1 : Int) (A1_2 : Option Addr) (c1_2 : Nat) (l1_2 : List Int) (a1_3 : Int) (r1 : List Int) (r2 : Int) (r3 : List Int) (r4 : Int) (w : World) (hr0 : Kd.C k50 w A0 l0.length l0) (hc0 : l0.length ≤ c0) (hr1_0 : Kd.C (Kd.int .i64) w A1_0 l1_0.length l1_0) (hc1_0 : l1_0.length ≤ c1_0) (hr1_2 : Kd.C (Kd.int .i64) w A1_2 l1_2.length l1_2) (hc1_2 : l1_2.length ≤ c1_2) (h : impl_TickControl.f k l0 l1_0 a1_1 l1_2 a1_3 = some (r1, r2, r3, r4)) :
  Calls Try.prog 46 #[.slice A0 l0.length c0, .agg #[.slice A1_0 l1_0.length c1_0, .int .i64 a1_1, .slice A1_2 l1_2.length c1_2, .int .i64 a1_3]] w fun e w' => ∃ v0_ v2_ : Value, e = .returned (.agg #[v0_, .int .i64 r2, v2_, .int .i64 r4]) ∧ Kd.R (Kd.int .i64) 3 w' w.heap.size (n1 v2_) v0_ r1 ∧ Kd.R (Kd.int .i64) 3 w' w.heap.size (n1 v0_) v2_ r3 ∧ Below w.heap.size w w' := by
 have hu66 := Try.underlying66
 have HR0 := Aside0.mk hr0
 have HC0 := Aside0.mk hc0
 clear hr0 hc0
 have HR1_0 := Aside0.mk hr1_0
 have HC1_0 := Aside0.mk hc1_0
 clear hr1_0 hc1_0
 have HR1_2 := Aside0.mk hr1_2
 have HC1_2 := Aside0.mk hc1_2
 clear hr1_2 hc1_2
 have HB := Aside0.mk (Below.refl w.heap.size w)
 have H : ((impl_cloneControl.f l1_0 a1_1 l1_2 a1_3).bind fun bt661 => ((impl_IsControl.f k l0 l1_0 a1_1 l1_2 a1_3).bind fun t670 => (if t670 = true then (if (l1_2.length : Int) = 0 then (some (bt661.1, mn (wrap64 (a1_1 + 1)) 1000000, bt661.2.2.1, bt661.2.2.2)) else (if a1_3 > 1 then (some (bt661.1, bt661.2.1, bt661.2.2.1, wrap64 (bt661.2.2.2 - 1))) else ((slices_Clone_int_int.f l1_2).bind fun t671 => (some (t671, 0, ([] : List Int), 0))))) else (some (bt661.1, bt661.2.1, bt661.2.2.1, bt661.2.2.2))))) = some (r1, r2, r3, r4) := h
 clear h
 obtain ⟨⟨t661, t664, t665, t668⟩, A3, H⟩ := bindE H
 try dsimp only at H
 obtain ⟨t670, A4, H⟩ := bindE H
 try dsimp only at H
 by_cases c5 : t670 = true
 ·
  subst c5
  have H1 : (if (l1_2.length : Int) = 0 then (some (t661, mn (wrap64 (a1_1 + 1)) 1000000, t665, t668)) else (if a1_3 > 1 then (some (t661, t664, t665, wrap64 (t668 - 1))) else ((slices_Clone_int_int.f l1_2).bind fun t671 => (some (t671, 0, ([] : List Int), 0))))) = some (r1, r2, r3, r4) := by rw [if_pos rfl] at H; exact H
  clear H
  have H := H1
  clear H1
  by_cases c6 : (l1_2.length : Int) = 0
  ·
   rw [if_pos c6] at H
   have c6b0 : ((l1_2.length : Int) == 0) = true := beq_iff_eq.mpr c6
   have c6b1 : ((l1_2.length : Int) != 0) = false := bne_eq_false_iff_eq.mpr c6
   clear c6
   obtain ⟨ji7, hji7⟩ : ∃ j_ : Int, (mn (wrap64 (a1_1 + 1)) 1000000) = j_ := ⟨_, rfl⟩
   replace H : (some (t661, ji7, t665, t668)) = some (r1, r2, r3, r4) := by first | (rw [hji7] at H; exact H) | (simp only [hji7] at H ⊢; exact H)
   (try rw [hji7] at A3)
   (try rw [hji7] at A4)
   (try (have hji7h : ji7 ≤ 1000000 := by (rw [← hji7]; unfold mn; (repeat' split) <;> omega)))
   (try (have hji7g : ji7 ≤ 64 := by omega))
   have hji7_ : (if 1000000 < (wrap64 (a1_1 + 1)) then 1000000 else (wrap64 (a1_1 + 1))) = ji7 := hji7
   simp only [Option.some.injEq, Prod.mk.injEq] at H
   obtain ⟨rfl, rfl, rfl, rfl⟩ := H
   go_enter Try.func46, Try.ntmps46
   go_wp2_with (first | ((with_reducible refine gate_dst (N := 3) rfl ?_); refine bE (N := 3) (cs := #[.slice A1_0 l1_0.length c1_0, .int .i64 a1_1, .slice A1_2 l1_2.length c1_2, .int .i64 a1_3]) (t := 66) ?_; intro gb659 hg w8 hbox hb; have BK659 := Aside0.mk (hbox); have GW659 := gw w hg; have GE659 := gw w hg; replace HB := bs HB hb; clear hb hbox hg) | ((with_reducible refine gate_dst (N := 4) rfl ?_); refine bE (N := 4) (cs := #[.slice none 0 0, .int .i64 0, .slice none 0 0, .int .i64 0]) (t := 66) ?_; intro gb660 hg w9 hbox hb; have BK660 := Aside0.mk (hbox); have GW660 := gw w hg; have GE660 := gw w hg; replace HB := bs HB hb; have NB659_660 := nl BK659 hg; have NB660_659 := nr BK659 hg; replace BK659 := kb BK659 hb; clear hb hbox hg; have hnb10 := NB659_660.out; have hnc10 := NB660_659.out; obtain ⟨_, _, _, _, _, _, _, _⟩ := blkc4 BK659) | ((with_reducible refine gate_callee (f := 97) rfl ?_); refine gL (some 7) Try.func97 #[.agg #[.slice A1_0 l1_0.length c1_0, .int .i64 a1_1, .slice A1_2 l1_2.length c1_2, .int .i64 a1_3]] ?_; (with_reducible refine (impl_cloneControl.calls _ _ l1_0 a1_1 _ _ l1_2 a1_3 t661 t664 t665 t668 _ ?_ ?_ ?_ ?_ A3.out).mono ?_); exact cB HR1_0; exact HC1_0.out; exact cB HR1_2; exact HC1_2.out; rintro e w12 ⟨v662, v666, rfl, ho0, ho1, hb⟩; refine ⟨_, rfl, ?_⟩; have HO663 := rl w ho0; have HO667 := rl w ho1; replace BK659 := kb BK659 hb; replace BK660 := kb BK660 hb; replace HB := bs HB hb; (try clear hb); (try clear ho0); (try clear ho1)) | ((with_reducible refine gate_dst (N := 5) rfl ?_); refine bE (N := 5) (cs := #[.slice none 0 0, .int .i64 0, .slice none 0 0, .int .i64 0]) (t := 66) ?_; intro gb669 hg w13 hbox hb; replace HO663 := rb HO663 hb; replace HO667 := rb HO667 hb; have BK669 := Aside0.mk (hbox); have GW669 := gw w hg; have GE669 := gw w hg; replace HB := bs HB hb; have NB659_669 := nl BK659 hg; have NB669_659 := nr BK659 hg; replace BK659 := kb BK659 hb; have NB660_669 := nl BK660 hg; have NB669_660 := nr BK660 hg; replace BK660 := kb BK660 hb; clear hb hbox hg; obtain ⟨Ao14, co14, eo14⟩ := Kd.R_slice HO663.out; subst eo14; have hnb15 := NB669_659.out; have hnc15 := NB659_669.out; have hnb16 := NB669_660.out; have hnc16 := NB660_669.out; obtain ⟨_, _, _, _, _, _, _, _⟩ := blkc4 BK669; obtain ⟨Ao18, co18, eo18⟩ := Kd.R_slice HO667.out; subst eo18; obtain ⟨_, _, _, _, _, _, _, _⟩ := blkc4 BK659) | ((with_reducible refine gate_callee (f := 44) rfl ?_); refine gL (some 15) Try.func44 #[.slice A0 l0.length c0, .agg #[.slice A1_0 l1_0.length c1_0, .int .i64 a1_1, .slice A1_2 l1_2.length c1_2, .int .i64 a1_3]] ?_; (with_reducible refine (impl_IsControl.calls k _ _ l0 _ _ l1_0 a1_1 _ _ l1_2 a1_3 true _ ?_ ?_ ?_ ?_ ?_ ?_ A4.out).mono ?_); exact Kd.C_below HR0.out bG; exact HC0.out; exact Kd.C_below HR1_0.out bG; exact HC1_0.out; exact Kd.C_below HR1_2.out bG; exact HC1_2.out; rintro e w20 ⟨rfl, hb⟩; refine ⟨_, rfl, ?_⟩; replace HO663 := Aside0.mk (Kd.R_below (rf HO663 BK669) hb); replace HO667 := Aside0.mk (Kd.R_below (rf HO667 BK669) hb); replace BK659 := kc (kf BK659 NB659_669) hb; replace BK660 := kc (kf BK660 NB660_669) hb; replace BK669 := kc (o := .cells #[.slice Ao14 t661.length co14, .int .i64 t664, .slice Ao18 t665.length co18, .int .i64 t668] 66 (0, 0)) (kp BK669) hb; replace HB := bs HB hb; (try clear hb); obtain ⟨_, _, _, _, _, _, _, _⟩ := blkc4 BK659; obtain ⟨_, _, _, _, _, _, _, _⟩ := blkc4 BK669; obtain ⟨_, _, _, _, _, _, _, _⟩ := blkc4 BK660))
   refine bodyPost_ret (results_cell_row rfl _ _ gb660 66 #[.slice Ao14 t661.length co14, .int .i64 ji7, .slice Ao18 t665.length co18, .int .i64 t668] (0, 0) _ rfl (kP BK660 NB660_669) Try.underlying66 rfl (by kernel_rfl)) rfl ?_
   exact ⟨_, _, by first | rfl | (simp [errW_none, errW_some] <;> rfl) | (simp only [← hji7]; first | rfl | (simp [errW_none, errW_some] <;> rfl)) | (simp [*, errW_none, errW_some] <;> rfl), by (with_reducible repeat (first | apply Kd.R_alloc | apply Kd.R_drewN | apply Kd.R_drew)); exact Kd.R_mono (Kd.R_far (p := ⟨gb660, 3, none⟩) (Kd.R_far (p := ⟨gb660, 2, none⟩) (Kd.R_far (p := ⟨gb660, 1, none⟩) (Kd.R_far (p := ⟨gb660, 0, none⟩) (Kd.R_far (p := ⟨gb669, 1, none⟩) (Kd.R_types (Kd.R_types HO663.out BK669.out (by decide)) BK660.out (by decide)) (fun _ hk => hk.1.2) (.int .i64 ji7)) (fun _ hk => hk.2) (.slice Ao14 t661.length co14)) (fun _ hk => hk.2) (.int .i64 ji7)) (fun _ hk => hk.2) (.slice Ao18 t665.length co18)) (fun _ hk => hk.2) (.int .i64 t668)) (fun _ hk => hk.1.1), by (with_reducible repeat (first | apply Kd.R_alloc | apply Kd.R_drewN | apply Kd.R_drew)); exact Kd.R_mono (Kd.R_far (p := ⟨gb660, 3, none⟩) (Kd.R_far (p := ⟨gb660, 2, none⟩) (Kd.R_far (p := ⟨gb660, 1, none⟩) (Kd.R_far (p := ⟨gb660, 0, none⟩) (Kd.R_far (p := ⟨gb669, 1, none⟩) (Kd.R_types (Kd.R_types HO667.out BK669.out (by decide)) BK660.out (by decide)) (fun _ hk => hk.1.2) (.int .i64 ji7)) (fun _ hk => hk.2) (.slice Ao14 t661.length co14)) (fun _ hk => hk.2) (.int .i64 ji7)) (fun _ hk => hk.2) (.slice Ao18 t665.length co18)) (fun _ hk => hk.2) (.int .i64 t668)) (fun _ hk => hk.1.1), bG⟩
  rw [if_neg c6] at H
  have c6b0 : ((l1_2.length : Int) == 0) = false := beq_eq_false_iff_ne.mpr c6
  have c6b1 : ((l1_2.length : Int) != 0) = true := bne_iff_ne.mpr c6
  have c6b2 : ¬ (l1_2 = []) := fun h_ => c6 (by rw [h_]; rfl)
  by_cases c24 : a1_3 > 1
  ·
   rw [if_pos c24] at H
   have c24b0 := decide_eq_true c24
   clear c24
   simp only [Option.some.injEq, Prod.mk.injEq] at H
   obtain ⟨rfl, rfl, rfl, rfl⟩ := H
   go_enter Try.func46, Try.ntmps46
   go_wp2_with (first | ((with_reducible refine gate_dst (N := 3) rfl ?_); refine bE (N := 3) (cs := #[.slice A1_0 l1_0.length c1_0, .int .i64 a1_1, .slice A1_2 l1_2.length c1_2, .int .i64 a1_3]) (t := 66) ?_; intro gb659 hg w25 hbox hb; have BK659 := Aside0.mk (hbox); have GW659 := gw w hg; have GE659 := gw w hg; replace HB := bs HB hb; clear hb hbox hg) | ((with_reducible refine gate_dst (N := 4) rfl ?_); refine bE (N := 4) (cs := #[.slice none 0 0, .int .i64 0, .slice none 0 0, .int .i64 0]) (t := 66) ?_; intro gb660 hg w26 hbox hb; have BK660 := Aside0.mk (hbox); have GW660 := gw w hg; have GE660 := gw w hg; replace HB := bs HB hb; have NB659_660 := nl BK659 hg; have NB660_659 := nr BK659 hg; replace BK659 := kb BK659 hb; clear hb hbox hg; have hnb27 := NB659_660.out; have hnc27 := NB660_659.out; obtain ⟨_, _, _, _, _, _, _, _⟩ := blkc4 BK659) | ((with_reducible refine gate_callee (f := 97) rfl ?_); refine gL (some 7) Try.func97 #[.agg #[.slice A1_0 l1_0.length c1_0, .int .i64 a1_1, .slice A1_2 l1_2.length c1_2, .int .i64 a1_3]] ?_; (with_reducible refine (impl_cloneControl.calls _ _ l1_0 a1_1 _ _ l1_2 a1_3 t661 t664 t665 t668 _ ?_ ?_ ?_ ?_ A3.out).mono ?_); exact cB HR1_0; exact HC1_0.out; exact cB HR1_2; exact HC1_2.out; rintro e w29 ⟨v662, v666, rfl, ho0, ho1, hb⟩; refine ⟨_, rfl, ?_⟩; have HO663 := rl w ho0; have HO667 := rl w ho1; replace BK659 := kb BK659 hb; replace BK660 := kb BK660 hb; replace HB := bs HB hb; (try clear hb); (try clear ho0); (try clear ho1)) | ((with_reducible refine gate_dst (N := 5) rfl ?_); refine bE (N := 5) (cs := #[.slice none 0 0, .int .i64 0, .slice none 0 0, .int .i64 0]) (t := 66) ?_; intro gb669 hg w30 hbox hb; replace HO663 := rb HO663 hb; replace HO667 := rb HO667 hb; have BK669 := Aside0.mk (hbox); have GW669 := gw w hg; have GE669 := gw w hg; replace HB := bs HB hb; have NB659_669 := nl BK659 hg; have NB669_659 := nr BK659 hg; replace BK659 := kb BK659 hb; have NB660_669 := nl BK660 hg; have NB669_660 := nr BK660 hg; replace BK660 := kb BK660 hb; clear hb hbox hg; obtain ⟨Ao31, co31, eo31⟩ := Kd.R_slice HO663.out; subst eo31; have hnb32 := NB669_659.out; have hnc32 := NB659_669.out; have hnb33 := NB669_660.out; have hnc33 := NB660_669.out; obtain ⟨_, _, _, _, _, _, _, _⟩ := blkc4 BK669; obtain ⟨Ao35, co35, eo35⟩ := Kd.R_slice HO667.out; subst eo35; obtain ⟨_, _, _, _, _, _, _, _⟩ := blkc4 BK659) | ((with_reducible refine gate_callee (f := 44) rfl ?_); refine gL (some 15) Try.func44 #[.slice A0 l0.length c0, .agg #[.slice A1_0 l1_0.length c1_0, .int .i64 a1_1, .slice A1_2 l1_2.length c1_2, .int .i64 a1_3]] ?_; (with_reducible refine (impl_IsControl.calls k _ _ l0 _ _ l1_0 a1_1 _ _ l1_2 a1_3 true _ ?_ ?_ ?_ ?_ ?_ ?_ A4.out).mono ?_); exact Kd.C_below HR0.out bG; exact HC0.out; exact Kd.C_below HR1_0.out bG; exact HC1_0.out; exact Kd.C_below HR1_2.out bG; exact HC1_2.out; rintro e w37 ⟨rfl, hb⟩; refine ⟨_, rfl, ?_⟩; replace HO663 := Aside0.mk (Kd.R_below (rf HO663 BK669) hb); replace HO667 := Aside0.mk (Kd.R_below (rf HO667 BK669) hb); replace BK659 := kc (kf BK659 NB659_669) hb; replace BK660 := kc (kf BK660 NB660_669) hb; replace BK669 := kc (o := .cells #[.slice Ao31 t661.length co31, .int .i64 t664, .slice Ao35 t665.length co35, .int .i64 t668] 66 (0, 0)) (kp BK669) hb; replace HB := bs HB hb; (try clear hb); obtain ⟨_, _, _, _, _, _, _, _⟩ := blkc4 BK659; obtain ⟨_, _, _, _, _, _, _, _⟩ := blkc4 BK669; obtain ⟨_, _, _, _, _, _, _, _⟩ := blkc4 BK660))
   refine bodyPost_ret (results_cell_row rfl _ _ gb660 66 #[.slice Ao31 t661.length co31, .int .i64 t664, .slice Ao35 t665.length co35, .int .i64 (wrap64 (t668 - 1))] (0, 0) _ rfl (kP BK660 NB660_669) Try.underlying66 rfl (by kernel_rfl)) rfl ?_
   exact ⟨_, _, rA, by (with_reducible repeat (first | apply Kd.R_alloc | apply Kd.R_drewN | apply Kd.R_drew)); exact Kd.R_mono (Kd.R_far (p := ⟨gb660, 3, none⟩) (Kd.R_far (p := ⟨gb660, 2, none⟩) (Kd.R_far (p := ⟨gb660, 1, none⟩) (Kd.R_far (p := ⟨gb660, 0, none⟩) (Kd.R_far (p := ⟨gb669, 3, none⟩) (Kd.R_types (Kd.R_types HO663.out BK669.out (by decide)) BK660.out (by decide)) (fun _ hk => hk.1.2) (.int .i64 (wrap64 (t668 - 1)))) (fun _ hk => hk.2) (.slice Ao31 t661.length co31)) (fun _ hk => hk.2) (.int .i64 t664)) (fun _ hk => hk.2) (.slice Ao35 t665.length co35)) (fun _ hk => hk.2) (.int .i64 (wrap64 (t668 - 1)))) (fun _ hk => hk.1.1), by (with_reducible repeat (first | apply Kd.R_alloc | apply Kd.R_drewN | apply Kd.R_drew)); exact Kd.R_mono (Kd.R_far (p := ⟨gb660, 3, none⟩) (Kd.R_far (p := ⟨gb660, 2, none⟩) (Kd.R_far (p := ⟨gb660, 1, none⟩) (Kd.R_far (p := ⟨gb660, 0, none⟩) (Kd.R_far (p := ⟨gb669, 3, none⟩) (Kd.R_types (Kd.R_types HO667.out BK669.out (by decide)) BK660.out (by decide)) (fun _ hk => hk.1.2) (.int .i64 (wrap64 (t668 - 1)))) (fun _ hk => hk.2) (.slice Ao31 t661.length co31)) (fun _ hk => hk.2) (.int .i64 t664)) (fun _ hk => hk.2) (.slice Ao35 t665.length co35)) (fun _ hk => hk.2) (.int .i64 (wrap64 (t668 - 1)))) (fun _ hk => hk.1.1), bG⟩
  rw [if_neg c24] at H
  have c24b0 := decide_eq_false c24
  clear c24
  obtain ⟨t671, A41, H⟩ := bindE H
  try dsimp only at H
  simp only [Option.some.injEq, Prod.mk.injEq] at H
  obtain ⟨rfl, rfl, rfl, rfl⟩ := H
  go_enter Try.func46, Try.ntmps46
  go_wp2_with (first | ((with_reducible refine gate_dst (N := 3) rfl ?_); refine bE (N := 3) (cs := #[.slice A1_0 l1_0.length c1_0, .int .i64 a1_1, .slice A1_2 l1_2.length c1_2, .int .i64 a1_3]) (t := 66) ?_; intro gb659 hg w42 hbox hb; have BK659 := Aside0.mk (hbox); have GW659 := gw w hg; have GE659 := gw w hg; replace HB := bs HB hb; clear hb hbox hg) | ((with_reducible refine gate_dst (N := 4) rfl ?_); refine bE (N := 4) (cs := #[.slice none 0 0, .int .i64 0, .slice none 0 0, .int .i64 0]) (t := 66) ?_; intro gb660 hg w43 hbox hb; have BK660 := Aside0.mk (hbox); have GW660 := gw w hg; have GE660 := gw w hg; replace HB := bs HB hb; have NB659_660 := nl BK659 hg; have NB660_659 := nr BK659 hg; replace BK659 := kb BK659 hb; clear hb hbox hg; have hnb44 := NB659_660.out; have hnc44 := NB660_659.out; obtain ⟨_, _, _, _, _, _, _, _⟩ := blkc4 BK659) | ((with_reducible refine gate_callee (f := 97) rfl ?_); refine gL (some 7) Try.func97 #[.agg #[.slice A1_0 l1_0.length c1_0, .int .i64 a1_1, .slice A1_2 l1_2.length c1_2, .int .i64 a1_3]] ?_; (with_reducible refine (impl_cloneControl.calls _ _ l1_0 a1_1 _ _ l1_2 a1_3 t661 t664 t665 t668 _ ?_ ?_ ?_ ?_ A3.out).mono ?_); exact cB HR1_0; exact HC1_0.out; exact cB HR1_2; exact HC1_2.out; rintro e w46 ⟨v662, v666, rfl, ho0, ho1, hb⟩; refine ⟨_, rfl, ?_⟩; have HO663 := rl w ho0; have HO667 := rl w ho1; replace BK659 := kb BK659 hb; replace BK660 := kb BK660 hb; replace HB := bs HB hb; (try clear hb); (try clear ho0); (try clear ho1)) | ((with_reducible refine gate_dst (N := 5) rfl ?_); refine bE (N := 5) (cs := #[.slice none 0 0, .int .i64 0, .slice none 0 0, .int .i64 0]) (t := 66) ?_; intro gb669 hg w47 hbox hb; replace HO663 := rb HO663 hb; replace HO667 := rb HO667 hb; have BK669 := Aside0.mk (hbox); have GW669 := gw w hg; have GE669 := gw w hg; replace HB := bs HB hb; have NB659_669 := nl BK659 hg; have NB669_659 := nr BK659 hg; replace BK659 := kb BK659 hb; have NB660_669 := nl BK660 hg; have NB669_660 := nr BK660 hg; replace BK660 := kb BK660 hb; clear hb hbox hg; obtain ⟨Ao48, co48, eo48⟩ := Kd.R_slice HO663.out; subst eo48; have hnb49 := NB669_659.out; have hnc49 := NB659_669.out; have hnb50 := NB669_660.out; have hnc50 := NB660_669.out; obtain ⟨_, _, _, _, _, _, _, _⟩ := blkc4 BK669; obtain ⟨Ao52, co52, eo52⟩ := Kd.R_slice HO667.out; subst eo52; obtain ⟨_, _, _, _, _, _, _, _⟩ := blkc4 BK659) | ((with_reducible refine gate_callee (f := 44) rfl ?_); refine gL (some 15) Try.func44 #[.slice A0 l0.length c0, .agg #[.slice A1_0 l1_0.length c1_0, .int .i64 a1_1, .slice A1_2 l1_2.length c1_2, .int .i64 a1_3]] ?_; (with_reducible refine (impl_IsControl.calls k _ _ l0 _ _ l1_0 a1_1 _ _ l1_2 a1_3 true _ ?_ ?_ ?_ ?_ ?_ ?_ A4.out).mono ?_); exact Kd.C_below HR0.out bG; exact HC0.out; exact Kd.C_below HR1_0.out bG; exact HC1_0.out; exact Kd.C_below HR1_2.out bG; exact HC1_2.out; rintro e w54 ⟨rfl, hb⟩; refine ⟨_, rfl, ?_⟩; replace HO663 := Aside0.mk (Kd.R_below (rf HO663 BK669) hb); replace HO667 := Aside0.mk (Kd.R_below (rf HO667 BK669) hb); replace BK659 := kc (kf BK659 NB659_669) hb; replace BK660 := kc (kf BK660 NB660_669) hb; replace BK669 := kc (o := .cells #[.slice Ao48 t661.length co48, .int .i64 t664, .slice Ao52 t665.length co52, .int .i64 t668] 66 (0, 0)) (kp BK669) hb; replace HB := bs HB hb; (try clear hb); obtain ⟨_, _, _, _, _, _, _, _⟩ := blkc4 BK659) | ((with_reducible refine gate_callee (f := 100) rfl ?_); refine gL (some 10) Try.func100 #[.slice A1_2 l1_2.length c1_2] ?_; (with_reducible refine (slices_Clone_int_int.calls _ _ l1_2 t671 _ ?_ ?_ A41.out).mono ?_); exact cB HR1_2; exact HC1_2.out; rintro e w56 ⟨v672, rfl, ho0, hb⟩; refine ⟨_, rfl, ?_⟩; have HO673 := rl w (rn (rn ho0 HO663) HO667); replace HO663 := re HO663 ho0 hb; replace HO667 := re HO667 ho0 hb; replace BK659 := kb BK659 hb; replace BK660 := kb BK660 hb; replace BK669 := kb BK669 hb; replace HB := bs HB hb; (try clear hb); (try clear ho0); obtain ⟨Ao57, co57, eo57⟩ := Kd.R_slice HO673.out; subst eo57; obtain ⟨_, _, _, _, _, _, _, _⟩ := blkc4 BK660))
  refine bodyPost_ret (results_cell_row rfl _ _ gb660 66 #[.slice Ao57 t671.length co57, .int .i64 0, .slice none 0 0, .int .i64 0] (0, 0) _ rfl (kp BK660) Try.underlying66 rfl (by kernel_rfl)) rfl ?_
  exact ⟨_, _, rA, Kd.R_mono (rf HO673 BK660) (fun _ hk => (by simp [Value.ownBlock])), by first | exact Kd.R_nil _ _ _ _ _ | exact Kd.N_nil _ _ _ _ _ | exact Kd.V_nil _ _ _ _ _ | exact Kd.Q_nil _ _ _ _ _ | exact Kd.S_nil _ _ _ _ _, bG⟩
 replace c5 := Bool.eq_false_iff.mpr c5
 subst c5
 have H1 : (some (t661, t664, t665, t668)) = some (r1, r2, r3, r4) := by rw [if_neg (show ¬ (false = true) by decide)] at H; exact H
 clear H
 have H := H1
 clear H1
 simp only [Option.some.injEq, Prod.mk.injEq] at H
 obtain ⟨rfl, rfl, rfl, rfl⟩ := H
 go_enter Try.func46, Try.ntmps46
 go_wp2_with (first | ((with_reducible refine gate_dst (N := 3) rfl ?_); refine bE (N := 3) (cs := #[.slice A1_0 l1_0.length c1_0, .int .i64 a1_1, .slice A1_2 l1_2.length c1_2, .int .i64 a1_3]) (t := 66) ?_; intro gb659 hg w59 hbox hb; have BK659 := Aside0.mk (hbox); have GW659 := gw w hg; have GE659 := gw w hg; replace HB := bs HB hb; clear hb hbox hg) | ((with_reducible refine gate_dst (N := 4) rfl ?_); refine bE (N := 4) (cs := #[.slice none 0 0, .int .i64 0, .slice none 0 0, .int .i64 0]) (t := 66) ?_; intro gb660 hg w60 hbox hb; have BK660 := Aside0.mk (hbox); have GW660 := gw w hg; have GE660 := gw w hg; replace HB := bs HB hb; have NB659_660 := nl BK659 hg; have NB660_659 := nr BK659 hg; replace BK659 := kb BK659 hb; clear hb hbox hg; have hnb61 := NB659_660.out; have hnc61 := NB660_659.out; obtain ⟨_, _, _, _, _, _, _, _⟩ := blkc4 BK659) | ((with_reducible refine gate_callee (f := 97) rfl ?_); refine gL (some 7) Try.func97 #[.agg #[.slice A1_0 l1_0.length c1_0, .int .i64 a1_1, .slice A1_2 l1_2.length c1_2, .int .i64 a1_3]] ?_; (with_reducible refine (impl_cloneControl.calls _ _ l1_0 a1_1 _ _ l1_2 a1_3 t661 t664 t665 t668 _ ?_ ?_ ?_ ?_ A3.out).mono ?_); exact cB HR1_0; exact HC1_0.out; exact cB HR1_2; exact HC1_2.out; rintro e w63 ⟨v662, v666, rfl, ho0, ho1, hb⟩; refine ⟨_, rfl, ?_⟩; have HO663 := rl w ho0; have HO667 := rl w ho1; replace BK659 := kb BK659 hb; replace BK660 := kb BK660 hb; replace HB := bs HB hb; (try clear hb); (try clear ho0); (try clear ho1)) | ((with_reducible refine gate_dst (N := 5) rfl ?_); refine bE (N := 5) (cs := #[.slice none 0 0, .int .i64 0, .slice none 0 0, .int .i64 0]) (t := 66) ?_; intro gb669 hg w64 hbox hb; replace HO663 := rb HO663 hb; replace HO667 := rb HO667 hb; have BK669 := Aside0.mk (hbox); have GW669 := gw w hg; have GE669 := gw w hg; replace HB := bs HB hb; have NB659_669 := nl BK659 hg; have NB669_659 := nr BK659 hg; replace BK659 := kb BK659 hb; have NB660_669 := nl BK660 hg; have NB669_660 := nr BK660 hg; replace BK660 := kb BK660 hb; clear hb hbox hg; obtain ⟨Ao65, co65, eo65⟩ := Kd.R_slice HO663.out; subst eo65; have hnb66 := NB669_659.out; have hnc66 := NB659_669.out; have hnb67 := NB669_660.out; have hnc67 := NB660_669.out; obtain ⟨_, _, _, _, _, _, _, _⟩ := blkc4 BK669; obtain ⟨Ao69, co69, eo69⟩ := Kd.R_slice HO667.out; subst eo69; obtain ⟨_, _, _, _, _, _, _, _⟩ := blkc4 BK659) | ((with_reducible refine gate_callee (f := 44) rfl ?_); refine gL (some 15) Try.func44 #[.slice A0 l0.length c0, .agg #[.slice A1_0 l1_0.length c1_0, .int .i64 a1_1, .slice A1_2 l1_2.length c1_2, .int .i64 a1_3]] ?_; (with_reducible refine (impl_IsControl.calls k _ _ l0 _ _ l1_0 a1_1 _ _ l1_2 a1_3 false _ ?_ ?_ ?_ ?_ ?_ ?_ A4.out).mono ?_); exact Kd.C_below HR0.out bG; exact HC0.out; exact Kd.C_below HR1_0.out bG; exact HC1_0.out; exact Kd.C_below HR1_2.out bG; exact HC1_2.out; rintro e w71 ⟨rfl, hb⟩; refine ⟨_, rfl, ?_⟩; replace HO663 := Aside0.mk (Kd.R_below (rf HO663 BK669) hb); replace HO667 := Aside0.mk (Kd.R_below (rf HO667 BK669) hb); replace BK659 := kc (kf BK659 NB659_669) hb; replace BK660 := kc (kf BK660 NB660_669) hb; replace BK669 := kc (o := .cells #[.slice Ao65 t661.length co65, .int .i64 t664, .slice Ao69 t665.length co69, .int .i64 t668] 66 (0, 0)) (kp BK669) hb; replace HB := bs HB hb; (try clear hb); obtain ⟨_, _, _, _, _, _, _, _⟩ := blkc4 BK669; obtain ⟨_, _, _, _, _, _, _, _⟩ := blkc4 BK660))
 refine bodyPost_ret (results_cell_row rfl _ _ gb660 66 #[.slice Ao65 t661.length co65, .int .i64 t664, .slice Ao69 t665.length co69, .int .i64 t668] (0, 0) _ rfl (kp BK660) Try.underlying66 rfl (by kernel_rfl)) rfl ?_
 exact ⟨_, _, rA, rf HO663 BK660, rf HO667 BK660, bG⟩

/-! ### laws_sameInts: function 47 -/
def laws_sameInts.l0 : Nat → List Int → List Int → Int → Option (Bool)
 | 0, _, _, _ => none
 | k + 1, x0, x1, x5 => if x5 < (x0.length : Int) then (if 0 ≤ x5 then (if x5 < (x1.length : Int) then (if (rd x0 x5) = (rd x1 x5) then (laws_sameInts.l0 k x0 x1 (wrap64 (x5 + 1))) else (some false)) else (none)) else (none)) else (some true)
def laws_sameInts.f (k : Nat) (l0 : List Int) (l1 : List Int) : Option (Bool) := if (l0.length : Int) = (l1.length : Int) then (laws_sameInts.l0 k l0 l1 0) else (some false)
theorem laws_sameInts.mono_l : ∀ k, (∀ y0 y1 y2, LeO (laws_sameInts.l0 k y0 y1 y2) (laws_sameInts.l0 (k + 1) y0 y1 y2))
 | 0 => fun _ _ _ r h => by simp [laws_sameInts.l0] at h
 | k + 1 => by
  have ih0 := laws_sameInts.mono_l k
  ·
   intro y0 y1 y2
   unfold laws_sameInts.l0
   exact mz1 ih0
theorem laws_sameInts.mono : ∀ a0 a1 k, LeO (laws_sameInts.f k a0 a1) (laws_sameInts.f (k + 1) a0 a1) := by
 intro a0 a1 k
 have ih0 := laws_sameInts.mono_l k
 unfold laws_sameInts.f
 exact mz1 ih0
set_option maxHeartbeats 8000000 in
set_option maxRecDepth 100000 in
theorem laws_sameInts.calls (k : Nat) (A0 : Option Addr) (c0 : Nat) (l0 : List Int) (A1 : Option Addr) (c1 : Nat) (l1 : List Int) (r : Bool) (w : World) (hr0 : Kd.C (Kd.int .i64) w A0 l0.length l0) (hc0 : l0.length ≤ c0) (hr1 : Kd.C (Kd.int .i64) w A1 l1.length l1) (hc1 : l1.length ≤ c1) (h : laws_sameInts.f k l0 l1 = some r) :
  Calls Try.prog 47 #[.slice A0 l0.length c0, .slice A1 l1.length c1] w fun e w' => e = .returned (.bool r) ∧ Drawn0 w w' := by
 have HR0 := Aside0.mk hr0
 have HC0 := Aside0.mk hc0
 clear hr0 hc0
 have HR1 := Aside0.mk hr1
 have HC1 := Aside0.mk hc1
 clear hr1 hc1
 have H : (if (l0.length : Int) = (l1.length : Int) then (laws_sameInts.l0 k l0 l1 0) else (some false)) = some r := h
 clear h
 by_cases c3 : (l0.length : Int) = (l1.length : Int)
 ·
  rw [if_pos c3] at H
  have c3b0 : ((l0.length : Int) == (l1.length : Int)) = true := beq_iff_eq.mpr c3
  have c3b1 : ((l0.length : Int) != (l1.length : Int)) = false := bne_eq_false_iff_eq.mpr c3
  have c3b2 : (l0.length == l1.length) = true := by first | simpa using c3 | (simp at c3 ⊢; omega)
  clear c3
  have H' := Aside0.mk H
  clear H
  go_enter Try.func47, Try.ntmps47
  go_wp2
  repeat (go_quiet (fail); try go_wp2)
  go_loopg [5] k (fun kq v5 w' => ∃ (x5_1 : Int), v5 = .int .i64 x5_1 ∧ Aside0 (laws_sameInts.l0 kq l0 l1 x5_1 = some r) ∧ Aside0 (kq ≤ k) ∧ Drawn0 w w')
  case atStart => exact ⟨(0), rS, H', ⟨Nat.le_refl _⟩, by repeat (first | exact Drawn0.refl _ | apply Drawn0.step)⟩
  case round =>
   clear H'
   obtain ⟨x5_1, rfl, HA, HK1, ⟨m1, rfl⟩⟩ := hrel
   cases gk with
   | zero => exact absurd HA.out (by simp [laws_sameInts.l0])
   | succ k1 =>
    have H := HA.out
    clear HA
    simp only [laws_sameInts.l0] at H
    by_cases c4 : x5_1 < (l0.length : Int)
    ·
     rw [if_pos c4] at H
     have c4b0 := decide_eq_true c4
     clear c4
     have c5 : 0 ≤ x5_1 := ifN H
     replace H := ifT H
     have c5b0 := decide_eq_true c5
     clear c5
     have c6 : x5_1 < (l1.length : Int) := ifN H
     replace H := ifT H
     have c6b0 := decide_eq_true c6
     clear c6
     by_cases c7 : (rd l0 x5_1) = (rd l1 x5_1)
     ·
      rw [if_pos c7] at H
      have c7b0 : ((rd l0 x5_1) == (rd l1 x5_1)) = true := beq_iff_eq.mpr c7
      have c7b1 : ((rd l0 x5_1) != (rd l1 x5_1)) = false := bne_eq_false_iff_eq.mpr c7
      clear c7
      have H' := Aside0.mk H
      clear H
      obtain ⟨p674, q674⟩ : 0 ≤ (x5_1 : Int) ∧ x5_1 < (l0.length : Int) := ⟨dA, dA⟩
      obtain ⟨ad674, e674, hx674_0⟩ := Kd.at_int HR0.out x5_1 p674 q674
      cases e674
      obtain ⟨p674, q674⟩ := eT p674 q674
      obtain ⟨p675, q675⟩ : 0 ≤ (x5_1 : Int) ∧ x5_1 < (l1.length : Int) := ⟨dA, dA⟩
      obtain ⟨ad675, e675, hx675_0⟩ := Kd.at_int HR1.out x5_1 p675 q675
      cases e675
      obtain ⟨p675, q675⟩ := eT p675 q675
      go_wp2
      repeat (go_quiet (fail); try go_wp2)
      go_roundg k1
      case measure => have := HK1.out; omega
      case rel => exact ⟨(wrap64 (x5_1 + 1)), rS, H', ⟨by have := HK1.out; omega⟩, by repeat (first | exact Drawn0.refl _ | apply Drawn0.step)⟩
     rw [if_neg c7] at H
     have c7b0 : ((rd l0 x5_1) == (rd l1 x5_1)) = false := beq_eq_false_iff_ne.mpr c7
     have c7b1 : ((rd l0 x5_1) != (rd l1 x5_1)) = true := bne_iff_ne.mpr c7
     obtain rfl := Option.some.inj H
     obtain ⟨p674, q674⟩ : 0 ≤ (x5_1 : Int) ∧ x5_1 < (l0.length : Int) := ⟨dA, dA⟩
     obtain ⟨ad674, e674, hx674_0⟩ := Kd.at_int HR0.out x5_1 p674 q674
     cases e674
     obtain ⟨p674, q674⟩ := eT p674 q674
     obtain ⟨p675, q675⟩ : 0 ≤ (x5_1 : Int) ∧ x5_1 < (l1.length : Int) := ⟨dA, dA⟩
     obtain ⟨ad675, e675, hx675_0⟩ := Kd.at_int HR1.out x5_1 p675 q675
     cases e675
     obtain ⟨p675, q675⟩ := eT p675 q675
     go_wp2
     repeat (go_quiet (fail); try go_wp2)
     go_ret
     exact ⟨rS, dD⟩
    rw [if_neg c4] at H
    have c4b0 := decide_eq_false c4
    clear c4
    obtain rfl := Option.some.inj H
    go_wp2
    repeat (go_quiet (fail); try go_wp2)
    go_ret
    exact ⟨rS, dD⟩
 rw [if_neg c3] at H
 have c3b0 : ((l0.length : Int) == (l1.length : Int)) = false := beq_eq_false_iff_ne.mpr c3
 have c3b1 : ((l0.length : Int) != (l1.length : Int)) = true := bne_iff_ne.mpr c3
 have c3b2 : (l0.length == l1.length) = false := by first | simpa using c3 | (simp at c3 ⊢; omega)
 obtain rfl := Option.some.inj H
 go_enter Try.func47, Try.ntmps47
 go_wp2
 repeat (go_quiet (fail); try go_wp2)
 go_ret
 exact ⟨rS, dD⟩

/-! ### spec_DrawTickControl: function 48 -/
def spec_DrawTickControl.f (k : Nat) (l0 : List Int) : Option ((List (S50)) × List Int × Int × List Int × Int) := (spec_DrawIsControl.f k l0).bind fun bt677 => (some (bt677.1, bt677.2.1, bt677.2.2.1, bt677.2.2.2.1, bt677.2.2.2.2))
theorem spec_DrawTickControl.mono : ∀ a0 k, LeO (spec_DrawTickControl.f k a0) (spec_DrawTickControl.f (k + 1) a0) := by
 intro a0 k
 unfold spec_DrawTickControl.f
 exact mz1 spec_DrawIsControl.mono
set_option maxHeartbeats 8000000 in
set_option maxRecDepth 100000 in
theorem spec_DrawTickControl.calls (k : Nat) (A0 : Option Addr) (c0 : Nat) (l0 : List Int) (r1 : List (S50)) (r2 : List Int) (r3 : Int) (r4 : List Int) (r5 : Int) (w : World) (hr0 : Kd.C (Kd.int .u8) w A0 l0.length l0) (hc0 : l0.length ≤ c0) (h : spec_DrawTickControl.f k l0 = some (r1, r2, r3, r4, r5)) :
  Calls Try.prog 48 #[.slice A0 l0.length c0] w fun e w' => ∃ v0_ v1_ v3_ : Value, e = .returned (.tuple #[v0_, .agg #[v1_, .int .i64 r3, v3_, .int .i64 r5]]) ∧ Kd.R k50 50 w' w.heap.size (fun _ => True) v0_ r1 ∧ Kd.R (Kd.int .i64) 3 w' w.heap.size (n1 v3_) v1_ r2 ∧ Kd.R (Kd.int .i64) 3 w' w.heap.size (n1 v1_) v3_ r4 ∧ Below w.heap.size w w' := by
 have hu66 := Try.underlying66
 have HR0 := Aside0.mk hr0
 have HC0 := Aside0.mk hc0
 clear hr0 hc0
 have HB := Aside0.mk (Below.refl w.heap.size w)
 have H : ((spec_DrawIsControl.f k l0).bind fun bt677 => (some (bt677.1, bt677.2.1, bt677.2.2.1, bt677.2.2.2.1, bt677.2.2.2.2))) = some (r1, r2, r3, r4, r5) := h
 clear h
 obtain ⟨⟨t677, t680, t683, t684, t687⟩, A2, H⟩ := bindE H
 try dsimp only at H
 simp only [Option.some.injEq, Prod.mk.injEq] at H
 obtain ⟨rfl, rfl, rfl, rfl, rfl⟩ := H
 go_enter Try.func48, Try.ntmps48
 go_wp2_with (first | ((with_reducible refine gate_dst (N := 3) rfl ?_); refine bE (N := 3) (cs := #[.slice none 0 0, .int .i64 0, .slice none 0 0, .int .i64 0]) (t := 66) ?_; intro gb676 hg w3 hbox hb; have BK676 := Aside0.mk (hbox); have GW676 := gw w hg; have GE676 := gw w hg; replace HB := bs HB hb; clear hb hbox hg) | ((with_reducible refine gate_callee (f := 95) rfl ?_); refine gL (some 5) Try.func95 #[.slice A0 l0.length c0] ?_; (with_reducible refine (spec_DrawIsControl.calls k _ _ l0 t677 t680 t683 t684 t687 _ ?_ ?_ A2.out).mono ?_); exact cB HR0; exact HC0.out; rintro e w4 ⟨v678, v681, v685, rfl, ho0, ho1, ho2, hb⟩; refine ⟨_, rfl, ?_⟩; have HO679 := rl w ho0; have HO682 := rl w ho1; have HO686 := rl w ho2; replace BK676 := kb BK676 hb; replace HB := bs HB hb; (try clear hb); (try clear ho0); (try clear ho1); (try clear ho2); obtain ⟨Ao5, co5, eo5⟩ := Kd.R_slice HO682.out; subst eo5; obtain ⟨_, _, _, _, _, _, _, _⟩ := blkc4 BK676; obtain ⟨Ao7, co7, eo7⟩ := Kd.R_slice HO686.out; subst eo7))
 refine bodyPost_ret (results_tc rfl _ _ gb676 66 #[.slice Ao5 t680.length co5, .int .i64 t683, .slice Ao7 t684.length co7, .int .i64 t687] (0, 0) _ rfl (kp BK676) Try.underlying66 rfl (by kernel_rfl)) rfl ?_
 exact ⟨_, _, _, rA, Kd.R_mono (rf HO679 BK676) (fun _ hk => trivial), rf HO682 BK676, rf HO686 BK676, bG⟩

end Go.Proofs.Ytjgonpcajedkjaa.P
