/- Printed by myprint.py (wip/tools) over the kit's print: what Go's functions compute, and that they do. Lean checks it. -/
import Derived.Test.YtjgonpcajedkjaaF0
import Derived.Test.YtjgonpcajedkjaaFX00
import Derived.Test.YtjgonpcajedkjaaFX00b
import Derived.Test.YtjgonpcajedkjaaFX00c
import Derived.Test.YtjgonpcajedkjaaShelf
namespace Go.Proofs.Ytjgonpcajedkjaa.P
open Go.RowKit Go.Proofs.YtjgonpcajedkjaaW.PrintWords Go.Proofs.YtjgonpcajedkjaaW.PrintLast Go.Proofs.YtjgonpcajedkjaaW.PrintMore Go.Proofs.Ytjgonpcajedkjaa.Sq
attribute [local go_sem] max2_int min2_int max_two min_two max_three min_three max_four min_four
set_option linter.unusedVariables false
set_option linter.unusedSimpArgs false

/-! ### impl_shown: function 76 -/
mutual
def impl_shown.j0 : Nat → List (S85) → Int → Int → Bool → Int → Int → Int → Int → Option (Int)
 | 0, _, _, _, _, _, _, _, _ => none
 | k + 1, x1, x9, x10, x30, x569000, x569001, x569002, x569003 => if x30 = true then (some 0) else (if 0 ≤ x9 then (if x9 < (x1.length : Int) then (if x10 < ((rd_T85 x1 x9).f1) then (impl_shown.j1 k x1 x9 x10 true x569000 x569001 x569002 x569003) else ((impl_nextStage.f x1 x9).bind fun t574 => ((slices_Contains_int_int.f k t574 x569000).bind fun t577 => (impl_shown.j1 k x1 x9 x10 t577 x569000 x569001 x569002 x569003)))) else (none)) else (none))
def impl_shown.j1 : Nat → List (S85) → Int → Int → Bool → Int → Int → Int → Int → Option (Int)
 | 0, _, _, _, _, _, _, _, _ => none
 | k + 1, x1, x9, x10, x31, x569000, x569001, x569002, x569003 => if x31 = true then (some 1) else (if 0 ≤ x9 then (if x9 < (x1.length : Int) then ((impl_ClearOf.f x569000 x569001 x569002 x569003).bind fun t579 => (if x10 < (wrap64 (((rd_T85 x1 x9).f1) + t579)) then (some 2) else (some 0))) else (none)) else (none))
end
def impl_shown.f (k : Nat) (l0 : List (S50)) (l1 : List (S85)) (a2 : Int) (a3_0 : Int) (a3_1 : Int) (a3_2 : Int) (a3_3 : Int) : Option (Int) := (impl_PartAt.f k l0 l1 a2).bind fun bt569 => (if bt569.1 < 0 then (impl_shown.j0 k l1 bt569.1 bt569.2 true a3_0 a3_1 a3_2 a3_3) else (if 0 ≤ bt569.1 then (if bt569.1 < (l1.length : Int) then ((slices_Contains_int_int.f k ((rd_T85 l1 bt569.1).f0) a3_0).bind fun t572 => (impl_shown.j0 k l1 bt569.1 bt569.2 (!t572) a3_0 a3_1 a3_2 a3_3)) else (none)) else (none)))
theorem impl_shown.mono_l : ∀ k, (∀ y0 y1 y2 y3 y4 y5 y6 y7, LeO (impl_shown.j0 k y0 y1 y2 y3 y4 y5 y6 y7) (impl_shown.j0 (k + 1) y0 y1 y2 y3 y4 y5 y6 y7)) ∧ (∀ y0 y1 y2 y3 y4 y5 y6 y7, LeO (impl_shown.j1 k y0 y1 y2 y3 y4 y5 y6 y7) (impl_shown.j1 (k + 1) y0 y1 y2 y3 y4 y5 y6 y7))
 | 0 => ⟨fun _ _ _ _ _ _ _ _ r h => by simp [impl_shown.j0] at h, fun _ _ _ _ _ _ _ _ r h => by simp [impl_shown.j1] at h⟩
 | k + 1 => by
  obtain ⟨ih0, ih1⟩ := impl_shown.mono_l k
  refine ⟨?_, ?_⟩
  ·
   intro y0 y1 y2 y3 y4 y5 y6 y7
   unfold impl_shown.j0
   exact mz4 ih0 ih1 impl_PartAt.mono slices_Contains_int_int.mono
  ·
   intro y0 y1 y2 y3 y4 y5 y6 y7
   unfold impl_shown.j1
   exact mz4 ih0 ih1 impl_PartAt.mono slices_Contains_int_int.mono
theorem impl_shown.mono : ∀ a0 a1 a2 a3 a4 a5 a6 k, LeO (impl_shown.f k a0 a1 a2 a3 a4 a5 a6) (impl_shown.f (k + 1) a0 a1 a2 a3 a4 a5 a6) := by
 intro a0 a1 a2 a3 a4 a5 a6 k
 obtain ⟨ih0, ih1⟩ := impl_shown.mono_l k
 unfold impl_shown.f
 exact mz4 ih0 ih1 impl_PartAt.mono slices_Contains_int_int.mono
def impl_shown.T2 : Bool × List (List Nat × List Nat) := (true, [([], []), ([0], [0]), ([1], [1]), ([2], [2]), ([2], [2]), ([3, 4, 2], [2, 3, 4]), ([5, 2], [2, 5]), ([6, 2], [2, 6]), ([2], [2]), ([8, 2], [2, 8]), ([7, 9, 2, 2], [2, 7, 9]), ([10, 2], [2, 10]), ([2, 11], [2, 11])])
def impl_shown.B2 : List Nat := [0, 1, 3, 7, 7, 31, 63, 127, 7, 263, 1023, 2047, 4095]
theorem impl_shown.tab2 : rtab .any (opsOf Try.f76 2) = impl_shown.T2 := by kernel_rfl
theorem impl_shown.bits2 : waitsOk impl_shown.T2.2 impl_shown.B2 = true := by kernel_rfl
def impl_shown.T4 : Bool × List (List Nat × List Nat) := (true, [([], []), ([], []), ([], []), ([1, 2], [1, 2]), ([3], [3]), ([4], [4]), ([0, 5], [0, 5]), ([6], [6]), ([7], [7]), ([7], [7]), ([8, 9, 7, 7], [7, 8, 9]), ([7], [7]), ([11, 7], [7, 11]), ([10, 12, 10, 7], [7, 10, 12]), ([7, 13], [7, 13]), ([14, 13], [14])])
def impl_shown.B4 : List Nat := [0, 0, 0, 6, 14, 30, 63, 127, 255, 255, 1023, 255, 2303, 8191, 16383, 32767]
theorem impl_shown.tab4 : rtab .any (opsOf Try.f76 4) = impl_shown.T4 := by kernel_rfl
theorem impl_shown.bits4 : waitsOk impl_shown.T4.2 impl_shown.B4 = true := by kernel_rfl
def impl_shown.T6 : Bool × List (List Nat × List Nat) := (true, [([], []), ([], []), ([], []), ([1, 2], [1, 2]), ([3], [3]), ([4], [4]), ([], []), ([6], [6]), ([5, 7], [5, 7]), ([0, 8], [0, 8]), ([9, 7], [9])])
def impl_shown.B6 : List Nat := [0, 0, 0, 6, 14, 30, 0, 64, 254, 511, 1023]
theorem impl_shown.tab6 : rtab .any (opsOf Try.f76 6) = impl_shown.T6 := by kernel_rfl
theorem impl_shown.bits6 : waitsOk impl_shown.T6.2 impl_shown.B6 = true := by kernel_rfl
set_option maxHeartbeats 8000000 in
set_option maxRecDepth 100000 in
theorem impl_shown.calls (k : Nat) (A0 : Option Addr) (c0 : Nat) (l0 : List (S50)) (A1 : Option Addr) (c1 : Nat) (l1 : List (S85)) (a2 : Int) (a3_0 : Int) (a3_1 : Int) (a3_2 : Int) (a3_3 : Int) (r : Int) (w : World) (hr0 : Kd.C k50 w A0 l0.length l0) (hc0 : l0.length ≤ c0) (hr1 : Kd.C k85 w A1 l1.length l1) (hc1 : l1.length ≤ c1) (h : impl_shown.f k l0 l1 a2 a3_0 a3_1 a3_2 a3_3 = some r) :
  Calls Try.prog 76 #[.slice A0 l0.length c0, .slice A1 l1.length c1, .int .i64 a2, .agg #[.int .i64 a3_0, .int .i64 a3_1, .int .i64 a3_2, .int .i64 a3_3]] w fun e w' => e = .returned (.int .i64 r) ∧ Below w.heap.size w w' := by
 have hu50 := Try.underlying50
 have HR0 := Aside0.mk hr0
 have HC0 := Aside0.mk hc0
 clear hr0 hc0
 have HR1 := Aside0.mk hr1
 have HC1 := Aside0.mk hc1
 clear hr1 hc1
 have HB := Aside0.mk (Below.refl w.heap.size w)
 have H : ((impl_PartAt.f k l0 l1 a2).bind fun bt569 => (if bt569.1 < 0 then (impl_shown.j0 k l1 bt569.1 bt569.2 true a3_0 a3_1 a3_2 a3_3) else (if 0 ≤ bt569.1 then (if bt569.1 < (l1.length : Int) then ((slices_Contains_int_int.f k ((rd_T85 l1 bt569.1).f0) a3_0).bind fun t572 => (impl_shown.j0 k l1 bt569.1 bt569.2 (!t572) a3_0 a3_1 a3_2 a3_3)) else (none)) else (none)))) = some r := h
 clear h
 obtain ⟨⟨t569, t570⟩, A5, H⟩ := bindE H
 try dsimp only at H
 have HC6 := Aside0.mk H
 clear H
 go_enter Try.func76, Try.ntmps76
 go_upto_region 2 with (first | ((with_reducible refine gate_dst (N := 7) rfl ?_); refine bE (N := 7) (cs := #[.int .i64 a3_0, .int .i64 a3_1, .int .i64 a3_2, .int .i64 a3_3]) (t := 50) ?_; intro gb568 hg w7 hbox hb; have BK568 := Aside0.mk (hbox); have GW568 := gw w hg; have GE568 := gw w hg; replace HB := bs HB hb; clear hb hbox hg) | ((with_reducible refine gate_callee (f := 62) rfl ?_); refine gL (some 15) Try.func62 #[.slice A0 l0.length c0, .slice A1 l1.length c1, .int .i64 a2] ?_; (with_reducible refine (impl_PartAt.calls k _ _ l0 _ _ l1 a2 t569 t570 _ ?_ ?_ ?_ ?_ A5.out).mono ?_); exact cB HR0; exact HC0.out; exact cB HR1; exact HC1.out; rintro e w8 ⟨rfl, hb⟩; refine ⟨_, rfl, ?_⟩; replace BK568 := kb BK568 hb; replace HB := bs HB hb; (try clear hb)))
 (try simp only [Act.put, List.setIfInBounds_toArray, List.set_cons_zero, List.set_cons_succ])
 go_cut [30] (fun v30 wc => ∃ (kq : Nat) (x30_5 : Bool), v30 = .bool x30_5 ∧ Aside0 (impl_shown.j0 kq l1 t569 t570 x30_5 a3_0 a3_1 a3_2 a3_3 = some r) ∧ Aside0 (kq ≤ k) ∧ Aside0 (wc.heap[gb568]? = some (.cells #[.int .i64 a3_0, .int .i64 a3_1, .int .i64 a3_2, .int .i64 a3_3] 50 (0, 0))) ∧ Aside0 (Below w.heap.size w wc))
 case first =>
  have H := HC6.out
  clear HC6
  by_cases c9 : t569 < 0
  ·
   rw [if_pos c9] at H
   have c9b0 := decide_eq_true c9
   clear c9
   (first | rw [c9b0] | (simp only [i64_w, i32_w]; rw [c9b0]) | skip)
   have H' := Aside0.mk H
   clear H
   try go_wp2
   replace BK568 := dk BK568
   have HBo := HB
   replace HB := db HB
   refine sw (ds := []) 13 (mb 13 0) impl_shown.tab2 impl_shown.bits2 h0 (fun hHeld HT_ HW_ => ?_)
   generalize w8.drew = w10 at BK568 HB hHeld ⊢
   refine pa 0 18 (mb 13 1) HT_ ?_
   refine pa 1 19 (mb 13 3) HT_ ?_
   refine pa 2 20 (mb 13 7) HT_ ?_
   refine pu 3 21 (mb 13 15) HT_ ?_
   refine pu 4 22 (mb 13 31) HT_ ?_
   refine pu 5 23 (mb 13 63) HT_ ?_
   refine pu 6 24 (mb 13 127) HT_ ?_
   refine pu 7 25 (mb 13 255) HT_ ?_
   refine pu 8 26 (mb 13 511) HT_ ?_
   refine pu 9 27 (mb 13 1023) HT_ ?_
   refine pu 10 28 (mb 13 2047) HT_ ?_
   refine pu 11 29 (mb 13 4095) HT_ ?_
   refine pa 12 30 (mb 13 8191) HT_ ?_
   refine eA HT_ ?_
   try go_wp2
   go_meet
   case rel => exact ⟨_, (true), rS, H', ⟨oL⟩, ⟨bK BK568⟩, ⟨bG⟩⟩
  rw [if_neg c9] at H
  have c9b0 := decide_eq_false c9
  clear c9
  (first | rw [c9b0] | (simp only [i64_w, i32_w]; rw [c9b0]) | skip)
  have c11 : 0 ≤ t569 := ifN H
  replace H := ifT H
  have c11b0 := decide_eq_true c11
  clear c11
  have c12 : t569 < (l1.length : Int) := ifN H
  replace H := ifT H
  have c12b0 := decide_eq_true c12
  clear c12
  obtain ⟨t572, A13, H⟩ := bindE H
  try dsimp only at H
  have H' := Aside0.mk H
  clear H
  try go_wp2
  replace BK568 := dk BK568
  have HBo := HB
  replace HB := db HB
  obtain ⟨p571, q571⟩ : 0 ≤ (t569 : Int) ∧ t569 < (l1.length : Int) := ⟨dA, dA⟩
  obtain ⟨ad571, A571_0, c571_0, e571, hx571_0, hx571_1, hl571_0, hi571_0⟩ := at_T85 HR1.out t569 p571 q571
  have hw571_1 := hx571_1
  have hw571_0 := hx571_0
  cases e571
  replace hx571_0 := hC HB hx571_0
  replace hx571_1 := hC HB hx571_1
  have HR571_0 := Aside0.mk hi571_0
  have HC571_0 := Aside0.mk hl571_0
  clear hi571_0 hl571_0
  obtain ⟨p571, q571⟩ := eT p571 q571
  refine sw (ds := []) 13 (mb 13 0) impl_shown.tab2 impl_shown.bits2 (h4c BK568 (h1c (hC HB hw571_0) (h1 (hC HB hw571_1)))) (fun hHeld HT_ HW_ => ?_)
  generalize w8.drew = w14 at BK568 HB HR571_0 hx571_0 hx571_1 hHeld ⊢
  refine pa 0 18 (mb 13 1) HT_ ?_
  refine pa 1 19 (mb 13 3) HT_ ?_
  refine pa 2 20 (mb 13 7) HT_ ?_
  refine pa 3 21 (mb 13 15) HT_ ?_
  refine pa 4 22 (mb 13 31) HT_ ?_
  refine pa 5 23 (mb 13 63) HT_ ?_
  refine pa 6 24 (mb 13 127) HT_ ?_
  refine pa 8 26 (mb 13 383) HT_ ?_
  refine ta6 7 25 (mb 13 511) HT_ HW_ hHeld ?_
  refine ta6 9 27 (mb 13 1023) HT_ HW_ hHeld ?_
  refine oa 10 28 (mb 13 2047) HT_ (fun K hK => ?_)
  refine gA Try.func102 #[.slice A571_0 ((rd_T85 l1 t569).f0).length c571_0, .int .i64 a3_0] ?_
  with_reducible refine (slices_Contains_int_int.calls k _ _ ((rd_T85 l1 t569).f0) a3_0 t572 _ ?side1 ?side2 A13.out).mono ?_
  (case side1 => exact cB HR571_0)
  (case side2 => exact HC571_0.out)
  rintro e w' ⟨rfl, ⟨nd, rfl⟩⟩
  refine ⟨_, rfl, ?_⟩
  refine hK.out _ _ (cm4 BK568 ⟨(hC HB hw571_0), (hC HB hw571_1)⟩) (fun hHeld => ?_)
  clear hK K
  refine nB ?_
  refine pa 11 29 (mb 13 4095) HT_ ?_
  refine pa 12 30 (mb 13 8191) HT_ ?_
  refine eA HT_ ?_
  try go_wp2
  go_meet
  case rel => exact ⟨_, (!t572), rS, H', ⟨oL⟩, ⟨bK BK568⟩, ⟨bG⟩⟩
 case rest =>
  clear HC6
  obtain ⟨kq, x30_5, rfl, HA, HJ5, BK568, HB⟩ := hcut
  cases kq with
  | zero => exact absurd HA.out (by simp [impl_shown.j0])
  | succ kj5 =>
   have H := HA.out
   clear HA
   simp only [impl_shown.j0] at H
   by_cases c15 : x30_5 = true
   ·
    subst c15
    have H1 : (some 0) = some r := by rw [if_pos rfl] at H; exact H
    clear H
    have H := H1
    clear H1
    obtain rfl := Option.some.inj H
    go_wp2
    go_ret
    exact ⟨rA, bG⟩
   replace c15 := Bool.eq_false_iff.mpr c15
   subst c15
   have H1 : (if 0 ≤ t569 then (if t569 < (l1.length : Int) then (if t570 < ((rd_T85 l1 t569).f1) then (impl_shown.j1 kj5 l1 t569 t570 true a3_0 a3_1 a3_2 a3_3) else ((impl_nextStage.f l1 t569).bind fun t574 => ((slices_Contains_int_int.f kj5 t574 a3_0).bind fun t577 => (impl_shown.j1 kj5 l1 t569 t570 t577 a3_0 a3_1 a3_2 a3_3)))) else (none)) else (none)) = some r := by rw [if_neg (show ¬ (false = true) by decide)] at H; exact H
   clear H
   have H := H1
   clear H1
   have HC16 := Aside0.mk H
   clear H
   go_upto_region 4 with (fail)
   go_cut [31] (fun v31 wc => ∃ (kq : Nat) (x31_15 : Bool), v31 = .bool x31_15 ∧ Aside0 (impl_shown.j1 kq l1 t569 t570 x31_15 a3_0 a3_1 a3_2 a3_3 = some r) ∧ Aside0 (kq ≤ kj5) ∧ Aside0 (wc.heap[gb568]? = some (.cells #[.int .i64 a3_0, .int .i64 a3_1, .int .i64 a3_2, .int .i64 a3_3] 50 (0, 0))) ∧ Aside0 (Below w.heap.size w wc))
   case first =>
    have H := HC16.out
    clear HC16
    have c17 : 0 ≤ t569 := ifN H
    replace H := ifT H
    have c17b0 := decide_eq_true c17
    clear c17
    (first | rw [c17b0] | (simp only [i64_w, i32_w]; rw [c17b0]) | skip)
    have c18 : t569 < (l1.length : Int) := ifN H
    replace H := ifT H
    have c18b0 := decide_eq_true c18
    clear c18
    by_cases c19 : t570 < ((rd_T85 l1 t569).f1)
    ·
     rw [if_pos c19] at H
     have c19b0 := decide_eq_true c19
     clear c19
     have H' := Aside0.mk H
     clear H
     try go_wp2
     replace BK568 := dk BK568
     have HBo := HB
     replace HB := db HB
     obtain ⟨p573, q573⟩ : 0 ≤ (t569 : Int) ∧ t569 < (l1.length : Int) := ⟨dA, dA⟩
     obtain ⟨ad573, A573_0, c573_0, e573, hx573_0, hx573_1, hl573_0, hi573_0⟩ := at_T85 HR1.out t569 p573 q573
     have hw573_1 := hx573_1
     have hw573_0 := hx573_0
     cases e573
     replace hx573_0 := hC HB hx573_0
     replace hx573_1 := hC HB hx573_1
     have HR573_0 := Aside0.mk hi573_0
     have HC573_0 := Aside0.mk hl573_0
     clear hi573_0 hl573_0
     obtain ⟨p573, q573⟩ := eT p573 q573
     refine sw (ds := []) 16 (mb 16 0) impl_shown.tab4 impl_shown.bits4 (h1c (hC HB hw573_0) (h1 (hC HB hw573_1))) (fun hHeld HT_ HW_ => ?_)
     generalize wc.drew = w20 at BK568 HB HR573_0 hx573_0 hx573_1 hHeld ⊢
     refine pa 0 32 (mb 16 1) HT_ ?_
     refine pa 1 33 (mb 16 3) HT_ ?_
     refine pa 2 34 (mb 16 7) HT_ ?_
     refine pa 3 35 (mb 16 15) HT_ ?_
     refine pa 4 36 (mb 16 31) HT_ ?_
     refine ta2 5 37 (mb 16 63) HT_ HW_ hHeld ?_
     refine pa 6 38 (mb 16 127) HT_ ?_
     refine pa 7 39 (mb 16 255) HT_ ?_
     refine pu 8 40 (mb 16 511) HT_ ?_
     refine pu 9 41 (mb 16 1023) HT_ ?_
     refine pu 10 42 (mb 16 2047) HT_ ?_
     refine pu 11 43 (mb 16 4095) HT_ ?_
     refine pu 12 44 (mb 16 8191) HT_ ?_
     refine pu 13 45 (mb 16 16383) HT_ ?_
     refine pa 14 46 (mb 16 32767) HT_ ?_
     refine pa 15 31 (mb 16 65535) HT_ ?_
     refine eA HT_ ?_
     try go_wp2
     go_meet
     case rel => exact ⟨_, (true), rS, H', ⟨by have := HJ5.out; first | omega | exact Nat.le_refl _⟩, ⟨bK BK568⟩, ⟨bG⟩⟩
    rw [if_neg c19] at H
    have c19b0 := decide_eq_false c19
    clear c19
    obtain ⟨t574, A21, H⟩ := bindE H
    try dsimp only at H
    obtain ⟨t577, A22, H⟩ := bindE H
    try dsimp only at H
    have H' := Aside0.mk H
    clear H
    try go_wp2
    replace BK568 := dk BK568
    have HBo := HB
    replace HB := db HB
    obtain ⟨p573, q573⟩ : 0 ≤ (t569 : Int) ∧ t569 < (l1.length : Int) := ⟨dA, dA⟩
    obtain ⟨ad573, A573_0, c573_0, e573, hx573_0, hx573_1, hl573_0, hi573_0⟩ := at_T85 HR1.out t569 p573 q573
    have hw573_1 := hx573_1
    have hw573_0 := hx573_0
    cases e573
    replace hx573_0 := hC HB hx573_0
    replace hx573_1 := hC HB hx573_1
    have HR573_0 := Aside0.mk hi573_0
    have HC573_0 := Aside0.mk hl573_0
    clear hi573_0 hl573_0
    obtain ⟨p573, q573⟩ := eT p573 q573
    refine sw (ds := []) 16 (mb 16 0) impl_shown.tab4 impl_shown.bits4 (h4c BK568 (h1c (hC HB hw573_0) (h1 (hC HB hw573_1)))) (fun hHeld HT_ HW_ => ?_)
    generalize wc.drew = w23 at BK568 HB HR573_0 hx573_0 hx573_1 hHeld ⊢
    refine pa 0 32 (mb 16 1) HT_ ?_
    refine pa 1 33 (mb 16 3) HT_ ?_
    refine pa 2 34 (mb 16 7) HT_ ?_
    refine pa 3 35 (mb 16 15) HT_ ?_
    refine pa 4 36 (mb 16 31) HT_ ?_
    refine ta6 5 37 (mb 16 63) HT_ HW_ hHeld ?_
    refine pa 6 38 (mb 16 127) HT_ ?_
    refine pa 7 39 (mb 16 255) HT_ ?_
    refine pa 8 40 (mb 16 511) HT_ ?_
    refine pa 9 41 (mb 16 1023) HT_ ?_
    refine pa 11 43 (mb 16 3071) HT_ ?_
    refine ta6 12 44 (mb 16 7167) HT_ HW_ hHeld ?_
    refine oa 10 42 (mb 16 8191) HT_ (fun K hK => ?_)
    refine gA Try.func122 #[.slice (some ad573) l1.length c1, .int .i64 t569] ?_
    with_reducible refine (impl_nextStage.calls (fun k_ => k_ < w.heap.size) _ _ l1 t569 t574 _ ?side1 A21.out).mono ?_
    (case side1 => exact Kd.V_mk HC1.out (Kd.F_below (Kd.C_F k85_heap HR1.out) bG))
    rintro e w24 ⟨v575, rfl, ho0, hb⟩
    refine ⟨_, rfl, ?_⟩
    have HO576 := Aside0.mk (Kd.V_lower (Kd.V_mono (ok' := fun k_ => k_ ≠ gb568) ho0 (fun k_ hk_ => Or.elim hk_ (fun hs_ => fun e_ => Nat.not_le.2 hs_ (by rw [e_]; exact GW568.out)) (fun hn_ => (Kd.freshB (g := gb568) (o := .cells #[.int .i64 a3_0, .int .i64 a3_1, .int .i64 a3_2, .int .i64 a3_3] 50 (0, 0)) (bK BK568) k_ hn_)))) (below_size bG))
    replace BK568 := kb BK568 hb
    replace HB := bs HB hb
    (try clear hb)
    (try clear hb2)
    (try clear hk)
    (try clear hi)
    (try clear ho0)
    obtain ⟨Ao25, co25, eo25⟩ := Kd.V_slice HO576.out
    (first | subst eo25 | (injection eo25 with f1_ f2_ f3_; have f4_ := f1_.symm; have f5_ := f3_.symm; clear f1_ f2_ f3_; subst f4_; subst f5_))
    refine hK.out _ _ (cm4 BK568 ⟨(hC HB hw573_0), (hC HB hw573_1)⟩) (fun hHeld => ?_)
    clear hK K
    refine nB ?_
    refine oa 13 45 (mb 16 16383) HT_ (fun K hK => ?_)
    refine gA Try.func102 #[.slice Ao25 t574.length co25, .int .i64 a3_0] ?_
    with_reducible refine (slices_Contains_int_int.calls kj5 _ _ t574 a3_0 t577 _ ?side1 ?side2 A22.out).mono ?_
    (case side1 => repeat (first | exact (Kd.V_reads' HO576.out).2.2 | (with_reducible refine Kd.C_alloc ?_ _) | (with_reducible refine Kd.C_drewN ?_ _) | (with_reducible refine Kd.C_drew ?_)))
    (case side2 => exact (Kd.V_reads' HO576.out).2.1)
    rintro e w' ⟨rfl, ⟨nd, rfl⟩⟩
    refine ⟨_, rfl, ?_⟩
    refine hK.out _ _ (cm4 BK568 ⟨(hC HB hw573_0), (hC HB hw573_1)⟩) (fun hHeld => ?_)
    clear hK K
    refine nB ?_
    refine pa 14 46 (mb 16 32767) HT_ ?_
    refine pa 15 31 (mb 16 65535) HT_ ?_
    refine eA HT_ ?_
    try go_wp2
    go_meet
    case rel => exact ⟨_, (t577), rS, H', ⟨by have := HJ5.out; first | omega | exact Nat.le_refl _⟩, ⟨bK BK568⟩, ⟨bG⟩⟩
   case rest =>
    clear HC16
    obtain ⟨kq, x31_15, rfl, HA, HJ15, BK568, HB⟩ := hcut
    cases kq with
    | zero => exact absurd HA.out (by simp [impl_shown.j1])
    | succ kj15 =>
     have H := HA.out
     clear HA
     simp only [impl_shown.j1] at H
     by_cases c26 : x31_15 = true
     ·
      subst c26
      have H1 : (some 1) = some r := by rw [if_pos rfl] at H; exact H
      clear H
      have H := H1
      clear H1
      obtain rfl := Option.some.inj H
      go_wp2
      go_ret
      exact ⟨rA, bG⟩
     replace c26 := Bool.eq_false_iff.mpr c26
     subst c26
     have H1 : (if 0 ≤ t569 then (if t569 < (l1.length : Int) then ((impl_ClearOf.f a3_0 a3_1 a3_2 a3_3).bind fun t579 => (if t570 < (wrap64 (((rd_T85 l1 t569).f1) + t579)) then (some 2) else (some 0))) else (none)) else (none)) = some r := by rw [if_neg (show ¬ (false = true) by decide)] at H; exact H
     clear H
     have H := H1
     clear H1
     have c27 : 0 ≤ t569 := ifN H
     replace H := ifT H
     have c27b0 := decide_eq_true c27
     clear c27
     have c28 : t569 < (l1.length : Int) := ifN H
     replace H := ifT H
     have c28b0 := decide_eq_true c28
     clear c28
     obtain ⟨t579, A29, H⟩ := bindE H
     try dsimp only at H
     by_cases c30 : t570 < (wrap64 (((rd_T85 l1 t569).f1) + t579))
     ·
      rw [if_pos c30] at H
      have c30b0 := decide_eq_true c30
      clear c30
      obtain rfl := Option.some.inj H
      try go_wp2
      replace BK568 := dk BK568
      have HBo := HB
      replace HB := db HB
      obtain ⟨p578, q578⟩ : 0 ≤ (t569 : Int) ∧ t569 < (l1.length : Int) := ⟨dA, dA⟩
      obtain ⟨ad578, A578_0, c578_0, e578, hx578_0, hx578_1, hl578_0, hi578_0⟩ := at_T85 HR1.out t569 p578 q578
      have hw578_1 := hx578_1
      have hw578_0 := hx578_0
      cases e578
      replace hx578_0 := hC HB hx578_0
      replace hx578_1 := hC HB hx578_1
      have HR578_0 := Aside0.mk hi578_0
      have HC578_0 := Aside0.mk hl578_0
      clear hi578_0 hl578_0
      obtain ⟨p578, q578⟩ := eT p578 q578
      refine sw (ds := []) 11 (mb 11 0) impl_shown.tab6 impl_shown.bits6 (h4c BK568 (h1c (hC HB hw578_0) (h1 (hC HB hw578_1)))) (fun hHeld HT_ HW_ => ?_)
      generalize wc.drew = w31 at BK568 HB HR578_0 hx578_0 hx578_1 hHeld ⊢
      refine pa 0 48 (mb 11 1) HT_ ?_
      refine pa 1 49 (mb 11 3) HT_ ?_
      refine pa 2 50 (mb 11 7) HT_ ?_
      refine pa 3 51 (mb 11 15) HT_ ?_
      refine pa 4 52 (mb 11 31) HT_ ?_
      refine ta6 5 53 (mb 11 63) HT_ HW_ hHeld ?_
      refine ta6 6 54 (mb 11 127) HT_ HW_ hHeld ?_
      refine oa 7 55 (mb 11 255) HT_ (fun K hK => ?_)
      refine gA Try.func120 #[.agg #[.int .i64 a3_0, .int .i64 a3_1, .int .i64 a3_2, .int .i64 a3_3]] ?_
      with_reducible refine (impl_ClearOf.calls a3_0 a3_1 a3_2 a3_3 t579 _ A29.out).mono ?_
      rintro e w32 ⟨rfl, hb⟩
      refine ⟨_, rfl, ?_⟩
      replace BK568 := kb BK568 hb
      replace HB := bs HB hb
      (try clear hb)
      (try clear hb2)
      (try clear hk)
      (try clear hi)
      refine hK.out _ _ (cm4 BK568 ⟨(hC HB hw578_0), (hC HB hw578_1)⟩) (fun hHeld => ?_)
      clear hK K
      refine nB ?_
      refine pa 8 56 (mb 11 511) HT_ ?_
      refine pa 9 57 (mb 11 1023) HT_ ?_
      refine pa 10 47 (mb 11 2047) HT_ ?_
      refine eA HT_ ?_
      try go_wp2
      go_ret
      exact ⟨rA, bG⟩
     rw [if_neg c30] at H
     have c30b0 := decide_eq_false c30
     clear c30
     obtain rfl := Option.some.inj H
     try go_wp2
     replace BK568 := dk BK568
     have HBo := HB
     replace HB := db HB
     obtain ⟨p578, q578⟩ : 0 ≤ (t569 : Int) ∧ t569 < (l1.length : Int) := ⟨dA, dA⟩
     obtain ⟨ad578, A578_0, c578_0, e578, hx578_0, hx578_1, hl578_0, hi578_0⟩ := at_T85 HR1.out t569 p578 q578
     have hw578_1 := hx578_1
     have hw578_0 := hx578_0
     cases e578
     replace hx578_0 := hC HB hx578_0
     replace hx578_1 := hC HB hx578_1
     have HR578_0 := Aside0.mk hi578_0
     have HC578_0 := Aside0.mk hl578_0
     clear hi578_0 hl578_0
     obtain ⟨p578, q578⟩ := eT p578 q578
     refine sw (ds := []) 11 (mb 11 0) impl_shown.tab6 impl_shown.bits6 (h4c BK568 (h1c (hC HB hw578_0) (h1 (hC HB hw578_1)))) (fun hHeld HT_ HW_ => ?_)
     generalize wc.drew = w33 at BK568 HB HR578_0 hx578_0 hx578_1 hHeld ⊢
     refine pa 0 48 (mb 11 1) HT_ ?_
     refine pa 1 49 (mb 11 3) HT_ ?_
     refine pa 2 50 (mb 11 7) HT_ ?_
     refine pa 3 51 (mb 11 15) HT_ ?_
     refine pa 4 52 (mb 11 31) HT_ ?_
     refine ta6 5 53 (mb 11 63) HT_ HW_ hHeld ?_
     refine ta6 6 54 (mb 11 127) HT_ HW_ hHeld ?_
     refine oa 7 55 (mb 11 255) HT_ (fun K hK => ?_)
     refine gA Try.func120 #[.agg #[.int .i64 a3_0, .int .i64 a3_1, .int .i64 a3_2, .int .i64 a3_3]] ?_
     with_reducible refine (impl_ClearOf.calls a3_0 a3_1 a3_2 a3_3 t579 _ A29.out).mono ?_
     rintro e w34 ⟨rfl, hb⟩
     refine ⟨_, rfl, ?_⟩
     replace BK568 := kb BK568 hb
     replace HB := bs HB hb
     (try clear hb)
     (try clear hb2)
     (try clear hk)
     (try clear hi)
     refine hK.out _ _ (cm4 BK568 ⟨(hC HB hw578_0), (hC HB hw578_1)⟩) (fun hHeld => ?_)
     clear hK K
     refine nB ?_
     refine pa 8 56 (mb 11 511) HT_ ?_
     refine pa 9 57 (mb 11 1023) HT_ ?_
     refine pa 10 47 (mb 11 2047) HT_ ?_
     refine eA HT_ ?_
     try go_wp2
     go_ret
     exact ⟨rA, bG⟩

/-! ### impl_LightAt: function 14 -/
def impl_LightAt.f (k : Nat) (l0 : List (S50)) (l1 : List (S85)) (a2 : Int) (a3 : Int) : Option (Int) := (impl_FindPath.f l0 a3).bind fun t580 => (if t580 < 0 then (some 0) else (if 0 ≤ t580 then (if t580 < (l0.length : Int) then ((impl_shown.f k l0 l1 a2 ((rd_T50 l0 t580).f0) ((rd_T50 l0 t580).f1) ((rd_T50 l0 t580).f2) ((rd_T50 l0 t580).f3)).bind fun t582 => (some t582)) else (none)) else (none)))
theorem impl_LightAt.mono : ∀ a0 a1 a2 a3 k, LeO (impl_LightAt.f k a0 a1 a2 a3) (impl_LightAt.f (k + 1) a0 a1 a2 a3) := by
 intro a0 a1 a2 a3 k
 unfold impl_LightAt.f
 exact mz1 impl_shown.mono
set_option maxHeartbeats 8000000 in
set_option maxRecDepth 100000 in
theorem impl_LightAt.calls (k : Nat) (A0 : Option Addr) (c0 : Nat) (l0 : List (S50)) (A1 : Option Addr) (c1 : Nat) (l1 : List (S85)) (a2 : Int) (a3 : Int) (r : Int) (w : World) (hr0 : Kd.C k50 w A0 l0.length l0) (hc0 : l0.length ≤ c0) (hr1 : Kd.C k85 w A1 l1.length l1) (hc1 : l1.length ≤ c1) (h : impl_LightAt.f k l0 l1 a2 a3 = some r) :
  Calls Try.prog 14 #[.slice A0 l0.length c0, .slice A1 l1.length c1, .int .i64 a2, .int .i64 a3] w fun e w' => e = .returned (.int .i64 r) ∧ Below w.heap.size w w' := by
 have hu50 := Try.underlying50
 have HR0 := Aside0.mk hr0
 have HC0 := Aside0.mk hc0
 clear hr0 hc0
 have HR1 := Aside0.mk hr1
 have HC1 := Aside0.mk hc1
 clear hr1 hc1
 have HB := Aside0.mk (Below.refl w.heap.size w)
 have H : ((impl_FindPath.f l0 a3).bind fun t580 => (if t580 < 0 then (some 0) else (if 0 ≤ t580 then (if t580 < (l0.length : Int) then ((impl_shown.f k l0 l1 a2 ((rd_T50 l0 t580).f0) ((rd_T50 l0 t580).f1) ((rd_T50 l0 t580).f2) ((rd_T50 l0 t580).f3)).bind fun t582 => (some t582)) else (none)) else (none)))) = some r := h
 clear h
 obtain ⟨t580, A5, H⟩ := bindE H
 try dsimp only at H
 by_cases c6 : t580 < 0
 ·
  rw [if_pos c6] at H
  have c6b0 := decide_eq_true c6
  clear c6
  obtain rfl := Option.some.inj H
  go_enter Try.func14, Try.ntmps14
  go_wp2_with (first | ((with_reducible refine gate_callee (f := 16) rfl ?_); refine gL (some 12) Try.func16 #[.slice A0 l0.length c0, .int .i64 a3] ?_; (with_reducible refine (impl_FindPath.calls _ _ l0 a3 t580 _ ?_ ?_ A5.out).mono ?_); exact cO HR0; exact HC0.out; rintro e w7 ⟨rfl, hb⟩; refine ⟨_, rfl, ?_⟩; replace HB := bs HB hb; (try clear hb)))
  go_ret
  exact ⟨rA, bA⟩
 rw [if_neg c6] at H
 have c6b0 := decide_eq_false c6
 clear c6
 have c8 : 0 ≤ t580 := ifN H
 replace H := ifT H
 have c8b0 := decide_eq_true c8
 clear c8
 have c9 : t580 < (l0.length : Int) := ifN H
 replace H := ifT H
 have c9b0 := decide_eq_true c9
 clear c9
 obtain ⟨t582, A10, H⟩ := bindE H
 try dsimp only at H
 obtain rfl := Option.some.inj H
 go_enter Try.func14, Try.ntmps14
 go_wp2_with (first | ((with_reducible refine gate_callee (f := 16) rfl ?_); refine gL (some 12) Try.func16 #[.slice A0 l0.length c0, .int .i64 a3] ?_; (with_reducible refine (impl_FindPath.calls _ _ l0 a3 t580 _ ?_ ?_ A5.out).mono ?_); exact cO HR0; exact HC0.out; rintro e w11 ⟨rfl, hb⟩; refine ⟨_, rfl, ?_⟩; replace HB := bs HB hb; (try clear hb); have p581 : 0 ≤ (t580 : Int) := dA; have q581 : t580 < (l0.length : Int) := dA; obtain ⟨ad581, e581, hx581_0, hx581_1, hx581_2, hx581_3⟩ := at_T50 HR0.out t580 p581 q581; cases e581; replace hx581_0 := hC HB hx581_0; replace hx581_1 := hC HB hx581_1; replace hx581_2 := hC HB hx581_2; replace hx581_3 := hC HB hx581_3; replace p581 := eq_true p581; replace q581 := eq_true q581) | ((with_reducible refine gate_callee (f := 76) rfl ?_); refine gL (some 22) Try.func76 #[.slice (some ad581) l0.length c0, .slice A1 l1.length c1, .int .i64 a2, .agg #[.int .i64 ((rd_T50 l0 t580).f0), .int .i64 ((rd_T50 l0 t580).f1), .int .i64 ((rd_T50 l0 t580).f2), .int .i64 ((rd_T50 l0 t580).f3)]] ?_; (with_reducible refine (impl_shown.calls k _ _ l0 _ _ l1 a2 ((rd_T50 l0 t580).f0) ((rd_T50 l0 t580).f1) ((rd_T50 l0 t580).f2) ((rd_T50 l0 t580).f3) t582 _ ?_ ?_ ?_ ?_ A10.out).mono ?_); exact cB HR0; exact HC0.out; exact cB HR1; exact HC1.out; rintro e w12 ⟨rfl, hb⟩; refine ⟨_, rfl, ?_⟩; replace HB := bs HB hb; (try clear hb)))
 go_ret
 exact ⟨rA, bA⟩

/-! ### impl_greens: function 74 -/
def impl_greens.l0 : Nat → List (S50) → List (S85) → Int → List Bool → Int → Int → Option (List Bool)
 | 0, _, _, _, _, _, _ => none
 | k + 1, x0, x1, x2, x7, x18, x19 => if x19 < x18 then ((impl_LightAt.f k x0 x1 x19 x2).bind fun t588 => (if 0 ≤ x19 then (if x19 < (x7.length : Int) then (impl_greens.l0 k x0 x1 x2 (x7.set (x19 : Int).toNat (t588 == 1)) x18 (wrap64 (x19 + 1))) else (none)) else (none))) else (some x7)
def impl_greens.f (k : Nat) (l0 : List (S50)) (l1 : List (S85)) (a2 : Int) : Option (List Bool) := (impl_FindPath.f l0 a2).bind fun t583 => (if t583 < 0 then (some ([] : List Bool)) else ((impl_Cycle.f k l0 l1).bind fun t584 => (if 0 ≤ t584 then (if (t584 : Int).toNat ≤ 281474976710656 then ((some (List.replicate (t584 : Int).toNat false : List Bool)).bind fun y585 => (impl_greens.l0 k l0 l1 a2 y585 (y585.length : Int) 0)) else (none)) else (none))))
theorem impl_greens.mono_l : ∀ k, (∀ y0 y1 y2 y3 y4 y5, LeO (impl_greens.l0 k y0 y1 y2 y3 y4 y5) (impl_greens.l0 (k + 1) y0 y1 y2 y3 y4 y5))
 | 0 => fun _ _ _ _ _ _ r h => by simp [impl_greens.l0] at h
 | k + 1 => by
  have ih0 := impl_greens.mono_l k
  ·
   intro y0 y1 y2 y3 y4 y5
   unfold impl_greens.l0
   exact mz3 ih0 impl_Cycle.mono impl_LightAt.mono
theorem impl_greens.mono : ∀ a0 a1 a2 k, LeO (impl_greens.f k a0 a1 a2) (impl_greens.f (k + 1) a0 a1 a2) := by
 intro a0 a1 a2 k
 have ih0 := impl_greens.mono_l k
 unfold impl_greens.f
 exact mz3 ih0 impl_Cycle.mono impl_LightAt.mono
set_option maxHeartbeats 8000000 in
set_option maxRecDepth 100000 in
theorem impl_greens.calls (k : Nat) (A0 : Option Addr) (c0 : Nat) (l0 : List (S50)) (A1 : Option Addr) (c1 : Nat) (l1 : List (S85)) (a2 : Int) (r : List Bool) (w : World) (hr0 : Kd.C k50 w A0 l0.length l0) (hc0 : l0.length ≤ c0) (hr1 : Kd.C k85 w A1 l1.length l1) (hc1 : l1.length ≤ c1) (h : impl_greens.f k l0 l1 a2 = some r) :
  Calls Try.prog 74 #[.slice A0 l0.length c0, .slice A1 l1.length c1, .int .i64 a2] w fun e w' => ∃ v0_ : Value, e = .returned (v0_) ∧ Kd.R Kd.bool 4 w' w.heap.size (fun _ => True) v0_ r ∧ Below w.heap.size w w' := by
 have HR0 := Aside0.mk hr0
 have HC0 := Aside0.mk hc0
 clear hr0 hc0
 have HR1 := Aside0.mk hr1
 have HC1 := Aside0.mk hc1
 clear hr1 hc1
 have HB := Aside0.mk (Below.refl w.heap.size w)
 have H : ((impl_FindPath.f l0 a2).bind fun t583 => (if t583 < 0 then (some ([] : List Bool)) else ((impl_Cycle.f k l0 l1).bind fun t584 => (if 0 ≤ t584 then (if (t584 : Int).toNat ≤ 281474976710656 then ((some (List.replicate (t584 : Int).toNat false : List Bool)).bind fun y585 => (impl_greens.l0 k l0 l1 a2 y585 (y585.length : Int) 0)) else (none)) else (none))))) = some r := h
 clear h
 obtain ⟨t583, A4, H⟩ := bindE H
 try dsimp only at H
 by_cases c5 : t583 < 0
 ·
  rw [if_pos c5] at H
  have c5b0 := decide_eq_true c5
  clear c5
  obtain rfl := Option.some.inj H
  go_enter Try.func74, Try.ntmps74
  go_wp2_with (first | ((with_reducible refine gate_callee (f := 16) rfl ?_); refine gL (some 11) Try.func16 #[.slice A0 l0.length c0, .int .i64 a2] ?_; (with_reducible refine (impl_FindPath.calls _ _ l0 a2 t583 _ ?_ ?_ A4.out).mono ?_); exact cO HR0; exact HC0.out; rintro e w6 ⟨rfl, hb⟩; refine ⟨_, rfl, ?_⟩; replace HB := bs HB hb; (try clear hb)))
  go_ret
  exact ⟨_, rA, by first | exact Kd.R_nil _ _ _ _ _ | exact Kd.N_nil _ _ _ _ _ | exact Kd.V_nil _ _ _ _ _ | exact Kd.Q_nil _ _ _ _ _ | exact Kd.S_nil _ _ _ _ _, bA⟩
 rw [if_neg c5] at H
 have c5b0 := decide_eq_false c5
 clear c5
 obtain ⟨t584, A7, H⟩ := bindE H
 try dsimp only at H
 have c8 : 0 ≤ t584 := ifN H
 replace H := ifT H
 have c8b0 := eq_true c8
 have c8b1 := decide_eq_true c8
 clear c8
 have c9 : (t584 : Int).toNat ≤ 281474976710656 := ifN H
 replace H := ifT H
 have c9b0 := eq_true c9
 have c9b1 := decide_eq_true c9
 clear c9
 obtain ⟨y585, hy585⟩ : ∃ y_ : List Bool, y_ = (List.replicate (t584 : Int).toNat false) := ⟨_, rfl⟩
 replace H : (impl_greens.l0 k l0 l1 a2 y585 (y585.length : Int) 0) = some r := rH H hy585
 have Ny585 := Aside0.mk hy585
 clear hy585
 have H' := Aside0.mk H
 clear H
 go_enter Try.func74, Try.ntmps74
 go_wp2_with (first | ((with_reducible refine gate_callee (f := 16) rfl ?_); refine gL (some 11) Try.func16 #[.slice A0 l0.length c0, .int .i64 a2] ?_; (with_reducible refine (impl_FindPath.calls _ _ l0 a2 t583 _ ?_ ?_ A4.out).mono ?_); exact cO HR0; exact HC0.out; rintro e w10 ⟨rfl, hb⟩; refine ⟨_, rfl, ?_⟩; replace HB := bs HB hb; (try clear hb)) | ((with_reducible refine gate_callee (f := 56) rfl ?_); refine gL (some 15) Try.func56 #[.slice A0 l0.length c0, .slice A1 l1.length c1] ?_; (with_reducible refine (impl_Cycle.calls k _ _ l0 _ _ l1 t584 _ ?_ ?_ ?_ ?_ A7.out).mono ?_); exact cB HR0; exact HC0.out; exact cB HR1; exact HC1.out; rintro e w11 ⟨rfl, hb⟩; refine ⟨_, rfl, ?_⟩; replace HB := bs HB hb; (try clear hb)) | ((with_reducible refine gate_dst (N := 16) rfl ?_); refine Kd.R_make Kd.bool _ 4 rfl (N := 16) rfl 56 _ _ rfl t584 rfl rfl Try.underlying56 (.bool false) 1 info4 rfl (by decide) (by omega) false (ok := fun _ => True) (okp := fun _ => True) rfl (fun _ hk => hk) trivial (dA) (Nat.le_trans (Nat.mul_le_mul_right _ (dA : t584.toNat ≤ 281474976710656)) (by omega)) (Below.refl _ _) (Nat.le_refl _) ?_; intro v586 w12 ho13 hb hg_ hnew_; clear hg_ hnew_; (first | rw [← Ny585.out] at ho13 | (simp only [Int.reduceToNat] at ho13; rw [← Ny585.out] at ho13)); have HO587 := rl w ho13; replace HB := bs HB hb; clear hb ho13; obtain ⟨Ao14, co14, eo14⟩ := Kd.R_slice HO587.out; subst eo14))
 go_loopg [19] k (fun kq v19 w' => ∃ (x7_1 : List Bool) (x19_1 : Int), v19 = .int .i64 x19_1 ∧ Aside0 (impl_greens.l0 kq l0 l1 a2 x7_1 (y585.length : Int) x19_1 = some r) ∧ Aside0 (kq ≤ k) ∧ Aside0 (Kd.R Kd.bool 4 w' w.heap.size (fun _ => True) (.slice Ao14 y585.length co14) x7_1) ∧ Aside0 (Below w.heap.size w w'))
 case atStart => exact ⟨(y585), (0), rS, H', ⟨Nat.le_refl _⟩, ⟨rK HO587⟩, ⟨bA⟩⟩
 case round =>
  clear H'
  obtain ⟨x7_1, x19_1, rfl, HA, HK1, HO_7, HB⟩ := hrel
  have hl7_1 := (Kd.R_reads' HO_7.out).1
  rw [hl7_1] at HO_7
  (try simp only [hl7_1])
  cases gk with
  | zero => exact absurd HA.out (by simp [impl_greens.l0])
  | succ k1 =>
   have H := HA.out
   clear HA
   simp only [impl_greens.l0] at H
   by_cases c15 : x19_1 < (y585.length : Int)
   ·
    rw [if_pos c15] at H
    have c15b0 := decide_eq_true c15
    (try have c15b0x : decide (x19_1 < (x7_1.length : Int)) = true := (by rw [← hl7_1]; exact c15b0))
    clear c15
    obtain ⟨t588, A16, H⟩ := bindE H
    try dsimp only at H
    have c17 : 0 ≤ x19_1 := ifN H
    replace H := ifT H
    have c17b0 := decide_eq_true c17
    clear c17
    have c18 : x19_1 < (x7_1.length : Int) := ifN H
    replace H := ifT H
    have c18b0 := decide_eq_true c18
    clear c18
    obtain ⟨y589, hy589⟩ : ∃ y_ : List Bool, y_ = (x7_1.set (x19_1 : Int).toNat (t588 == 1)) := ⟨_, rfl⟩
    replace H : (impl_greens.l0 k1 l0 l1 a2 y589 (y585.length : Int) (wrap64 (x19_1 + 1))) = some r := rH H hy589
    have Ny589 := Aside0.mk hy589
    clear hy589
    have H' := Aside0.mk H
    clear H
    go_wp2_with (first | ((with_reducible refine gate_callee (f := 14) rfl ?_); refine gL (some 28) Try.func14 #[.slice A0 l0.length c0, .slice A1 l1.length c1, .int .i64 x19_1, .int .i64 a2] ?_; (with_reducible refine (impl_LightAt.calls k1 _ _ l0 _ _ l1 x19_1 a2 t588 _ ?_ ?_ ?_ ?_ A16.out).mono ?_); exact cB HR0; exact HC0.out; exact cB HR1; exact HC1.out; rintro e w20 ⟨rfl, hb⟩; refine ⟨_, rfl, ?_⟩; replace HO_7 := rb HO_7 hb; replace HB := bs HB hb; (try clear hb); have p19 : 0 ≤ (x19_1 : Int) := dA; have q19 : (x19_1 : Int) < ((x7_1.length : Int) : Int) := dA; obtain ⟨go19, co19, eo19, gb19, gl19, cl19, HG19⟩ := Kd.R_form HO_7.out (by omega); (first | cases eo19 | (injection eo19 with ea_ en_ ec_; (first | subst ea_ | (injection ea_ with ea_; subst ea_)); subst ec_; clear en_)); have GB19 := Aside0.mk gb19; have GG19 := Aside0.mk HG19; clear gb19 gl19 HG19; obtain ⟨hx19_0, hf19_0⟩ := Kd.R_celln false HO_7.out (x19_1 : Int) p19 q19; replace p19 := eq_true p19; replace q19 := eq_true q19; obtain ⟨hy21_, hz21_⟩ := Kd.R_celln false HO_7.out (x19_1 : Int) (dA) (dA); have HP21 := Kd.R_putg HO_7.out (x19_1 : Int) (t588 == 1)) | ((with_reducible refine gate_store (t := 4) (p := 30) rfl ?_); refine store_event (t := 4) (p := 30) (v := ?vo_w22) (w1 := (w20.setCell ⟨go19, (x19_1 : Int).toNat, none⟩ (.bool (t588 == 1)))) ?hg ?ho ?hn ?hr ?_; (case ho => rfl); (case hg => rfl); (case hn => rfl); (case hr => first | (go_simp; done) | (go_simp; rfl)); intro w22 hw; have hg : w20.grownBy w22 (some go19) := (by rw [hw]; exact HP21.2); have hp_ : Kd.R Kd.bool 4 w22 w.heap.size (fun _ => True) (.slice (some ⟨go19, 0, none⟩) x7_1.length co14) y589 := (by rw [hw, Ny589.out]; exact HP21.1); clear HP21; have n0_ := Aside0.mk (hp_); have n1_ := Aside0.mk ((by rw [hw]; exact below_set (HB.out) GB19.out : Below w.heap.size w w22)); clear HO_7; clear HB; have HO_7 := n0_; have HB := n1_; clear n0_ n1_; clear hg hw hp_))
    (try simp only [← hl7_1])
    go_roundg k1
    case measure => have := HK1.out; omega
    case rel => exact ⟨(y589), (wrap64 (x19_1 + 1)), rS, H', ⟨by have := HK1.out; omega⟩, ⟨by (try simp only [hl7_1]); (with_reducible repeat (first | apply Kd.R_alloc | apply Kd.R_drewN | apply Kd.R_drew)); exact HO_7.out⟩, ⟨bA⟩⟩
   rw [if_neg c15] at H
   have c15b0 := decide_eq_false c15
   (try have c15b0x : decide (x19_1 < (x7_1.length : Int)) = false := (by rw [← hl7_1]; exact c15b0))
   clear c15
   obtain rfl := Option.some.inj H
   go_wp2
   go_ret
   exact ⟨_, rA, rK HO_7, bA⟩

/-! ### impl_NextGreen: function 12 -/
def impl_NextGreen.l0 : Nat → Int → List Bool → Int → Int → Option (Int)
 | 0, _, _, _, _ => none
 | k + 1, x3, x9, x19, x20 => if x20 < x19 then (if (x9.length : Int) = 0 then (none) else (if 0 ≤ (Int.tmod (wrap64 (x3 + x20)) (x9.length : Int)) then (if (Int.tmod (wrap64 (x3 + x20)) (x9.length : Int)) < (x9.length : Int) then (if rdOf false x9 (Int.tmod (wrap64 (x3 + x20)) (x9.length : Int)) = true then (some (wrap64 (x3 + x20))) else (impl_NextGreen.l0 k x3 x9 x19 (wrap64 (x20 + 1)))) else (none)) else (none))) else (some (-1))
def impl_NextGreen.f (k : Nat) (l0 : List (S50)) (l1 : List (S85)) (a2 : Int) (a3 : Int) : Option (Int) := (impl_greens.f k l0 l1 a2).bind fun t590 => ((impl_InRange.f a3 0 100000).bind fun t593 => (if t593 = true then (impl_NextGreen.l0 k a3 t590 (t590.length : Int) 0) else (some (-1))))
theorem impl_NextGreen.mono_l : ∀ k, (∀ y0 y1 y2 y3, LeO (impl_NextGreen.l0 k y0 y1 y2 y3) (impl_NextGreen.l0 (k + 1) y0 y1 y2 y3))
 | 0 => fun _ _ _ _ r h => by simp [impl_NextGreen.l0] at h
 | k + 1 => by
  have ih0 := impl_NextGreen.mono_l k
  ·
   intro y0 y1 y2 y3
   unfold impl_NextGreen.l0
   exact mz2 ih0 impl_greens.mono
theorem impl_NextGreen.mono : ∀ a0 a1 a2 a3 k, LeO (impl_NextGreen.f k a0 a1 a2 a3) (impl_NextGreen.f (k + 1) a0 a1 a2 a3) := by
 intro a0 a1 a2 a3 k
 have ih0 := impl_NextGreen.mono_l k
 unfold impl_NextGreen.f
 exact mz2 ih0 impl_greens.mono
set_option maxHeartbeats 8000000 in
set_option maxRecDepth 100000 in
theorem impl_NextGreen.calls (k : Nat) (A0 : Option Addr) (c0 : Nat) (l0 : List (S50)) (A1 : Option Addr) (c1 : Nat) (l1 : List (S85)) (a2 : Int) (a3 : Int) (r : Int) (w : World) (hr0 : Kd.C k50 w A0 l0.length l0) (hc0 : l0.length ≤ c0) (hr1 : Kd.C k85 w A1 l1.length l1) (hc1 : l1.length ≤ c1) (h : impl_NextGreen.f k l0 l1 a2 a3 = some r) :
  Calls Try.prog 12 #[.slice A0 l0.length c0, .slice A1 l1.length c1, .int .i64 a2, .int .i64 a3] w fun e w' => e = .returned (.int .i64 r) ∧ Below w.heap.size w w' := by
 have HR0 := Aside0.mk hr0
 have HC0 := Aside0.mk hc0
 clear hr0 hc0
 have HR1 := Aside0.mk hr1
 have HC1 := Aside0.mk hc1
 clear hr1 hc1
 have HB := Aside0.mk (Below.refl w.heap.size w)
 have H : ((impl_greens.f k l0 l1 a2).bind fun t590 => ((impl_InRange.f a3 0 100000).bind fun t593 => (if t593 = true then (impl_NextGreen.l0 k a3 t590 (t590.length : Int) 0) else (some (-1))))) = some r := h
 clear h
 obtain ⟨t590, A5, H⟩ := bindE H
 try dsimp only at H
 obtain ⟨t593, A6, H⟩ := bindE H
 try dsimp only at H
 by_cases c7 : t593 = true
 ·
  subst c7
  have H1 : (impl_NextGreen.l0 k a3 t590 (t590.length : Int) 0) = some r := by rw [if_pos rfl] at H; exact H
  clear H
  have H := H1
  clear H1
  have H' := Aside0.mk H
  clear H
  go_enter Try.func12, Try.ntmps12
  go_wp2_with (first | ((with_reducible refine gate_callee (f := 74) rfl ?_); refine gL (some 14) Try.func74 #[.slice A0 l0.length c0, .slice A1 l1.length c1, .int .i64 a2] ?_; (with_reducible refine (impl_greens.calls k _ _ l0 _ _ l1 a2 t590 _ ?_ ?_ ?_ ?_ A5.out).mono ?_); exact cO HR0; exact HC0.out; exact cO HR1; exact HC1.out; rintro e w8 ⟨v591, rfl, ho0, hb⟩; refine ⟨_, rfl, ?_⟩; have HO592 := rl w ho0; replace HB := bs HB hb; (try clear hb); (try clear ho0)) | ((with_reducible refine gate_callee (f := 75) rfl ?_); refine gL (some 16) Try.func75 #[.int .i64 a3, .int .i64 0, .int .i64 100000] ?_; (with_reducible refine (impl_InRange.calls a3 0 100000 true _ A6.out).mono ?_); rintro e w' ⟨rfl, ⟨nd, rfl⟩⟩; refine ⟨_, rfl, ?_⟩; obtain ⟨Ao9, co9, eo9⟩ := Kd.R_slice HO592.out; subst eo9))
  go_loopg [20] k (fun kq v20 w' => ∃ (x20_1 : Int), v20 = .int .i64 x20_1 ∧ Aside0 (impl_NextGreen.l0 kq a3 t590 (t590.length : Int) x20_1 = some r) ∧ Aside0 (kq ≤ k) ∧ Aside0 (Kd.R Kd.bool 4 w' w.heap.size (fun _ => True) (.slice Ao9 t590.length co9) t590) ∧ Aside0 (Below w.heap.size w w'))
  case atStart => exact ⟨(0), rS, H', ⟨Nat.le_refl _⟩, ⟨rK HO592⟩, ⟨bA⟩⟩
  case round =>
   clear H'
   obtain ⟨x20_1, rfl, HA, HK1, HO_9, HB⟩ := hrel
   cases gk with
   | zero => exact absurd HA.out (by simp [impl_NextGreen.l0])
   | succ k1 =>
    have H := HA.out
    clear HA
    simp only [impl_NextGreen.l0] at H
    by_cases c10 : x20_1 < (t590.length : Int)
    ·
     rw [if_pos c10] at H
     have c10b0 := decide_eq_true c10
     clear c10
     have c11 : ¬ ((t590.length : Int) = 0) := ifN' H
     replace H := ifT' H
     have c11b0 : ((t590.length : Int) == 0) = false := beq_eq_false_iff_ne.mpr c11
     have c11b1 : ((t590.length : Int) != 0) = true := bne_iff_ne.mpr c11
     have c11b2 : ¬ (t590 = []) := fun h_ => c11 (by rw [h_]; rfl)
     obtain ⟨ji12, hji12⟩ : ∃ j_ : Int, (Int.tmod (wrap64 (a3 + x20_1)) (t590.length : Int)) = j_ := ⟨_, rfl⟩
     replace H : (if 0 ≤ (ji12) then (if (ji12) < (t590.length : Int) then (if rdOf false t590 (ji12) = true then (some (wrap64 (a3 + x20_1))) else (impl_NextGreen.l0 k1 a3 t590 (t590.length : Int) (wrap64 (x20_1 + 1)))) else (none)) else (none)) = some r := by first | (rw [hji12] at H; exact H) | (simp only [hji12] at H ⊢; exact H)
     have c13 : 0 ≤ (ji12) := ifN H
     replace H := ifT H
     have c13b0 := decide_eq_true c13
     clear c13
     have c14 : (ji12) < (t590.length : Int) := ifN H
     replace H := ifT H
     have c14b0 := decide_eq_true c14
     clear c14
     obtain ⟨bq15, hbq15⟩ : ∃ b_ : Bool, b_ = (rdOf false t590 (ji12)) := ⟨_, rfl⟩
     replace H : (if bq15 = true then (some (wrap64 (a3 + x20_1))) else (impl_NextGreen.l0 k1 a3 t590 (t590.length : Int) (wrap64 (x20_1 + 1)))) = some r := by rw [← hbq15] at H; exact H
     have Nbq15 := Aside0.mk hbq15
     clear hbq15
     by_cases c16 : bq15 = true
     ·
      subst c16
      have H1 : (some (wrap64 (a3 + x20_1))) = some r := by rw [if_pos rfl] at H; exact H
      clear H
      have H := H1
      clear H1
      obtain rfl := Option.some.inj H
      obtain ⟨p594, q594⟩ : 0 ≤ ((ji12) : Int) ∧ (ji12) < (t590.length : Int) := ⟨dA, dA⟩
      obtain ⟨ad594, e594, hx594_0⟩ := Kd.at_bool (Kd.R_reads' HO_9.out).2.2 (ji12) p594 q594
      (try rw [← Nbq15.out] at hx594_0)
      cases e594
      obtain ⟨p594, q594⟩ := eT p594 q594
      go_wp2
      go_ret
      exact ⟨by first | rfl | (simp [errW_none, errW_some] <;> rfl) | (simp only [← hji12]; first | rfl | (simp [errW_none, errW_some] <;> rfl)) | (simp [*, errW_none, errW_some] <;> rfl), bA⟩
     replace c16 := Bool.eq_false_iff.mpr c16
     subst c16
     have H1 : (impl_NextGreen.l0 k1 a3 t590 (t590.length : Int) (wrap64 (x20_1 + 1))) = some r := by rw [if_neg (show ¬ (false = true) by decide)] at H; exact H
     clear H
     have H := H1
     clear H1
     have H' := Aside0.mk H
     clear H
     obtain ⟨p594, q594⟩ : 0 ≤ ((ji12) : Int) ∧ (ji12) < (t590.length : Int) := ⟨dA, dA⟩
     obtain ⟨ad594, e594, hx594_0⟩ := Kd.at_bool (Kd.R_reads' HO_9.out).2.2 (ji12) p594 q594
     (try rw [← Nbq15.out] at hx594_0)
     cases e594
     obtain ⟨p594, q594⟩ := eT p594 q594
     go_wp2
     go_roundg k1
     case measure => have := HK1.out; omega
     case rel => exact ⟨(wrap64 (x20_1 + 1)), rS, H', ⟨by have := HK1.out; omega⟩, ⟨rK HO_9⟩, ⟨bA⟩⟩
    rw [if_neg c10] at H
    have c10b0 := decide_eq_false c10
    clear c10
    obtain rfl := Option.some.inj H
    go_wp2
    go_ret
    exact ⟨rA, bA⟩
 replace c7 := Bool.eq_false_iff.mpr c7
 subst c7
 have H1 : (some (-1)) = some r := by rw [if_neg (show ¬ (false = true) by decide)] at H; exact H
 clear H
 have H := H1
 clear H1
 obtain rfl := Option.some.inj H
 go_enter Try.func12, Try.ntmps12
 go_wp2_with (first | ((with_reducible refine gate_callee (f := 74) rfl ?_); refine gL (some 14) Try.func74 #[.slice A0 l0.length c0, .slice A1 l1.length c1, .int .i64 a2] ?_; (with_reducible refine (impl_greens.calls k _ _ l0 _ _ l1 a2 t590 _ ?_ ?_ ?_ ?_ A5.out).mono ?_); exact cO HR0; exact HC0.out; exact cO HR1; exact HC1.out; rintro e w17 ⟨v591, rfl, ho0, hb⟩; refine ⟨_, rfl, ?_⟩; have HO592 := rl w ho0; replace HB := bs HB hb; (try clear hb); (try clear ho0)) | ((with_reducible refine gate_callee (f := 75) rfl ?_); refine gL (some 16) Try.func75 #[.int .i64 a3, .int .i64 0, .int .i64 100000] ?_; (with_reducible refine (impl_InRange.calls a3 0 100000 false _ A6.out).mono ?_); rintro e w' ⟨rfl, ⟨nd, rfl⟩⟩; refine ⟨_, rfl, ?_⟩))
 go_ret
 exact ⟨rA, bA⟩

/-! ### impl_WaitOf: function 13 -/
def impl_WaitOf.l0 : Nat → List Bool → Int → Int → Int → Int → Option (Int)
 | 0, _, _, _, _, _ => none
 | k + 1, x7, x8, x9, x17, x18 => if x18 < x17 then (if (x7.length : Int) = 0 then (none) else (if 0 ≤ (Int.tmod x18 (x7.length : Int)) then (if (Int.tmod x18 (x7.length : Int)) < (x7.length : Int) then (if rdOf false x7 (Int.tmod x18 (x7.length : Int)) = true then (impl_WaitOf.l0 k x7 (mx x8 0) 0 x17 (wrap64 (x18 + 1))) else (impl_WaitOf.l0 k x7 (mx x8 (wrap64 (x9 + 1))) (wrap64 (x9 + 1)) x17 (wrap64 (x18 + 1)))) else (none)) else (none))) else (some (mn x8 (x7.length : Int)))
def impl_WaitOf.f (k : Nat) (l0 : List (S50)) (l1 : List (S85)) (a2 : Int) : Option (Int) := (impl_greens.f k l0 l1 a2).bind fun t595 => (impl_WaitOf.l0 k t595 0 0 (wrap64 (2 * (t595.length : Int))) 0)
theorem impl_WaitOf.mono_l : ∀ k, (∀ y0 y1 y2 y3 y4, LeO (impl_WaitOf.l0 k y0 y1 y2 y3 y4) (impl_WaitOf.l0 (k + 1) y0 y1 y2 y3 y4))
 | 0 => fun _ _ _ _ _ r h => by simp [impl_WaitOf.l0] at h
 | k + 1 => by
  have ih0 := impl_WaitOf.mono_l k
  ·
   intro y0 y1 y2 y3 y4
   unfold impl_WaitOf.l0
   exact mz2 ih0 impl_greens.mono
theorem impl_WaitOf.mono : ∀ a0 a1 a2 k, LeO (impl_WaitOf.f k a0 a1 a2) (impl_WaitOf.f (k + 1) a0 a1 a2) := by
 intro a0 a1 a2 k
 have ih0 := impl_WaitOf.mono_l k
 unfold impl_WaitOf.f
 exact mz2 ih0 impl_greens.mono
set_option maxHeartbeats 8000000 in
set_option maxRecDepth 100000 in
theorem impl_WaitOf.calls (k : Nat) (A0 : Option Addr) (c0 : Nat) (l0 : List (S50)) (A1 : Option Addr) (c1 : Nat) (l1 : List (S85)) (a2 : Int) (r : Int) (w : World) (hr0 : Kd.C k50 w A0 l0.length l0) (hc0 : l0.length ≤ c0) (hr1 : Kd.C k85 w A1 l1.length l1) (hc1 : l1.length ≤ c1) (h : impl_WaitOf.f k l0 l1 a2 = some r) :
  Calls Try.prog 13 #[.slice A0 l0.length c0, .slice A1 l1.length c1, .int .i64 a2] w fun e w' => e = .returned (.int .i64 r) ∧ Below w.heap.size w w' := by
 have HR0 := Aside0.mk hr0
 have HC0 := Aside0.mk hc0
 clear hr0 hc0
 have HR1 := Aside0.mk hr1
 have HC1 := Aside0.mk hc1
 clear hr1 hc1
 have HB := Aside0.mk (Below.refl w.heap.size w)
 have H : ((impl_greens.f k l0 l1 a2).bind fun t595 => (impl_WaitOf.l0 k t595 0 0 (wrap64 (2 * (t595.length : Int))) 0)) = some r := h
 clear h
 obtain ⟨t595, A4, H⟩ := bindE H
 try dsimp only at H
 have H' := Aside0.mk H
 clear H
 go_enter Try.func13, Try.ntmps13
 go_wp2_with (first | ((with_reducible refine gate_callee (f := 74) rfl ?_); refine gL (some 14) Try.func74 #[.slice A0 l0.length c0, .slice A1 l1.length c1, .int .i64 a2] ?_; (with_reducible refine (impl_greens.calls k _ _ l0 _ _ l1 a2 t595 _ ?_ ?_ ?_ ?_ A4.out).mono ?_); exact cO HR0; exact HC0.out; exact cO HR1; exact HC1.out; rintro e w5 ⟨v596, rfl, ho0, hb⟩; refine ⟨_, rfl, ?_⟩; have HO597 := rl w ho0; replace HB := bs HB hb; (try clear hb); (try clear ho0); obtain ⟨Ao6, co6, eo6⟩ := Kd.R_slice HO597.out; subst eo6))
 go_loopg [8, 9, 18] k (fun kq v8 v9 v18 w' => ∃ (x8_1 : Int) (x9_1 : Int) (x18_1 : Int), v8 = .int .i64 x8_1 ∧ v9 = .int .i64 x9_1 ∧ v18 = .int .i64 x18_1 ∧ Aside0 (impl_WaitOf.l0 kq t595 x8_1 x9_1 (wrap64 (2 * (t595.length : Int))) x18_1 = some r) ∧ Aside0 (kq ≤ k) ∧ Aside0 (Kd.R Kd.bool 4 w' w.heap.size (fun _ => True) (.slice Ao6 t595.length co6) t595) ∧ Aside0 (Below w.heap.size w w'))
 case atStart => exact ⟨(0), (0), (0), rS, rS, rS, H', ⟨Nat.le_refl _⟩, ⟨rK HO597⟩, ⟨bA⟩⟩
 case round =>
  clear H'
  obtain ⟨x8_1, x9_1, x18_1, rfl, rfl, rfl, HA, HK1, HO_7, HB⟩ := hrel
  cases gk with
  | zero => exact absurd HA.out (by simp [impl_WaitOf.l0])
  | succ k1 =>
   have H := HA.out
   clear HA
   simp only [impl_WaitOf.l0] at H
   by_cases c7 : x18_1 < (wrap64 (2 * (t595.length : Int)))
   ·
    rw [if_pos c7] at H
    have c7b0 := decide_eq_true c7
    clear c7
    have c8 : ¬ ((t595.length : Int) = 0) := ifN' H
    replace H := ifT' H
    have c8b0 : ((t595.length : Int) == 0) = false := beq_eq_false_iff_ne.mpr c8
    have c8b1 : ((t595.length : Int) != 0) = true := bne_iff_ne.mpr c8
    have c8b2 : ¬ (t595 = []) := fun h_ => c8 (by rw [h_]; rfl)
    obtain ⟨ji9, hji9⟩ : ∃ j_ : Int, (Int.tmod x18_1 (t595.length : Int)) = j_ := ⟨_, rfl⟩
    replace H : (if 0 ≤ (ji9) then (if (ji9) < (t595.length : Int) then (if rdOf false t595 (ji9) = true then (impl_WaitOf.l0 k1 t595 (mx x8_1 0) 0 (wrap64 (2 * (t595.length : Int))) (wrap64 (x18_1 + 1))) else (impl_WaitOf.l0 k1 t595 (mx x8_1 (wrap64 (x9_1 + 1))) (wrap64 (x9_1 + 1)) (wrap64 (2 * (t595.length : Int))) (wrap64 (x18_1 + 1)))) else (none)) else (none)) = some r := by first | (rw [hji9] at H; exact H) | (simp only [hji9] at H ⊢; exact H)
    have c10 : 0 ≤ (ji9) := ifN H
    replace H := ifT H
    have c10b0 := decide_eq_true c10
    clear c10
    have c11 : (ji9) < (t595.length : Int) := ifN H
    replace H := ifT H
    have c11b0 := decide_eq_true c11
    clear c11
    obtain ⟨bq12, hbq12⟩ : ∃ b_ : Bool, b_ = (rdOf false t595 (ji9)) := ⟨_, rfl⟩
    replace H : (if bq12 = true then (impl_WaitOf.l0 k1 t595 (mx x8_1 0) 0 (wrap64 (2 * (t595.length : Int))) (wrap64 (x18_1 + 1))) else (impl_WaitOf.l0 k1 t595 (mx x8_1 (wrap64 (x9_1 + 1))) (wrap64 (x9_1 + 1)) (wrap64 (2 * (t595.length : Int))) (wrap64 (x18_1 + 1)))) = some r := by rw [← hbq12] at H; exact H
    have Nbq12 := Aside0.mk hbq12
    clear hbq12
    by_cases c13 : bq12 = true
    ·
     subst c13
     have H1 : (impl_WaitOf.l0 k1 t595 (mx x8_1 0) 0 (wrap64 (2 * (t595.length : Int))) (wrap64 (x18_1 + 1))) = some r := by rw [if_pos rfl] at H; exact H
     clear H
     have H := H1
     clear H1
     obtain ⟨ji14, hji14⟩ : ∃ j_ : Int, (mx x8_1 0) = j_ := ⟨_, rfl⟩
     replace H : (impl_WaitOf.l0 k1 t595 ji14 0 (wrap64 (2 * (t595.length : Int))) (wrap64 (x18_1 + 1))) = some r := by first | (rw [hji14] at H; exact H) | (simp only [hji14] at H ⊢; exact H)
     have hji14_ : (if x8_1 < 0 then 0 else x8_1) = ji14 := hji14
     have H' := Aside0.mk H
     clear H
     obtain ⟨p598, q598⟩ : 0 ≤ ((ji9) : Int) ∧ (ji9) < (t595.length : Int) := ⟨dA, dA⟩
     obtain ⟨ad598, e598, hx598_0⟩ := Kd.at_bool (Kd.R_reads' HO_7.out).2.2 (ji9) p598 q598
     (try rw [← Nbq12.out] at hx598_0)
     cases e598
     obtain ⟨p598, q598⟩ := eT p598 q598
     go_wp2
     go_roundg k1
     case measure => have := HK1.out; omega
     case rel => exact ⟨(ji14), (0), (wrap64 (x18_1 + 1)), (by first | rfl | (simp; done) | (simp only [← hji14] <;> (first | rfl | simp)) | (simp [*]; done)), rS, rS, H', ⟨by have := HK1.out; omega⟩, ⟨rK HO_7⟩, ⟨bA⟩⟩
    replace c13 := Bool.eq_false_iff.mpr c13
    subst c13
    have H1 : (impl_WaitOf.l0 k1 t595 (mx x8_1 (wrap64 (x9_1 + 1))) (wrap64 (x9_1 + 1)) (wrap64 (2 * (t595.length : Int))) (wrap64 (x18_1 + 1))) = some r := by rw [if_neg (show ¬ (false = true) by decide)] at H; exact H
    clear H
    have H := H1
    clear H1
    obtain ⟨ji15, hji15⟩ : ∃ j_ : Int, (mx x8_1 (wrap64 (x9_1 + 1))) = j_ := ⟨_, rfl⟩
    replace H : (impl_WaitOf.l0 k1 t595 ji15 (wrap64 (x9_1 + 1)) (wrap64 (2 * (t595.length : Int))) (wrap64 (x18_1 + 1))) = some r := by first | (rw [hji15] at H; exact H) | (simp only [hji15] at H ⊢; exact H)
    have hji15_ : (if x8_1 < (wrap64 (x9_1 + 1)) then (wrap64 (x9_1 + 1)) else x8_1) = ji15 := hji15
    have H' := Aside0.mk H
    clear H
    obtain ⟨p598, q598⟩ : 0 ≤ ((ji9) : Int) ∧ (ji9) < (t595.length : Int) := ⟨dA, dA⟩
    obtain ⟨ad598, e598, hx598_0⟩ := Kd.at_bool (Kd.R_reads' HO_7.out).2.2 (ji9) p598 q598
    (try rw [← Nbq12.out] at hx598_0)
    cases e598
    obtain ⟨p598, q598⟩ := eT p598 q598
    go_wp2
    go_roundg k1
    case measure => have := HK1.out; omega
    case rel => exact ⟨(ji15), (wrap64 (x9_1 + 1)), (wrap64 (x18_1 + 1)), (by first | rfl | (simp; done) | (simp only [← hji15] <;> (first | rfl | simp)) | (simp [*]; done)), rS, rS, H', ⟨by have := HK1.out; omega⟩, ⟨rK HO_7⟩, ⟨bA⟩⟩
   rw [if_neg c7] at H
   have c7b0 := decide_eq_false c7
   clear c7
   obtain ⟨ji16, hji16⟩ : ∃ j_ : Int, (mn x8_1 (t595.length : Int)) = j_ := ⟨_, rfl⟩
   replace H : (some ji16) = some r := by first | (rw [hji16] at H; exact H) | (simp only [hji16] at H ⊢; exact H)
   have hji16_ : (if (t595.length : Int) < x8_1 then (t595.length : Int) else x8_1) = ji16 := hji16
   obtain rfl := Option.some.inj H
   go_wp2
   go_ret
   exact ⟨by first | rfl | (simp [errW_none, errW_some] <;> rfl) | (simp only [← hji16]; first | rfl | (simp [errW_none, errW_some] <;> rfl)) | (simp [*, errW_none, errW_some] <;> rfl), bA⟩

/-! ### spec_l13Calls: function 83 -/
def spec_l13Calls.l0 : Nat → List (S114) → Int → List Int → Int → Int → Option ((List (S114)) × Int × Int)
 | 0, _, _, _, _, _ => none
 | k + 1, x3, x4, x1000, x1001, x1002 => if x4 > 0 then ((spec_l1Below.f x1000 x1001 x1002 7).bind fun bt605 => ((spec_l1Below.f x1000 bt605.2.1 bt605.2.2 80).bind fun bt608 => (if x3.length < 8796093022208 then (spec_l13Calls.l0 k (x3 ++ [(⟨wrap64 (1 + bt605.1), bt608.1⟩ : S114)]) (wrap64 (x4 - 1)) x1000 bt608.2.1 bt608.2.2) else (none)))) else (if (x3.length : Int) > 0 then ((spec_l1Once.f x1000 x1001 x1002 8).bind fun bt614 => (if bt614.1 = true then ((spec_l1Int.f x1000 bt614.2.1 bt614.2.2 (([(-1), 100000, 100001] : List Int))).bind fun bt620 => (if 0 < (x3.length : Int) then (some ((x3.set (0 : Int).toNat (⟨(rd_T114 x3 0).f0, bt620.1⟩ : S114)), bt620.2.1, bt620.2.2)) else (none))) else (some (x3, bt614.2.1, bt614.2.2)))) else (some (x3, x1001, x1002)))
def spec_l13Calls.f (k : Nat) (s0_0 : List Int) (s0_1 : Int) (s0_2 : Int) : Option ((List (S114)) × Int × Int) := (spec_l1Below.f s0_0 s0_1 s0_2 6).bind fun bt602 => (spec_l13Calls.l0 k (([] : List (S114))) bt602.1 s0_0 bt602.2.1 bt602.2.2)
theorem spec_l13Calls.mono_l : ∀ k, (∀ y0 y1 y2 y3 y4, LeO (spec_l13Calls.l0 k y0 y1 y2 y3 y4) (spec_l13Calls.l0 (k + 1) y0 y1 y2 y3 y4))
 | 0 => fun _ _ _ _ _ r h => by simp [spec_l13Calls.l0] at h
 | k + 1 => by
  have ih0 := spec_l13Calls.mono_l k
  ·
   intro y0 y1 y2 y3 y4
   unfold spec_l13Calls.l0
   exact mz1 ih0
theorem spec_l13Calls.mono : ∀ a0 a1 a2 k, LeO (spec_l13Calls.f k a0 a1 a2) (spec_l13Calls.f (k + 1) a0 a1 a2) := by
 intro a0 a1 a2 k
 have ih0 := spec_l13Calls.mono_l k
 unfold spec_l13Calls.f
 exact mz1 ih0
set_option maxHeartbeats 8000000 in
set_option maxRecDepth 100000 in
theorem spec_l13Calls.calls (k : Nat) (g : Nat) (s0_0 : List Int) (s0_1 : Int) (s0_2 : Int) (r1 : List (S114)) (r2 : Int) (r3 : Int) (w0 w : World) (hI : IsS138 w0 w g s0_0 s0_1 s0_2) (hB : Below w0.heap.size w0 w) (h : spec_l13Calls.f k s0_0 s0_1 s0_2 = some (r1, r2, r3)) :
  Calls Try.prog 83 #[.pointer (some ⟨g, 0, none⟩)] w fun e w' => ∃ v0_ : Value, e = .returned (v0_) ∧ Kd.R k114 114 w' w.heap.size (fun _ => True) v0_ r1 ∧ IsS138 w0 w' g s0_0 r2 r3 ∧ Below w0.heap.size w0 w' ∧ KeepBut w w' g none := by
 have hu114 := Try.underlying114
 have HI0 := Aside0.mk hI
 have HK := Aside0.mk (KeepBut.refl w g none)
 have HL := Aside0.mk hB.size
 clear hI
 have HW0 := Aside0.mk hB.size
 have HB := Aside0.mk hB
 clear hB
 have H : ((spec_l1Below.f s0_0 s0_1 s0_2 6).bind fun bt602 => (spec_l13Calls.l0 k (([] : List (S114))) bt602.1 s0_0 bt602.2.1 bt602.2.2)) = some (r1, r2, r3) := h
 clear h
 obtain ⟨y599, hy599⟩ : ∃ y_ : List (S114), y_ = (([] : List (S114))) := ⟨_, rfl⟩
 replace H : ((spec_l1Below.f s0_0 s0_1 s0_2 6).bind fun bt602 => (spec_l13Calls.l0 k y599 bt602.1 s0_0 bt602.2.1 bt602.2.2)) = some (r1, r2, r3) := rH H hy599
 have Ny599 := Aside0.mk hy599
 clear hy599
 obtain ⟨⟨t602, t603, t604⟩, A2, H⟩ := bindE H
 try dsimp only at H
 have H' := Aside0.mk H
 clear H
 go_enter Try.func83, Try.ntmps83
 go_wp2_with (first | ((with_reducible refine gate_dst (N := 5) rfl ?_); refine Kd.R_lit k114 _ 114 ?hg (N := 5) ?hd (xs := ([] : List (S114))) (inner := []) (ok := fun _ => True) (okp := fun _ => True) ?hr ?hp (fun _ hk => hk) trivial (Below.refl _ _) (Nat.le_refl _) (by simp) ?_; (case hd => rfl); (case hg => rfl); (case hr => first | (go_simp; done) | (go_simp; rfl)); (case hp => exact (Reps.none _ _)); intro v600 w3 ho4 hb hg_ hnew_; clear hg_ hnew_; (first | rw [← Ny599.out] at ho4 | (simp only [Int.reduceToNat] at ho4; rw [← Ny599.out] at ho4)); have HO601 := Aside0.mk (Kd.R_lower ho4 (keep_size (w := w) (g := g) (row := none) (by exact sK0 HK.out))); replace HK := Aside0.mk (KeepBut.trans (by exact sK0 HK.out) (KeepBut.of_below hb g none) (.inl rfl)); replace HB := Aside0.mk (below_step (by exact sB1 HB.out (IsS138.ge HI0.out)) hb); replace HI0 := Aside0.mk (IsS138.below (by exact sI1380 HI0.out) hb); clear hb ho4) | ((with_reducible refine gate_callee (f := 84) rfl ?_); refine gL (some 7) Try.func84 #[.pointer (some ⟨g, 0, none⟩), .int .i64 6] ?_; (with_reducible refine (spec_l1Below.calls g s0_0 s0_1 s0_2 6 t602 t603 t604 w0 _ ?_ ?_ A2.out).mono ?_); exact sI1380 HI0.out; exact sB1 HB.out (IsS138.ge HI0.out); rintro e w5 ⟨rfl, hi, hb, hk⟩; refine ⟨_, rfl, ?_⟩; replace HO601 := Aside0.mk (Kd.R_mono (Kd.R_keep (IsS138.apart (show IsS138 w0 _ g s0_0 s0_1 s0_2 from by exact sI1380 HI0.out) (rK HO601) (by decide)) hk (fun _ h => h.2)) (fun _ h => h.1)); replace HK := Aside0.mk (KeepBut.trans (by exact sK0 HK.out) hk (.inl rfl)); replace HB := Aside0.mk (hb); replace HI0 := Aside0.mk (hi); (try clear hb); (try clear hk); (try clear hi)))
 go_loopg [3, 4] k (fun kq v3 v4 w' => ∃ (x3_1 : List (S114)) (x4_1 : Int) (x1001_1 : Int) (x1002_1 : Int), v4 = .int .i64 x4_1 ∧ Aside0 (spec_l13Calls.l0 kq x3_1 x4_1 s0_0 x1001_1 x1002_1 = some (r1, r2, r3)) ∧ Aside0 (kq ≤ k) ∧ Aside0 (Kd.R k114 114 w' w.heap.size (fun _ => True) v3 x3_1) ∧ Aside0 (IsS138 w0 w' g s0_0 x1001_1 x1002_1) ∧ Aside0 (KeepBut w w' g none) ∧ Aside0 (Below w0.heap.size w0 w'))
 case atStart => exact ⟨(y599), (t602), (t603), (t604), rS, H', ⟨Nat.le_refl _⟩, ⟨rK HO601⟩, ⟨by exact sI1380 HI0.out⟩, ⟨by exact sK0 HK.out⟩, ⟨by exact sB1 HB.out (IsS138.ge HI0.out)⟩⟩
 case round =>
  clear H'
  obtain ⟨x3_1, x4_1, x1001_1, x1002_1, rfl, HA, HK1, HO_3, HI0, HK, HB⟩ := hrel
  cases gk with
  | zero => exact absurd HA.out (by simp [spec_l13Calls.l0])
  | succ k1 =>
   have H := HA.out
   clear HA
   simp only [spec_l13Calls.l0] at H
   by_cases c6 : x4_1 > 0
   ·
    rw [if_pos c6] at H
    have c6b0 := decide_eq_true c6
    clear c6
    obtain ⟨⟨t605, t606, t607⟩, A7, H⟩ := bindE H
    try dsimp only at H
    obtain ⟨⟨t608, t609, t610⟩, A8, H⟩ := bindE H
    try dsimp only at H
    have c9 : x3_1.length < 8796093022208 := ifN H
    replace H := ifT H
    have LMc9 := Aside0.mk c9
    clear c9
    obtain ⟨y611, hy611⟩ : ∃ y_ : List (S114), y_ = (x3_1 ++ [(⟨wrap64 (1 + t605), t608⟩ : S114)]) := ⟨_, rfl⟩
    replace H : (spec_l13Calls.l0 k1 y611 (wrap64 (x4_1 - 1)) s0_0 t609 t610) = some (r1, r2, r3) := rH H hy611
    have Ny611 := Aside0.mk hy611
    clear hy611
    have H' := Aside0.mk H
    clear H
    go_wp2_with (first | ((with_reducible refine gate_callee (f := 84) rfl ?_); refine gL (some 14) Try.func84 #[.pointer (some ⟨g, 0, none⟩), .int .i64 7] ?_; (with_reducible refine (spec_l1Below.calls g s0_0 x1001_1 x1002_1 7 t605 t606 t607 w0 _ ?_ ?_ A7.out).mono ?_); exact sI1380 HI0.out; exact sB1 HB.out (IsS138.ge HI0.out); rintro e w10 ⟨rfl, hi, hb, hk⟩; refine ⟨_, rfl, ?_⟩; replace HO_3 := Aside0.mk (Kd.R_mono (Kd.R_keep (IsS138.apart (show IsS138 w0 _ g s0_0 x1001_1 x1002_1 from by exact sI1380 HI0.out) (rK HO_3) (by decide)) hk (fun _ h => h.2)) (fun _ h => h.1)); replace HK := Aside0.mk (KeepBut.trans (by exact sK0 HK.out) hk (.inl rfl)); replace HB := Aside0.mk (hb); replace HI0 := Aside0.mk (hi); (try clear hb); (try clear hk); (try clear hi)) | ((with_reducible refine gate_callee (f := 84) rfl ?_); refine gL (some 17) Try.func84 #[.pointer (some ⟨g, 0, none⟩), .int .i64 80] ?_; (with_reducible refine (spec_l1Below.calls g s0_0 t606 t607 80 t608 t609 t610 w0 _ ?_ ?_ A8.out).mono ?_); exact sI1380 HI0.out; exact sB1 HB.out (IsS138.ge HI0.out); rintro e w11 ⟨rfl, hi, hb, hk⟩; refine ⟨_, rfl, ?_⟩; replace HO_3 := Aside0.mk (Kd.R_mono (Kd.R_keep (IsS138.apart (show IsS138 w0 _ g s0_0 t606 t607 from by exact sI1380 HI0.out) (rK HO_3) (by decide)) hk (fun _ h => h.2)) (fun _ h => h.1)); replace HK := Aside0.mk (KeepBut.trans (by exact sK0 HK.out) hk (.inl rfl)); replace HB := Aside0.mk (hb); replace HI0 := Aside0.mk (hi); (try clear hb); (try clear hk); (try clear hi)) | ((with_reducible refine gate_builtin (b := .append) (xs := #[.tmp 12, .tmp 19]) rfl ?_); at_builtin; refine Kd.R_append k114 w.heap.size rfl (.tmp 12) (.tmp 19) 32 114 (.agg #[(.int .i64 0), (.int .i64 0)]) 16 rfl Try.underlying32 info114 rfl (by decide) (by omega) u3 x3_1 (⟨wrap64 (1 + t605), t608⟩ : S114) [.int .i64 (wrap64 (1 + t605)), .int .i64 t608] (fun _ => True) (fun _ => False) rfl rfl ?aP (fun _ hk => hk.elim) ?aF ?aO (Below.refl _ _) ?aS ?aL ?_; (case aP => exact k114_mkM _ _ _ (⟨wrap64 (1 + t605), t608⟩ : S114)); (case aF => exact (fun _ _ => trivial)); (case aO => exact (rK HO_3)); (case aS => exact (keep_size (w := w) (g := g) (row := none) (by exact sK0 HK.out))); (case aL => have := LMc9.out; omega); intro v612 w12 ho hb hg hat; rw [← Ny611.out] at ho; have n0_ := Aside0.mk (IsS138.grown (by exact sI1380 HI0.out) hg (IsS138.own_ne HI0.out HO_3.out (by decide))); have n1_ := Aside0.mk (below_weaken (by exact sB1 HB.out (IsS138.ge HI0.out)) HL.out hb); have n2_ := Aside0.mk (KeepBut.trans (by exact sK0 HK.out) (KeepBut.of_grown hg g) (Kd.R_base2 HO_3.out)); have n3_ := Aside0.mk (ho); clear HI0; clear HB; clear HK; clear HO_3; have HI0 := n0_; have HB := n1_; have HK := n2_; have HO613 := n3_; clear n0_ n1_ n2_ n3_; clear ho hb hg hat))
    go_roundg k1
    case measure => have := HK1.out; omega
    case rel => exact ⟨(y611), (wrap64 (x4_1 - 1)), (t609), (t610), rS, H', ⟨by have := HK1.out; omega⟩, ⟨rK HO613⟩, ⟨by exact sI1380 HI0.out⟩, ⟨by exact sK0 HK.out⟩, ⟨by exact sB1 HB.out (IsS138.ge HI0.out)⟩⟩
   rw [if_neg c6] at H
   have c6b0 := decide_eq_false c6
   clear c6
   by_cases c13 : (x3_1.length : Int) > 0
   ·
    rw [if_pos c13] at H
    have c13b0 := decide_eq_true c13
    have c13b1 : decide (0 < x3_1.length) = true := decide_eq_true (by omega)
    clear c13
    obtain ⟨⟨t614, t615, t616⟩, A14, H⟩ := bindE H
    try dsimp only at H
    by_cases c15 : t614 = true
    ·
     subst c15
     have H1 : ((spec_l1Int.f s0_0 t615 t616 (([(-1), 100000, 100001] : List Int))).bind fun bt620 => (if 0 < (x3_1.length : Int) then (some ((x3_1.set (0 : Int).toNat (⟨(rd_T114 x3_1 0).f0, bt620.1⟩ : S114)), bt620.2.1, bt620.2.2)) else (none))) = some (r1, r2, r3) := by rw [if_pos rfl] at H; exact H
     clear H
     have H := H1
     clear H1
     obtain ⟨y617, hy617⟩ : ∃ y_ : List Int, y_ = (([(-1), 100000, 100001] : List Int)) := ⟨_, rfl⟩
     replace H : ((spec_l1Int.f s0_0 t615 t616 y617).bind fun bt620 => (if 0 < (x3_1.length : Int) then (some ((x3_1.set (0 : Int).toNat (⟨(rd_T114 x3_1 0).f0, bt620.1⟩ : S114)), bt620.2.1, bt620.2.2)) else (none))) = some (r1, r2, r3) := rH H hy617
     have Ny617 := Aside0.mk hy617
     clear hy617
     obtain ⟨⟨t620, t621, t622⟩, A16, H⟩ := bindE H
     try dsimp only at H
     have c17 : 0 < (x3_1.length : Int) := ifN H
     replace H := ifT H
     have c17b0 := decide_eq_true c17
     have c17b1 : decide (0 < x3_1.length) = true := decide_eq_true (by omega)
     clear c17
     obtain ⟨y623, hy623⟩ : ∃ y_ : List (S114), y_ = (x3_1.set (0 : Int).toNat (⟨(rd_T114 x3_1 0).f0, t620⟩ : S114)) := ⟨_, rfl⟩
     replace H : (some (y623, t621, t622)) = some (r1, r2, r3) := rH H hy623
     have Ny623 := Aside0.mk hy623
     clear hy623
     simp only [Option.some.injEq, Prod.mk.injEq] at H
     obtain ⟨rfl, rfl, rfl⟩ := H
     obtain ⟨Ao19, co19, eo19⟩ := Kd.R_slice HO_3.out
     subst eo19
     go_wp2_with (first | (go_at_call 93; (with_reducible refine (spec_l1Once.calls g s0_0 x1001_1 x1002_1 8 true t615 t616 w0 _ ?_ ?_ A14.out).mono ?_); exact sI1380 HI0.out; exact sB1 HB.out (IsS138.ge HI0.out); rintro e w20 ⟨rfl, hi, hb, hk⟩; replace HO_3 := Aside0.mk (Kd.R_mono (Kd.R_keep (IsS138.apart (show IsS138 w0 _ g s0_0 x1001_1 x1002_1 from by exact sI1380 HI0.out) (rK HO_3) (by decide)) hk (fun _ h => h.2)) (fun _ h => h.1)); replace HK := Aside0.mk (KeepBut.trans (by exact sK0 HK.out) hk (.inl rfl)); replace HB := Aside0.mk (hb); replace HI0 := Aside0.mk (hi); (try clear hb); (try clear hk); (try clear hi)) | ((with_reducible refine gate_dst (N := 30) rfl ?_); refine Kd.R_lit (Kd.int .i64) _ 3 ?hg (N := 30) ?hd (xs := ([(-1), 100000, 100001] : List Int)) (inner := [.int .i64 (-1), .int .i64 100000, .int .i64 100001]) (ok := fun _ => True) (okp := fun _ => True) ?hr ?hp (fun _ hk => hk) trivial (Below.refl _ _) (Nat.le_refl _) (by simp) ?_; (case hd => rfl); (case hg => rfl); (case hr => first | (go_simp; done) | (go_simp; rfl)); (case hp => exact (Reps.one (show Kd.M (Kd.int .i64) _ _ _ (-1) [.int .i64 (-1)] from rfl) (Reps.one (show Kd.M (Kd.int .i64) _ _ _ 100000 [.int .i64 100000] from rfl) (Reps.one (show Kd.M (Kd.int .i64) _ _ _ 100001 [.int .i64 100001] from rfl) (Reps.none _ _))))); intro v618 w21 ho22 hb hg_ hnew_; clear hg_ hnew_; (first | rw [← Ny617.out] at ho22 | (simp only [Int.reduceToNat] at ho22; rw [← Ny617.out] at ho22)); replace HO_3 := rb HO_3 hb; have HO619 := Aside0.mk (Kd.R_lower ho22 (keep_size (w := w) (g := g) (row := none) (by exact sK0 HK.out))); replace HK := Aside0.mk (KeepBut.trans (by exact sK0 HK.out) (KeepBut.of_below hb g none) (.inl rfl)); replace HB := Aside0.mk (below_step (by exact sB1 HB.out (IsS138.ge HI0.out)) hb); replace HI0 := Aside0.mk (IsS138.below (by exact sI1380 HI0.out) hb); clear hb ho22; obtain ⟨Ao23, co23, eo23⟩ := Kd.R_slice HO619.out; subst eo23) | ((with_reducible refine gate_callee (f := 94) rfl ?_); refine gL (some 31) Try.func94 #[.pointer (some ⟨g, 0, none⟩), .slice Ao23 y617.length co23] ?_; (with_reducible refine (spec_l1Int.calls g s0_0 t615 t616 _ _ y617 t620 t621 t622 w0 _ ?_ ?_ ?_ ?_ ?_ A16.out).mono ?_); exact sI1380 HI0.out; exact sB1 HB.out (IsS138.ge HI0.out); exact cO ⟨(Kd.R_reads' HO619.out).2.2⟩; exact (Kd.R_reads' HO619.out).2.1; exact far_slice (IsS138.own_ne HI0.out HO619.out (by decide)); rintro e w24 ⟨rfl, hi, hb, hk⟩; refine ⟨_, rfl, ?_⟩; replace HO_3 := Aside0.mk (Kd.R_mono (Kd.R_keep (IsS138.apart (show IsS138 w0 _ g s0_0 t615 t616 from by exact sI1380 HI0.out) (rK HO_3) (by decide)) hk (fun _ h => h.2)) (fun _ h => h.1)); replace HO619 := Aside0.mk (Kd.R_mono (Kd.R_keep (IsS138.apart (show IsS138 w0 _ g s0_0 t615 t616 from by exact sI1380 HI0.out) (rK HO619) (by decide)) hk (fun _ h => h.2)) (fun _ h => h.1)); replace HK := Aside0.mk (KeepBut.trans (by exact sK0 HK.out) hk (.inl rfl)); replace HB := Aside0.mk (hb); replace HI0 := Aside0.mk (hi); (try clear hb); (try clear hk); (try clear hi); have p18 : 0 ≤ (0 : Int) := (by omega); have q18 : (0 : Int) < ((x3_1.length : Int) : Int) := dA; have qi18 : (0 < x3_1.length) = True := eq_true (by omega); obtain ⟨go18, co18, eo18, gb18, gl18, cl18, HG18⟩ := Kd.R_form HO_3.out (by omega); (first | cases eo18 | (injection eo18 with ea_ en_ ec_; (first | subst ea_ | (injection ea_ with ea_; subst ea_)); subst ec_; clear en_)); have GB18 := Aside0.mk gb18; have GG18 := Aside0.mk HG18; clear gb18 gl18 HG18; obtain ⟨ce18, hcl18, hM18, hcc18, hfr18⟩ := Kd.R_elem HO_3.out z114 (0 : Int) p18 q18; obtain rfl := k114_openM hM18; have hx18_0 : w24.cell? ⟨go18, (0 : Int).toNat * 2, none⟩ = some (.int .i64 ((rd_T114 x3_1 0).f0)) := hcc18 0 _ rfl; have hx18_1 : w24.cell? ⟨go18, (0 : Int).toNat * 2 + 1, none⟩ = some (.int .i64 ((rd_T114 x3_1 0).f1)) := hcc18 1 _ rfl; have hf18_0 : w24.frozen? ⟨go18, (0 : Int).toNat * 2, none⟩ = false := hfr18 0; have hf18_1 : w24.frozen? ⟨go18, (0 : Int).toNat * 2 + 1, none⟩ = false := hfr18 1; clear hcl18 hcc18 hfr18 hM18; (try rw [show ((0 : Int)).toNat = 0 from rfl] at hx18_0); (try simp only [Nat.reduceMul, Nat.zero_mul, Nat.zero_add, Nat.reduceAdd] at hx18_0); (try rw [show ((0 : Int)).toNat = 0 from rfl] at hf18_0); (try simp only [Nat.reduceMul, Nat.zero_mul, Nat.zero_add, Nat.reduceAdd] at hf18_0); (try rw [show ((0 : Int)).toNat = 0 from rfl] at hx18_1); (try simp only [Nat.reduceMul, Nat.zero_mul, Nat.zero_add, Nat.reduceAdd] at hx18_1); (try rw [show ((0 : Int)).toNat = 0 from rfl] at hf18_1); (try simp only [Nat.reduceMul, Nat.zero_mul, Nat.zero_add, Nat.reduceAdd] at hf18_1); replace p18 := eq_true p18; replace q18 := eq_true q18; have HX25 := Aside0.mk (show Kd.R k114 114 w24 w.heap.size (fun _ => True) (.slice (some ⟨go18, 0, none⟩) x3_1.length co19) x3_1 from (rK HO_3)); obtain ⟨ce25, hcl25, hM25, hcc25, hfr25⟩ := Kd.R_elem HX25.out z114 (0 : Int) (by omega) (by have h_ : (0 : Int) < ((x3_1.length : Int) : Int) := dA; first | exact h_ | (have e_ := (Kd.R_reads' HO_3.out).1; omega) | simpa using h_); obtain rfl := k114_openM hM25; have HP25 := Kd.R_seg HX25.out (0 : Int) (by omega) (by have h_ : (0 : Int) < ((x3_1.length : Int) : Int) := dA; first | exact h_ | (have e_ := (Kd.R_reads' HO_3.out).1; omega) | simpa using h_) (seg := [.int .i64 t620]) (j := 1) hcl25 hcc25 (show 2 ≤ 2 from by decide) (x' := (⟨(rd_T114 x3_1 0).f0, t620⟩ : S114)) (k114_mkM _ _ _ (⟨(rd_T114 x3_1 0).f0, t620⟩ : S114) ) (fun _ hk => hk); have hx25_1 := hcc25 1 _ rfl; (try simp only [show (k114).sz = 2 from rfl, Nat.mul_one, Nat.add_zero] at hx25_1); (try rw [show ((0 : Int)).toNat = 0 from rfl] at hx25_1); (try simp only [Nat.reduceMul, Nat.zero_mul, Nat.zero_add, Nat.reduceAdd] at hx25_1); have hf25_1 := hfr25 1; (try simp only [show (k114).sz = 2 from rfl, Nat.mul_one, Nat.add_zero] at hf25_1); (try rw [show ((0 : Int)).toNat = 0 from rfl] at hf25_1); (try simp only [Nat.reduceMul, Nat.zero_mul, Nat.zero_add, Nat.reduceAdd] at hf25_1); clear hcl25 hcc25 hfr25 hM25) | ((with_reducible refine gate_store (t := 3) (p := 33) rfl ?_); refine store_event (t := 3) (p := 33) (v := ?vo_w26) (w1 := (w24.setCell ⟨go18, 1, none⟩ (.int .i64 t620))) ?hg ?ho ?hn ?hr ?_; (case ho => rfl); (case hg => rfl); (case hn => rfl); (case hr => first | (go_simp; done) | (go_simp; rfl)); intro w26 hw; have hg : w24.grownBy w26 (some go18) := (by rw [hw]; exact HP25.2); have hp_ : Kd.R k114 114 w26 w.heap.size (fun _ => True) (.slice (some ⟨go18, 0, none⟩) x3_1.length co19) y623 := (by rw [hw, Ny623.out]; exact HP25.1); clear HP25; have n0_ := Aside0.mk (hp_); have n1_ := Aside0.mk (IsS138.grown (by exact sI1380 HI0.out) hg (IsS138.own_ne HI0.out HO_3.out (by decide))); have n2_ := Aside0.mk (Kd.R_over' (v := (.slice (some ⟨go18, 0, none⟩) x3_1.length co19)) (rK HO619) (Kd.R_typed HO_3.out) (by decide) hg); have n3_ := Aside0.mk ((by rw [hw]; exact below_set (HB.out) (Nat.le_trans HL.out GB18.out) : Below w0.heap.size w0 w26)); have n4_ := Aside0.mk (KeepBut.trans (by exact sK0 HK.out) (KeepBut.of_grown hg g) (Kd.R_base2 HO_3.out)); clear HO_3; clear HI0; clear HO619; clear HB; clear HK; have HO_3 := n0_; have HI0 := n1_; have HO619 := n2_; have HB := n3_; have HK := n4_; clear n0_ n1_ n2_ n3_ n4_; clear hg hw hp_))
     go_ret
     exact ⟨_, rA, rK HO_3, by exact sI1380 HI0.out, by exact sB1 HB.out (IsS138.ge HI0.out), by exact sK0 HK.out⟩
    replace c15 := Bool.eq_false_iff.mpr c15
    subst c15
    have H1 : (some (x3_1, t615, t616)) = some (r1, r2, r3) := by rw [if_neg (show ¬ (false = true) by decide)] at H; exact H
    clear H
    have H := H1
    clear H1
    simp only [Option.some.injEq, Prod.mk.injEq] at H
    obtain ⟨rfl, rfl, rfl⟩ := H
    obtain ⟨Ao27, co27, eo27⟩ := Kd.R_slice HO_3.out
    subst eo27
    go_wp2_with (first | (go_at_call 93; (with_reducible refine (spec_l1Once.calls g s0_0 x1001_1 x1002_1 8 false t615 t616 w0 _ ?_ ?_ A14.out).mono ?_); exact sI1380 HI0.out; exact sB1 HB.out (IsS138.ge HI0.out); rintro e w28 ⟨rfl, hi, hb, hk⟩; replace HO_3 := Aside0.mk (Kd.R_mono (Kd.R_keep (IsS138.apart (show IsS138 w0 _ g s0_0 x1001_1 x1002_1 from by exact sI1380 HI0.out) (rK HO_3) (by decide)) hk (fun _ h => h.2)) (fun _ h => h.1)); replace HK := Aside0.mk (KeepBut.trans (by exact sK0 HK.out) hk (.inl rfl)); replace HB := Aside0.mk (hb); replace HI0 := Aside0.mk (hi); (try clear hb); (try clear hk); (try clear hi)))
    go_ret
    exact ⟨_, rA, rK HO_3, by exact sI1380 HI0.out, by exact sB1 HB.out (IsS138.ge HI0.out), by exact sK0 HK.out⟩
   rw [if_neg c13] at H
   have c13b0 := decide_eq_false c13
   have c13b1 : decide (0 < x3_1.length) = false := decide_eq_false (by omega)
   clear c13
   simp only [Option.some.injEq, Prod.mk.injEq] at H
   obtain ⟨rfl, rfl, rfl⟩ := H
   obtain ⟨Ao29, co29, eo29⟩ := Kd.R_slice HO_3.out
   subst eo29
   go_wp2
   go_ret
   exact ⟨_, rA, rK HO_3, by exact sI1380 HI0.out, by exact sB1 HB.out (IsS138.ge HI0.out), by exact sK0 HK.out⟩

/-! ### spec_DrawServedAt: function 17 -/
def spec_DrawServedAt.f (k : Nat) (l0 : List Int) : Option ((List (S50)) × (List (S85)) × (List (S114))) := (spec_l1New.f k l0).bind fun bt624 => ((spec_l8Any.f k bt624.1 bt624.2.1 bt624.2.2).bind fun bt628 => ((spec_l13Calls.f k bt624.1 bt628.2.2.1 bt628.2.2.2).bind fun bt636 => (some (bt628.1, bt628.2.1, bt636.1))))
theorem spec_DrawServedAt.mono : ∀ a0 k, LeO (spec_DrawServedAt.f k a0) (spec_DrawServedAt.f (k + 1) a0) := by
 intro a0 k
 unfold spec_DrawServedAt.f
 exact mz3 spec_l13Calls.mono spec_l1New.mono spec_l8Any.mono
set_option maxHeartbeats 8000000 in
set_option maxRecDepth 100000 in
theorem spec_DrawServedAt.calls (k : Nat) (A0 : Option Addr) (c0 : Nat) (l0 : List Int) (r1 : List (S50)) (r2 : List (S85)) (r3 : List (S114)) (w : World) (hr0 : Kd.C (Kd.int .u8) w A0 l0.length l0) (hc0 : l0.length ≤ c0) (h : spec_DrawServedAt.f k l0 = some (r1, r2, r3)) :
  Calls Try.prog 17 #[.slice A0 l0.length c0] w fun e w' => ∃ v0_ v1_ v2_ : Value, e = .returned (.tuple #[v0_, v1_, v2_]) ∧ Kd.R k50 50 w' w.heap.size (fun k_ => (w.heap.size ≤ k_)) v0_ r1 ∧ Kd.V k85 85 w' w.heap.size (fun k_ => (w.heap.size ≤ k_) ∧ some k_ ≠ (v0_ : Value).ownBlock ∧ some k_ ≠ (v2_ : Value).ownBlock) v1_ r2 ∧ Kd.R k114 114 w' w.heap.size (fun k_ => (w.heap.size ≤ k_)) v2_ r3 ∧ Below w.heap.size w w' := by
 have HR0 := Aside0.mk hr0
 have HC0 := Aside0.mk hc0
 clear hr0 hc0
 have HB := Aside0.mk (Below.refl w.heap.size w)
 have H : ((spec_l1New.f k l0).bind fun bt624 => ((spec_l8Any.f k bt624.1 bt624.2.1 bt624.2.2).bind fun bt628 => ((spec_l13Calls.f k bt624.1 bt628.2.2.1 bt628.2.2.2).bind fun bt636 => (some (bt628.1, bt628.2.1, bt636.1))))) = some (r1, r2, r3) := h
 clear h
 obtain ⟨⟨t624, t625, t626⟩, A2, H⟩ := bindE H
 try dsimp only at H
 obtain ⟨⟨t628, t631, t634, t635⟩, A3, H⟩ := bindE H
 try dsimp only at H
 obtain ⟨⟨t636, t639, t640⟩, A4, H⟩ := bindE H
 try dsimp only at H
 simp only [Option.some.injEq, Prod.mk.injEq] at H
 obtain ⟨rfl, rfl, rfl⟩ := H
 go_enter Try.func17, Try.ntmps17
 go_wp2_with (first | ((with_reducible refine gate_callee (f := 81) rfl ?_); refine gL (some 9) Try.func81 #[.slice A0 l0.length c0] ?_; (with_reducible refine (spec_l1New.calls k _ _ l0 t624 t625 t626 w _ ?_ ?_ ?_ A2.out).mono ?_); exact sB0 HB.out; exact HR0.out; exact HC0.out; rintro e w5 ⟨g627, rfl, hi, hb, hb2, -⟩; refine ⟨_, rfl, ?_⟩; replace HB := Aside0.mk (hb); have HI627 := Aside0.mk (hi); (try clear hb); (try clear hb2); (try clear hi)) | ((with_reducible refine gate_callee (f := 82) rfl ?_); refine gL (some 12) Try.func82 #[.pointer (some ⟨g627, 0, none⟩)] ?_; (with_reducible refine (spec_l8Any.calls k g627 t624 t625 t626 t628 t631 t634 t635 w _ ?_ ?_ A3.out).mono ?_); exact sI1380 HI627.out; exact sB1 HB.out (IsS138.ge HI627.out); rintro e w6 ⟨v629, v632, rfl, ho0, ho1, hi, hb, hk⟩; refine ⟨_, rfl, ?_⟩; have n0_ := Aside0.mk (Kd.R_lower (Kd.R_newM (M := fun k_ => (w.heap.size ≤ k_)) (Kd.R_mono (ok' := fun k_ => True) ho0 (fun _ hk_ => trivial)) (below_size (by exact sB1 HB.out (IsS138.ge HI627.out))) (fun k_ h_ => h_)) (below_size (by exact sB1 HB.out (IsS138.ge HI627.out)))); have n1_ := Aside0.mk (Kd.V_lower (Kd.V_mono (ok' := fun k_ => (w.heap.size ≤ k_) ∧ some k_ ≠ (v629 : Value).ownBlock ∧ k_ ≠ g627) ho1 (fun k_ hk_ => ⟨(Nat.le_trans (below_size (by exact sB1 HB.out (IsS138.ge HI627.out))) hk_.1), hk_.2, (IsS138.fresh (by exact sI1380 HI627.out) k_ hk_.1)⟩)) (below_size (by exact sB1 HB.out (IsS138.ge HI627.out)))); have n2_ := Aside0.mk (hb); have n3_ := Aside0.mk (hi); clear HB; clear HI627; have HO630 := n0_; have HO633 := n1_; have HB := n2_; have HI627 := n3_; clear n0_ n1_ n2_ n3_; (try clear hb); (try clear hk); (try clear hi); (try clear ho0); (try clear ho1)) | ((with_reducible refine gate_callee (f := 83) rfl ?_); refine gL (some 18) Try.func83 #[.pointer (some ⟨g627, 0, none⟩)] ?_; (with_reducible refine (spec_l13Calls.calls k g627 t624 t634 t635 t636 t639 t640 w _ ?_ ?_ A4.out).mono ?_); exact sI1380 HI627.out; exact sB1 HB.out (IsS138.ge HI627.out); rintro e w7 ⟨v637, rfl, ho0, hi, hb, hk⟩; refine ⟨_, rfl, ?_⟩; have n0_ := Aside0.mk (Kd.R_mono (Kd.R_keep (IsS138.apart (show IsS138 w _ g627 t624 t634 t635 from by exact sI1380 HI627.out) (rK HO630) (by decide)) hk (fun _ h => h.2)) (fun _ h => h.1)); have n1_ := Aside0.mk (Kd.V_mono (Kd.V_told (Kd.V_oldK (Kd.V_mono (ok := fun k_ => (((w.heap.size ≤ k_)) ∧ (some k_ ≠ (v629 : Value).ownBlock ∧ k_ ≠ g627))) (by (with_reducible repeat (first | apply Kd.V_alloc | apply Kd.V_drewN | apply Kd.V_drew)); exact HO633.out) (fun k_ hk_ => (⟨hk_, hk_.2.2⟩ : _ ∧ k_ ≠ g627))) hk) (Kd.R_base ho0)) (fun _ h_ => h_.1)); have n2_ := Aside0.mk (Kd.R_lower (Kd.R_newM (M := fun k_ => (w.heap.size ≤ k_)) ho0 (below_size (by exact sB1 HB.out (IsS138.ge HI627.out))) (fun k_ h_ => h_)) (below_size (by exact sB1 HB.out (IsS138.ge HI627.out)))); have n3_ := Aside0.mk (hb); have n4_ := Aside0.mk (hi); clear HO630; clear HO633; clear HB; clear HI627; have HO630 := n0_; have HO633 := n1_; have HO638 := n2_; have HB := n3_; have HI627 := n4_; clear n0_ n1_ n2_ n3_ n4_; (try clear hb); (try clear hk); (try clear hi); (try clear ho0)))
 go_ret3
 exact ⟨_, _, _, rA, rm HO630 (fun _ hk => hk.1), by (with_reducible repeat (first | apply Kd.V_alloc | apply Kd.V_drewN | apply Kd.V_drew)); exact Kd.V_mono HO633.out (fun _ hk => ⟨hk.1.1, ⟨hk.1.2.1, hk.2⟩⟩), rm HO638 (fun _ hk => hk.1), by exact sB1 HB.out (IsS138.ge HI627.out)⟩

/-! ### impl_ServedAt: function 18 -/
def impl_ServedAt.l0 : Nat → List (S50) → List (S85) → List Int → List (S114) → Int → Int → Option (List Int)
 | 0, _, _, _, _, _, _ => none
 | k + 1, x0, x1, x7, x11, x12, x13 => if x13 < x12 then (if 0 ≤ x13 then (if x13 < (x11.length : Int) then ((impl_NextGreen.f k x0 x1 ((rd_T114 x11 x13).f0) ((rd_T114 x11 x13).f1)).bind fun t646 => (if x7.length < 17592186044416 then (impl_ServedAt.l0 k x0 x1 (x7 ++ [t646]) x11 x12 (wrap64 (x13 + 1))) else (none))) else (none)) else (none)) else (some x7)
def impl_ServedAt.f (k : Nat) (l0 : List (S50)) (l1 : List (S85)) (l2 : List (S114)) : Option (List Int) := impl_ServedAt.l0 k l0 l1 (([] : List Int)) l2 (l2.length : Int) 0
theorem impl_ServedAt.mono_l : ∀ k, (∀ y0 y1 y2 y3 y4 y5, LeO (impl_ServedAt.l0 k y0 y1 y2 y3 y4 y5) (impl_ServedAt.l0 (k + 1) y0 y1 y2 y3 y4 y5))
 | 0 => fun _ _ _ _ _ _ r h => by simp [impl_ServedAt.l0] at h
 | k + 1 => by
  have ih0 := impl_ServedAt.mono_l k
  ·
   intro y0 y1 y2 y3 y4 y5
   unfold impl_ServedAt.l0
   exact mz2 ih0 impl_NextGreen.mono
theorem impl_ServedAt.mono : ∀ a0 a1 a2 k, LeO (impl_ServedAt.f k a0 a1 a2) (impl_ServedAt.f (k + 1) a0 a1 a2) := by
 intro a0 a1 a2 k
 have ih0 := impl_ServedAt.mono_l k
 unfold impl_ServedAt.f
 exact mz2 ih0 impl_NextGreen.mono
set_option maxHeartbeats 8000000 in
set_option maxRecDepth 100000 in
theorem impl_ServedAt.calls (k : Nat) (A0 : Option Addr) (c0 : Nat) (l0 : List (S50)) (A1 : Option Addr) (c1 : Nat) (l1 : List (S85)) (A2 : Option Addr) (c2 : Nat) (l2 : List (S114)) (r : List Int) (w : World) (hr0 : Kd.C k50 w A0 l0.length l0) (hc0 : l0.length ≤ c0) (hr1 : Kd.C k85 w A1 l1.length l1) (hc1 : l1.length ≤ c1) (hr2 : Kd.C k114 w A2 l2.length l2) (hc2 : l2.length ≤ c2) (h : impl_ServedAt.f k l0 l1 l2 = some r) :
  Calls Try.prog 18 #[.slice A0 l0.length c0, .slice A1 l1.length c1, .slice A2 l2.length c2] w fun e w' => ∃ v0_ : Value, e = .returned (v0_) ∧ Kd.R (Kd.int .i64) 3 w' w.heap.size (fun _ => True) v0_ r ∧ Below w.heap.size w w' := by
 have hu114 := Try.underlying114
 have HR0 := Aside0.mk hr0
 have HC0 := Aside0.mk hc0
 clear hr0 hc0
 have HR1 := Aside0.mk hr1
 have HC1 := Aside0.mk hc1
 clear hr1 hc1
 have HR2 := Aside0.mk hr2
 have HC2 := Aside0.mk hc2
 clear hr2 hc2
 have HB := Aside0.mk (Below.refl w.heap.size w)
 have H : (impl_ServedAt.l0 k l0 l1 (([] : List Int)) l2 (l2.length : Int) 0) = some r := h
 clear h
 obtain ⟨y641, hy641⟩ : ∃ y_ : List Int, y_ = (([] : List Int)) := ⟨_, rfl⟩
 replace H : (impl_ServedAt.l0 k l0 l1 y641 l2 (l2.length : Int) 0) = some r := rH H hy641
 have Ny641 := Aside0.mk hy641
 clear hy641
 have H' := Aside0.mk H
 clear H
 go_enter Try.func18, Try.ntmps18
 go_wp2_with (first | ((with_reducible refine gate_dst (N := 10) rfl ?_); refine Kd.R_lit (Kd.int .i64) _ 3 ?hg (N := 10) ?hd (xs := ([] : List Int)) (inner := []) (ok := fun _ => True) (okp := fun _ => True) ?hr ?hp (fun _ hk => hk) trivial (Below.refl _ _) (Nat.le_refl _) (by simp) ?_; (case hd => rfl); (case hg => rfl); (case hr => first | (go_simp; done) | (go_simp; rfl)); (case hp => exact (Reps.none _ _)); intro v642 w4 ho5 hb hg_ hnew_; clear hg_ hnew_; (first | rw [← Ny641.out] at ho5 | (simp only [Int.reduceToNat] at ho5; rw [← Ny641.out] at ho5)); have HO643 := rl w ho5; replace HB := bs HB hb; clear hb ho5))
 go_loopg [7, 13] k (fun kq v7 v13 w' => ∃ (x7_1 : List Int) (x13_1 : Int), v13 = .int .i64 x13_1 ∧ Aside0 (impl_ServedAt.l0 kq l0 l1 x7_1 l2 (l2.length : Int) x13_1 = some r) ∧ Aside0 (kq ≤ k) ∧ Aside0 (Kd.R (Kd.int .i64) 3 w' w.heap.size (fun _ => True) v7 x7_1) ∧ Aside0 (Below w.heap.size w w'))
 case atStart => exact ⟨(y641), (0), rS, H', ⟨Nat.le_refl _⟩, ⟨rK HO643⟩, ⟨bA⟩⟩
 case round =>
  clear H'
  obtain ⟨x7_1, x13_1, rfl, HA, HK1, HO_7, HB⟩ := hrel
  cases gk with
  | zero => exact absurd HA.out (by simp [impl_ServedAt.l0])
  | succ k1 =>
   have H := HA.out
   clear HA
   simp only [impl_ServedAt.l0] at H
   by_cases c6 : x13_1 < (l2.length : Int)
   ·
    rw [if_pos c6] at H
    have c6b0 := decide_eq_true c6
    clear c6
    have c7 : 0 ≤ x13_1 := ifN H
    replace H := ifT H
    have c7b0 := decide_eq_true c7
    clear c7
    have c8 : x13_1 < (l2.length : Int) := ifN H
    replace H := ifT H
    have c8b0 := decide_eq_true c8
    clear c8
    obtain ⟨t646, A9, H⟩ := bindE H
    try dsimp only at H
    have c10 : x7_1.length < 17592186044416 := ifN H
    replace H := ifT H
    have LMc10 := Aside0.mk c10
    clear c10
    obtain ⟨y647, hy647⟩ : ∃ y_ : List Int, y_ = (x7_1 ++ [t646]) := ⟨_, rfl⟩
    replace H : (impl_ServedAt.l0 k1 l0 l1 y647 l2 (l2.length : Int) (wrap64 (x13_1 + 1))) = some r := rH H hy647
    have Ny647 := Aside0.mk hy647
    clear hy647
    have H' := Aside0.mk H
    clear H
    obtain ⟨p644, q644⟩ : 0 ≤ (x13_1 : Int) ∧ x13_1 < (l2.length : Int) := ⟨dA, dA⟩
    obtain ⟨ad644, e644, hx644_0, hx644_1⟩ := at_T114 (Kd.C_below HR2.out HB.out) x13_1 p644 q644
    cases e644
    obtain ⟨p644, q644⟩ := eT p644 q644
    go_wp2_with (first | ((with_reducible refine gate_dst (N := 9) rfl ?_); refine bE (N := 9) (cs := #[.int .i64 0, .int .i64 0]) (t := 114) ?_; intro gb645 hg w11 hbox hb; replace HO_7 := rb HO_7 hb; have BK645 := Aside0.mk (hbox); have GW645 := gw w hg; have GE645 := gw w hg; replace HB := bs HB hb; clear hb hbox hg; obtain ⟨_, _, _, _⟩ := blkc2 BK645) | ((with_reducible refine gate_callee (f := 12) rfl ?_); refine gL (some 24) Try.func12 #[.slice A0 l0.length c0, .slice A1 l1.length c1, .int .i64 ((rd_T114 l2 x13_1).f0), .int .i64 ((rd_T114 l2 x13_1).f1)] ?_; (with_reducible refine (impl_NextGreen.calls k1 _ _ l0 _ _ l1 ((rd_T114 l2 x13_1).f0) ((rd_T114 l2 x13_1).f1) t646 _ ?_ ?_ ?_ ?_ A9.out).mono ?_); exact Kd.C_below HR0.out bG; exact HC0.out; exact Kd.C_below HR1.out bG; exact HC1.out; rintro e w13 ⟨rfl, hb⟩; refine ⟨_, rfl, ?_⟩; replace HO_7 := Aside0.mk (Kd.R_below (rf HO_7 BK645) hb); replace BK645 := kc (o := .cells #[.int .i64 ((rd_T114 l2 x13_1).f0), .int .i64 ((rd_T114 l2 x13_1).f1)] 114 (0, 0)) (kp BK645) hb; replace HB := bs HB hb; (try clear hb)) | ((with_reducible refine gate_builtin (b := .append) (xs := #[.tmp 17, .tmp 25]) rfl ?_); at_builtin; refine Kd.R_append (Kd.int .i64) (w0 := w) w.heap.size rfl (.tmp 17) (.tmp 25) 35 3 (.int .i64 0) 8 rfl Try.underlying35 info3 rfl (by decide) (by omega) u7 x7_1 t646 [.int .i64 t646] (fun _ => True) (fun _ => False) rfl rfl ?aP (fun _ hk => hk.elim) ?aF ?aO ?aB ?aS ?aL ?_; (case aP => exact rfl); (case aB => exact bG); (case aF => exact (fun _ _ => trivial)); (case aO => exact (rK HO_7)); (case aS => exact (below_size bG)); (case aL => have := LMc10.out; omega); intro v648 w14 ho hb hg hat; rw [← Ny647.out] at ho; have n0_ := Aside0.mk (blk_grown (g := gb645) (o := .cells #[.int .i64 ((rd_T114 l2 x13_1).f0), .int .i64 ((rd_T114 l2 x13_1).f1)] 114 (0, 0)) (bK BK645) hg (Kd.R_ne HO_7.out BK645.out (by decide))); have n1_ := Aside0.mk (hb); have n2_ := Aside0.mk (ho); clear BK645; clear HB; clear HO_7; have BK645 := n0_; have HB := n1_; have HO649 := n2_; clear n0_ n1_ n2_; clear ho hb hg hat))
    go_roundg k1
    case measure => have := HK1.out; omega
    case rel => exact ⟨(y647), (wrap64 (x13_1 + 1)), rS, H', ⟨by have := HK1.out; omega⟩, ⟨rK HO649⟩, ⟨bG⟩⟩
   rw [if_neg c6] at H
   have c6b0 := decide_eq_false c6
   clear c6
   obtain rfl := Option.some.inj H
   go_wp2
   go_ret
   exact ⟨_, rA, rK HO_7, bA⟩

/-! ### impl_IsWithin: function 19 -/
def impl_IsWithin.l0 : Nat → List (S114) → Int → List Int → Int → Int → Option (Bool)
 | 0, _, _, _, _, _ => none
 | k + 1, x2, x3, x14, x15, x16 => if x16 < x15 then (if 0 ≤ x16 then (if x16 < (x14.length : Int) then (if (rd x14 x16) = (-1) then (some false) else (if x16 < (x2.length : Int) then (if (wrap64 ((rd x14 x16) - ((rd_T114 x2 x16).f1))) > x3 then (some false) else (impl_IsWithin.l0 k x2 x3 x14 x15 (wrap64 (x16 + 1)))) else (none))) else (none)) else (none)) else (some true)
def impl_IsWithin.f (k : Nat) (l0 : List (S50)) (l1 : List (S85)) (l2 : List (S114)) (a3 : Int) : Option (Bool) := (impl_ServedAt.f k l0 l1 l2).bind fun t650 => (impl_IsWithin.l0 k l2 a3 t650 (t650.length : Int) 0)
theorem impl_IsWithin.mono_l : ∀ k, (∀ y0 y1 y2 y3 y4, LeO (impl_IsWithin.l0 k y0 y1 y2 y3 y4) (impl_IsWithin.l0 (k + 1) y0 y1 y2 y3 y4))
 | 0 => fun _ _ _ _ _ r h => by simp [impl_IsWithin.l0] at h
 | k + 1 => by
  have ih0 := impl_IsWithin.mono_l k
  ·
   intro y0 y1 y2 y3 y4
   unfold impl_IsWithin.l0
   exact mz2 ih0 impl_ServedAt.mono
theorem impl_IsWithin.mono : ∀ a0 a1 a2 a3 k, LeO (impl_IsWithin.f k a0 a1 a2 a3) (impl_IsWithin.f (k + 1) a0 a1 a2 a3) := by
 intro a0 a1 a2 a3 k
 have ih0 := impl_IsWithin.mono_l k
 unfold impl_IsWithin.f
 exact mz2 ih0 impl_ServedAt.mono
set_option maxHeartbeats 8000000 in
set_option maxRecDepth 100000 in
theorem impl_IsWithin.calls (k : Nat) (A0 : Option Addr) (c0 : Nat) (l0 : List (S50)) (A1 : Option Addr) (c1 : Nat) (l1 : List (S85)) (A2 : Option Addr) (c2 : Nat) (l2 : List (S114)) (a3 : Int) (r : Bool) (w : World) (hr0 : Kd.C k50 w A0 l0.length l0) (hc0 : l0.length ≤ c0) (hr1 : Kd.C k85 w A1 l1.length l1) (hc1 : l1.length ≤ c1) (hr2 : Kd.C k114 w A2 l2.length l2) (hc2 : l2.length ≤ c2) (h : impl_IsWithin.f k l0 l1 l2 a3 = some r) :
  Calls Try.prog 19 #[.slice A0 l0.length c0, .slice A1 l1.length c1, .slice A2 l2.length c2, .int .i64 a3] w fun e w' => e = .returned (.bool r) ∧ Below w.heap.size w w' := by
 have HR0 := Aside0.mk hr0
 have HC0 := Aside0.mk hc0
 clear hr0 hc0
 have HR1 := Aside0.mk hr1
 have HC1 := Aside0.mk hc1
 clear hr1 hc1
 have HR2 := Aside0.mk hr2
 have HC2 := Aside0.mk hc2
 clear hr2 hc2
 have HB := Aside0.mk (Below.refl w.heap.size w)
 have H : ((impl_ServedAt.f k l0 l1 l2).bind fun t650 => (impl_IsWithin.l0 k l2 a3 t650 (t650.length : Int) 0)) = some r := h
 clear h
 obtain ⟨t650, A5, H⟩ := bindE H
 try dsimp only at H
 have H' := Aside0.mk H
 clear H
 go_enter Try.func19, Try.ntmps19
 go_wp2_with (first | ((with_reducible refine gate_callee (f := 18) rfl ?_); refine gL (some 14) Try.func18 #[.slice A0 l0.length c0, .slice A1 l1.length c1, .slice A2 l2.length c2] ?_; (with_reducible refine (impl_ServedAt.calls k _ _ l0 _ _ l1 _ _ l2 t650 _ ?_ ?_ ?_ ?_ ?_ ?_ A5.out).mono ?_); exact cO HR0; exact HC0.out; exact cO HR1; exact HC1.out; exact cO HR2; exact HC2.out; rintro e w6 ⟨v651, rfl, ho0, hb⟩; refine ⟨_, rfl, ?_⟩; have HO652 := rl w ho0; replace HB := bs HB hb; (try clear hb); (try clear ho0); obtain ⟨Ao7, co7, eo7⟩ := Kd.R_slice HO652.out; subst eo7))
 go_loopg [16] k (fun kq v16 w' => ∃ (x16_1 : Int), v16 = .int .i64 x16_1 ∧ Aside0 (impl_IsWithin.l0 kq l2 a3 t650 (t650.length : Int) x16_1 = some r) ∧ Aside0 (kq ≤ k) ∧ Aside0 (Kd.R (Kd.int .i64) 3 w' w.heap.size (fun _ => True) (.slice Ao7 t650.length co7) t650) ∧ Aside0 (Below w.heap.size w w'))
 case atStart => exact ⟨(0), rS, H', ⟨Nat.le_refl _⟩, ⟨rK HO652⟩, ⟨bA⟩⟩
 case round =>
  clear H'
  obtain ⟨x16_1, rfl, HA, HK1, HO_14, HB⟩ := hrel
  cases gk with
  | zero => exact absurd HA.out (by simp [impl_IsWithin.l0])
  | succ k1 =>
   have H := HA.out
   clear HA
   simp only [impl_IsWithin.l0] at H
   by_cases c8 : x16_1 < (t650.length : Int)
   ·
    rw [if_pos c8] at H
    have c8b0 := decide_eq_true c8
    clear c8
    have c9 : 0 ≤ x16_1 := ifN H
    replace H := ifT H
    have c9b0 := decide_eq_true c9
    clear c9
    have c10 : x16_1 < (t650.length : Int) := ifN H
    replace H := ifT H
    have c10b0 := decide_eq_true c10
    clear c10
    by_cases c11 : (rd t650 x16_1) = (-1)
    ·
     rw [if_pos c11] at H
     have c11b0 : ((rd t650 x16_1) == (-1)) = true := beq_iff_eq.mpr c11
     have c11b1 : ((rd t650 x16_1) != (-1)) = false := bne_eq_false_iff_eq.mpr c11
     clear c11
     obtain rfl := Option.some.inj H
     obtain ⟨p653, q653⟩ : 0 ≤ (x16_1 : Int) ∧ x16_1 < (t650.length : Int) := ⟨dA, dA⟩
     obtain ⟨ad653, e653, hx653_0⟩ := Kd.at_int (Kd.R_reads' HO_14.out).2.2 x16_1 p653 q653
     cases e653
     obtain ⟨p653, q653⟩ := eT p653 q653
     go_wp2
     go_ret
     exact ⟨rA, bA⟩
    rw [if_neg c11] at H
    have c11b0 : ((rd t650 x16_1) == (-1)) = false := beq_eq_false_iff_ne.mpr c11
    have c11b1 : ((rd t650 x16_1) != (-1)) = true := bne_iff_ne.mpr c11
    have c12 : x16_1 < (l2.length : Int) := ifN H
    replace H := ifT H
    have c12b0 := decide_eq_true c12
    clear c12
    by_cases c13 : (wrap64 ((rd t650 x16_1) - ((rd_T114 l2 x16_1).f1))) > a3
    ·
     rw [if_pos c13] at H
     have c13b0 := decide_eq_true c13
     clear c13
     obtain rfl := Option.some.inj H
     obtain ⟨p653, q653⟩ : 0 ≤ (x16_1 : Int) ∧ x16_1 < (t650.length : Int) := ⟨dA, dA⟩
     obtain ⟨ad653, e653, hx653_0⟩ := Kd.at_int (Kd.R_reads' HO_14.out).2.2 x16_1 p653 q653
     cases e653
     obtain ⟨p653, q653⟩ := eT p653 q653
     obtain ⟨p654, q654⟩ : 0 ≤ (x16_1 : Int) ∧ x16_1 < (l2.length : Int) := ⟨dA, dA⟩
     obtain ⟨ad654, e654, hx654_0, hx654_1⟩ := at_T114 (Kd.C_below HR2.out HB.out) x16_1 p654 q654
     cases e654
     obtain ⟨p654, q654⟩ := eT p654 q654
     go_wp2
     go_ret
     exact ⟨rA, bA⟩
    rw [if_neg c13] at H
    have c13b0 := decide_eq_false c13
    clear c13
    have H' := Aside0.mk H
    clear H
    obtain ⟨p653, q653⟩ : 0 ≤ (x16_1 : Int) ∧ x16_1 < (t650.length : Int) := ⟨dA, dA⟩
    obtain ⟨ad653, e653, hx653_0⟩ := Kd.at_int (Kd.R_reads' HO_14.out).2.2 x16_1 p653 q653
    cases e653
    obtain ⟨p653, q653⟩ := eT p653 q653
    obtain ⟨p654, q654⟩ : 0 ≤ (x16_1 : Int) ∧ x16_1 < (l2.length : Int) := ⟨dA, dA⟩
    obtain ⟨ad654, e654, hx654_0, hx654_1⟩ := at_T114 (Kd.C_below HR2.out HB.out) x16_1 p654 q654
    cases e654
    obtain ⟨p654, q654⟩ := eT p654 q654
    go_wp2
    go_roundg k1
    case measure => have := HK1.out; omega
    case rel => exact ⟨(wrap64 (x16_1 + 1)), rS, H', ⟨by have := HK1.out; omega⟩, ⟨rK HO_14⟩, ⟨bA⟩⟩
   rw [if_neg c8] at H
   have c8b0 := decide_eq_false c8
   clear c8
   obtain rfl := Option.some.inj H
   go_wp2
   go_ret
   exact ⟨rA, bA⟩

/-! ### impl_WorstWait: function 20 -/
def impl_WorstWait.l0 : Nat → List (S50) → List (S85) → Int → List (S50) → Int → Int → Option (Int)
 | 0, _, _, _, _, _, _ => none
 | k + 1, x0, x1, x5, x13, x14, x15 => if x15 < x14 then (if 0 ≤ x15 then (if x15 < (x13.length : Int) then ((impl_WaitOf.f k x0 x1 ((rd_T50 x13 x15).f0)).bind fun t658 => (impl_WorstWait.l0 k x0 x1 (mx x5 t658) x13 x14 (wrap64 (x15 + 1)))) else (none)) else (none)) else (some x5)
def impl_WorstWait.f (k : Nat) (l0 : List (S50)) (l1 : List (S85)) : Option (Int) := (impl_IsPlan.f k l0 l1).bind fun t655 => (if t655 = true then (impl_WorstWait.l0 k l0 l1 0 l0 (l0.length : Int) 0) else (some 0))
theorem impl_WorstWait.mono_l : ∀ k, (∀ y0 y1 y2 y3 y4 y5, LeO (impl_WorstWait.l0 k y0 y1 y2 y3 y4 y5) (impl_WorstWait.l0 (k + 1) y0 y1 y2 y3 y4 y5))
 | 0 => fun _ _ _ _ _ _ r h => by simp [impl_WorstWait.l0] at h
 | k + 1 => by
  have ih0 := impl_WorstWait.mono_l k
  ·
   intro y0 y1 y2 y3 y4 y5
   unfold impl_WorstWait.l0
   exact mz3 ih0 impl_IsPlan.mono impl_WaitOf.mono
theorem impl_WorstWait.mono : ∀ a0 a1 k, LeO (impl_WorstWait.f k a0 a1) (impl_WorstWait.f (k + 1) a0 a1) := by
 intro a0 a1 k
 have ih0 := impl_WorstWait.mono_l k
 unfold impl_WorstWait.f
 exact mz3 ih0 impl_IsPlan.mono impl_WaitOf.mono
set_option maxHeartbeats 8000000 in
set_option maxRecDepth 100000 in
theorem impl_WorstWait.calls (k : Nat) (A0 : Option Addr) (c0 : Nat) (l0 : List (S50)) (A1 : Option Addr) (c1 : Nat) (l1 : List (S85)) (r : Int) (w : World) (hr0 : Kd.C k50 w A0 l0.length l0) (hc0 : l0.length ≤ c0) (hr1 : Kd.C k85 w A1 l1.length l1) (hc1 : l1.length ≤ c1) (h : impl_WorstWait.f k l0 l1 = some r) :
  Calls Try.prog 20 #[.slice A0 l0.length c0, .slice A1 l1.length c1] w fun e w' => e = .returned (.int .i64 r) ∧ Below w.heap.size w w' := by
 have hu50 := Try.underlying50
 have HR0 := Aside0.mk hr0
 have HC0 := Aside0.mk hc0
 clear hr0 hc0
 have HR1 := Aside0.mk hr1
 have HC1 := Aside0.mk hc1
 clear hr1 hc1
 have HB := Aside0.mk (Below.refl w.heap.size w)
 have H : ((impl_IsPlan.f k l0 l1).bind fun t655 => (if t655 = true then (impl_WorstWait.l0 k l0 l1 0 l0 (l0.length : Int) 0) else (some 0))) = some r := h
 clear h
 obtain ⟨t655, A3, H⟩ := bindE H
 try dsimp only at H
 by_cases c4 : t655 = true
 ·
  subst c4
  have H1 : (impl_WorstWait.l0 k l0 l1 0 l0 (l0.length : Int) 0) = some r := by rw [if_pos rfl] at H; exact H
  clear H
  have H := H1
  clear H1
  have H' := Aside0.mk H
  clear H
  go_enter Try.func20, Try.ntmps20
  go_wp2_with (first | ((with_reducible refine gate_callee (f := 15) rfl ?_); refine gL (some 10) Try.func15 #[.slice A0 l0.length c0, .slice A1 l1.length c1] ?_; (with_reducible refine (impl_IsPlan.calls k _ _ l0 (fun k_ => k_ < w.heap.size) _ _ l1 true _ ?_ ?_ ?_ A3.out).mono ?_); exact cO HR0; exact HC0.out; exact Kd.V_mk HC1.out (Kd.F_below (Kd.C_F k85_heap HR1.out) bA); rintro e w5 ⟨rfl, hb⟩; refine ⟨_, rfl, ?_⟩; replace HB := bs HB hb; (try clear hb)))
  go_loopg [5, 15] k (fun kq v5 v15 w' => ∃ (x5_1 : Int) (x15_1 : Int), v5 = .int .i64 x5_1 ∧ v15 = .int .i64 x15_1 ∧ Aside0 (impl_WorstWait.l0 kq l0 l1 x5_1 l0 (l0.length : Int) x15_1 = some r) ∧ Aside0 (kq ≤ k) ∧ Aside0 (Below w.heap.size w w'))
  case atStart => exact ⟨(0), (0), rS, rS, H', ⟨Nat.le_refl _⟩, ⟨bA⟩⟩
  case round =>
   clear H'
   obtain ⟨x5_1, x15_1, rfl, rfl, HA, HK1, HB⟩ := hrel
   cases gk with
   | zero => exact absurd HA.out (by simp [impl_WorstWait.l0])
   | succ k1 =>
    have H := HA.out
    clear HA
    simp only [impl_WorstWait.l0] at H
    by_cases c6 : x15_1 < (l0.length : Int)
    ·
     rw [if_pos c6] at H
     have c6b0 := decide_eq_true c6
     clear c6
     have c7 : 0 ≤ x15_1 := ifN H
     replace H := ifT H
     have c7b0 := decide_eq_true c7
     clear c7
     have c8 : x15_1 < (l0.length : Int) := ifN H
     replace H := ifT H
     have c8b0 := decide_eq_true c8
     clear c8
     obtain ⟨t658, A9, H⟩ := bindE H
     try dsimp only at H
     obtain ⟨ji10, hji10⟩ : ∃ j_ : Int, (mx x5_1 t658) = j_ := ⟨_, rfl⟩
     replace H : (impl_WorstWait.l0 k1 l0 l1 ji10 l0 (l0.length : Int) (wrap64 (x15_1 + 1))) = some r := by first | (rw [hji10] at H; exact H) | (simp only [hji10] at H ⊢; exact H)
     (try rw [hji10] at A9)
     have hji10_ : (if x5_1 < t658 then t658 else x5_1) = ji10 := hji10
     have H' := Aside0.mk H
     clear H
     obtain ⟨p656, q656⟩ : 0 ≤ (x15_1 : Int) ∧ x15_1 < (l0.length : Int) := ⟨dA, dA⟩
     obtain ⟨ad656, e656, hx656_0, hx656_1, hx656_2, hx656_3⟩ := at_T50 (Kd.C_below HR0.out HB.out) x15_1 p656 q656
     cases e656
     obtain ⟨p656, q656⟩ := eT p656 q656
     go_wp2_with (first | ((with_reducible refine gate_dst (N := 7) rfl ?_); refine bE (N := 7) (cs := #[.int .i64 0, .int .i64 0, .int .i64 0, .int .i64 0]) (t := 50) ?_; intro gb657 hg w11 hbox hb; have BK657 := Aside0.mk (hbox); have GW657 := gw w hg; have GE657 := gw w hg; replace HB := bs HB hb; clear hb hbox hg; obtain ⟨_, _, _, _, _, _, _, _⟩ := blkc4 BK657) | ((with_reducible refine gate_callee (f := 13) rfl ?_); refine gL (some 24) Try.func13 #[.slice (some ad656) l0.length c0, .slice A1 l1.length c1, .int .i64 ((rd_T50 l0 x15_1).f0)] ?_; (with_reducible refine (impl_WaitOf.calls k1 _ _ l0 _ _ l1 ((rd_T50 l0 x15_1).f0) t658 _ ?_ ?_ ?_ ?_ A9.out).mono ?_); exact Kd.C_below HR0.out bG; exact HC0.out; exact Kd.C_below HR1.out bG; exact HC1.out; rintro e w13 ⟨rfl, hb⟩; refine ⟨_, rfl, ?_⟩; replace BK657 := kc (o := .cells #[.int .i64 ((rd_T50 l0 x15_1).f0), .int .i64 ((rd_T50 l0 x15_1).f1), .int .i64 ((rd_T50 l0 x15_1).f2), .int .i64 ((rd_T50 l0 x15_1).f3)] 50 (0, 0)) (kp BK657) hb; replace HB := bs HB hb; (try clear hb)))
     go_roundg k1
     case measure => have := HK1.out; omega
     case rel => exact ⟨(ji10), (wrap64 (x15_1 + 1)), (by first | rfl | (simp; done) | (simp only [← hji10] <;> (first | rfl | simp)) | (simp [*]; done)), rS, H', ⟨by have := HK1.out; omega⟩, ⟨bG⟩⟩
    rw [if_neg c6] at H
    have c6b0 := decide_eq_false c6
    clear c6
    obtain rfl := Option.some.inj H
    go_wp2
    go_ret
    exact ⟨rA, bA⟩
 replace c4 := Bool.eq_false_iff.mpr c4
 subst c4
 have H1 : (some 0) = some r := by rw [if_neg (show ¬ (false = true) by decide)] at H; exact H
 clear H
 have H := H1
 clear H1
 obtain rfl := Option.some.inj H
 go_enter Try.func20, Try.ntmps20
 go_wp2_with (first | ((with_reducible refine gate_callee (f := 15) rfl ?_); refine gL (some 10) Try.func15 #[.slice A0 l0.length c0, .slice A1 l1.length c1] ?_; (with_reducible refine (impl_IsPlan.calls k _ _ l0 (fun k_ => k_ < w.heap.size) _ _ l1 false _ ?_ ?_ ?_ A3.out).mono ?_); exact cO HR0; exact HC0.out; exact Kd.V_mk HC1.out (Kd.F_below (Kd.C_F k85_heap HR1.out) bA); rintro e w14 ⟨rfl, hb⟩; refine ⟨_, rfl, ?_⟩; replace HB := bs HB hb; (try clear hb)))
 go_ret
 exact ⟨rA, bA⟩

/-! ### spec_DrawWaitingAt: function 21 -/
def spec_DrawWaitingAt.f (k : Nat) (l0 : List Int) : Option ((List (S50)) × (List (S85)) × (List (S114)) × Int) := (spec_DrawServedAt.f k l0).bind fun bt659 => ((spec_l1New.f k l0).bind fun bt668 => ((spec_l1Below.f bt668.1 bt668.2.1 bt668.2.2 90).bind fun bt672 => (some (bt659.1, bt659.2.1, bt659.2.2, bt672.1))))
theorem spec_DrawWaitingAt.mono : ∀ a0 k, LeO (spec_DrawWaitingAt.f k a0) (spec_DrawWaitingAt.f (k + 1) a0) := by
 intro a0 k
 unfold spec_DrawWaitingAt.f
 exact mz2 spec_DrawServedAt.mono spec_l1New.mono
set_option maxHeartbeats 8000000 in
set_option maxRecDepth 100000 in
theorem spec_DrawWaitingAt.calls (k : Nat) (A0 : Option Addr) (c0 : Nat) (l0 : List Int) (r1 : List (S50)) (r2 : List (S85)) (r3 : List (S114)) (r4 : Int) (w : World) (hr0 : Kd.C (Kd.int .u8) w A0 l0.length l0) (hc0 : l0.length ≤ c0) (h : spec_DrawWaitingAt.f k l0 = some (r1, r2, r3, r4)) :
  Calls Try.prog 21 #[.slice A0 l0.length c0] w fun e w' => ∃ v0_ v1_ v2_ : Value, e = .returned (.tuple #[v0_, v1_, v2_, .int .i64 r4]) ∧ Kd.R k50 50 w' w.heap.size (fun k_ => (w.heap.size ≤ k_)) v0_ r1 ∧ Kd.V k85 85 w' w.heap.size (fun k_ => (w.heap.size ≤ k_) ∧ some k_ ≠ (v0_ : Value).ownBlock ∧ some k_ ≠ (v2_ : Value).ownBlock) v1_ r2 ∧ Kd.R k114 114 w' w.heap.size (fun k_ => (w.heap.size ≤ k_)) v2_ r3 ∧ Below w.heap.size w w' := by
 have HR0 := Aside0.mk hr0
 have HC0 := Aside0.mk hc0
 clear hr0 hc0
 have HB := Aside0.mk (Below.refl w.heap.size w)
 have H : ((spec_DrawServedAt.f k l0).bind fun bt659 => ((spec_l1New.f k l0).bind fun bt668 => ((spec_l1Below.f bt668.1 bt668.2.1 bt668.2.2 90).bind fun bt672 => (some (bt659.1, bt659.2.1, bt659.2.2, bt672.1))))) = some (r1, r2, r3, r4) := h
 clear h
 obtain ⟨⟨t659, t662, t665⟩, A2, H⟩ := bindE H
 try dsimp only at H
 obtain ⟨⟨t668, t669, t670⟩, A3, H⟩ := bindE H
 try dsimp only at H
 obtain ⟨⟨t672, t673, t674⟩, A4, H⟩ := bindE H
 try dsimp only at H
 simp only [Option.some.injEq, Prod.mk.injEq] at H
 obtain ⟨rfl, rfl, rfl, rfl⟩ := H
 go_enter Try.func21, Try.ntmps21
 go_wp2_with (first | ((with_reducible refine gate_callee (f := 17) rfl ?_); refine gL (some 12) Try.func17 #[.slice A0 l0.length c0] ?_; (with_reducible refine (spec_DrawServedAt.calls k _ _ l0 t659 t662 t665 _ ?_ ?_ A2.out).mono ?_); exact cO HR0; exact HC0.out; rintro e w5 ⟨v660, v663, v666, rfl, ho0, ho1, ho2, hb⟩; refine ⟨_, rfl, ?_⟩; have HO661 := rl w (Kd.R_newM (M := fun k_ => (w.heap.size ≤ k_)) (Kd.R_mono (ok' := fun k_ => True) ho0 (fun _ hk_ => trivial)) (below_size bA) (fun k_ h_ => h_)); have HO664 := Aside0.mk (Kd.V_lower (Kd.V_mono (ok' := fun k_ => (w.heap.size ≤ k_) ∧ some k_ ≠ (v660 : Value).ownBlock ∧ some k_ ≠ (v666 : Value).ownBlock) ho1 (fun k_ hk_ => ⟨(Nat.le_trans (below_size bA) hk_.1), hk_.2.1, hk_.2.2⟩)) (below_size bA)); have HO667 := rl w (Kd.R_newM (M := fun k_ => (w.heap.size ≤ k_)) (Kd.R_mono (ok' := fun k_ => True) ho2 (fun _ hk_ => trivial)) (below_size bA) (fun k_ h_ => h_)); replace HB := bs HB hb; (try clear hb); (try clear ho0); (try clear ho1); (try clear ho2)) | ((with_reducible refine gate_callee (f := 81) rfl ?_); refine gL (some 17) Try.func81 #[.slice A0 l0.length c0] ?_; (with_reducible refine (spec_l1New.calls k _ _ l0 t668 t669 t670 w _ ?_ ?_ ?_ A3.out).mono ?_); exact sB0 HB.out; exact HR0.out; exact HC0.out; rintro e w6 ⟨g671, rfl, hi, hb, hb2, hge_⟩; refine ⟨_, rfl, ?_⟩; have n0_ := rb HO661 hb2; have n1_ := Aside0.mk (Kd.V_below (Kd.V_elderB (by (with_reducible repeat (first | apply Kd.V_alloc | apply Kd.V_drewN | apply Kd.V_drew)); exact HO664.out) g671 hge_) hb2); have n2_ := rb HO667 hb2; have n3_ := Aside0.mk (hb); have n4_ := Aside0.mk (hi); clear HO661; clear HO664; clear HO667; clear HB; have HO661 := n0_; have HO664 := n1_; have HO667 := n2_; have HB := n3_; have HI671 := n4_; clear n0_ n1_ n2_ n3_ n4_; (try clear hb); (try clear hb2); (try clear hi); (try clear hge_)) | ((with_reducible refine gate_callee (f := 84) rfl ?_); refine gL (some 22) Try.func84 #[.pointer (some ⟨g671, 0, none⟩), .int .i64 90] ?_; (with_reducible refine (spec_l1Below.calls g671 t668 t669 t670 90 t672 t673 t674 w _ ?_ ?_ A4.out).mono ?_); exact sI1380 HI671.out; exact sB1 HB.out (IsS138.ge HI671.out); rintro e w7 ⟨rfl, hi, hb, hk⟩; refine ⟨_, rfl, ?_⟩; have n0_ := Aside0.mk (Kd.R_mono (Kd.R_keep (IsS138.apart (show IsS138 w _ g671 t668 t669 t670 from by exact sI1380 HI671.out) (rK HO661) (by decide)) hk (fun _ h => h.2)) (fun _ h => h.1)); have n1_ := Aside0.mk (Kd.V_mono (Kd.V_keep (Kd.V_mono (ok := fun k_ => ((((w.heap.size ≤ k_)) ∧ (some k_ ≠ (v660 : Value).ownBlock ∧ some k_ ≠ (v666 : Value).ownBlock)) ∧ k_ ≠ g671)) (by (with_reducible repeat (first | apply Kd.V_alloc | apply Kd.V_drewN | apply Kd.V_drew)); exact HO664.out) (fun k_ hk_ => (⟨hk_, hk_.2⟩ : _ ∧ k_ ≠ g671))) hk (fun _ h => h.2)) (fun _ h => h.1)); have n2_ := Aside0.mk (Kd.R_mono (Kd.R_keep (IsS138.apart (show IsS138 w _ g671 t668 t669 t670 from by exact sI1380 HI671.out) (rK HO667) (by decide)) hk (fun _ h => h.2)) (fun _ h => h.1)); have n3_ := Aside0.mk (hb); have n4_ := Aside0.mk (hi); clear HO661; clear HO664; clear HO667; clear HB; clear HI671; have HO661 := n0_; have HO664 := n1_; have HO667 := n2_; have HB := n3_; have HI671 := n4_; clear n0_ n1_ n2_ n3_ n4_; (try clear hb); (try clear hk); (try clear hi)))
 refine bodyPost_ret (results_list (rs := [.tmp 2, .tmp 3, .tmp 4, .tmp 5]) rfl (by simp) (.tmp (.tmp (.tmp (.tmp .nil))))) rfl ?_
 exact ⟨_, _, _, rA, rm HO661 (fun _ hk => hk.1), by (with_reducible repeat (first | apply Kd.V_alloc | apply Kd.V_drewN | apply Kd.V_drew)); exact Kd.V_mono HO664.out (fun _ hk => ⟨hk.1.1, ⟨hk.1.2.1, hk.1.2.2⟩⟩), rm HO667 (fun _ hk => hk.1), by exact sB1 HB.out (IsS138.ge HI671.out)⟩

/-! ### slices_Sort_int_int: function 85 -/
def slices_Sort_int_int.f (l0 : List Int) : Option (List Int) := if l0.length < 4611686018427387904 then some (l0.mergeSort fun x y => decide (x ≤ y)) else none
theorem slices_Sort_int_int.calls (P0_ : Nat → Prop) (u9000_ : Value) (l0 : List Int) (r1 : List Int) (w0 w : World) (hB : Below w0.heap.size w0 w) (ho0 : Kd.R (Kd.int .i64) 3 w w0.heap.size P0_ u9000_ l0) (h : slices_Sort_int_int.f l0 = some r1) :
  Calls Try.prog 85 #[u9000_] w fun e w' => e = .returned (.tuple #[]) ∧ Kd.R (Kd.int .i64) 3 w' w0.heap.size (fun k_ => (P0_ k_ ∨ w.heap.size ≤ k_)) u9000_ r1 ∧ Below w0.heap.size w0 w' ∧ Kept w w' (fun k_ => P0_ k_) := by
 unfold slices_Sort_int_int.f at h
 by_cases hl : l0.length < 4611686018427387904
 ·
  rw [if_pos hl] at h
  obtain rfl := Option.some.inj h
  have own := Kd.own_of_R ho0
  have hok := ho0.1
  rcases own.2 with ⟨rfl, hn⟩ | ⟨g, cap, cur, rfl, hb, hg, hn, hm, hs, ht⟩
  ·
   have e0 : l0 = [] := List.eq_nil_of_length_eq_zero hn
   subst e0
   refine (Go.Proofs.Any.slices_Sort_int_none shelfSort none 0 w).mono ?_
   rintro e w' ⟨he, rfl⟩
   refine ⟨he, ?_, hB, Kept.refl _ _⟩
   rw [show (([] : List Int).mergeSort fun x y => decide (x ≤ y)) = [] by simp]
   exact Kd.R_mono ho0 (fun k hk => Or.inl hk)
  ·
   have hlt := blk_lt hg
   have H : Go.Sort.Holds (Value.int .i64) w g 0 l0.toArray := holds_of_blockI hg (by rw [Nat.mul_one] at ht; exact ht)
   refine (Go.Proofs.Any.slices_Sort_int shelfSort g 0 cap l0 w H hlt hl).mono ?_
   rintro e w' ⟨he, n, os, rfl⟩
   have hlen : (l0.mergeSort fun x y => decide (x ≤ y)).length = l0.length := List.length_mergeSort _
   have gb := grownBy_sortedI (w := w) (g := g) (n := n) (os := os) (l0.mergeSort fun x y => decide (x ≤ y)).toArray
   have hP := hok g rfl
   refine ⟨he, Kd.R_of_own ?_ (fun k hk => Or.inl (hok k hk)), hB.grown gb hB.size (fun k hk => by cases hk; exact hb), gb.size, fun k hk hS => gb.block k hk (fun e => hS (by cases e; exact hP))⟩
   rw [hlen]
   exact ownsRow_sortedI hlen hb hg hn hm hs
 ·
  rw [if_neg hl] at h
  cases h

/-! ### slices_Compact_int_int: function 86 -/
def slices_Compact_int_int.f (l0 : List Int) : Option (List Int) := some (Go.Lib.compact l0)
theorem slices_Compact_int_int.len (l0 : List Int) : (Go.Lib.compact l0).length ≤ l0.length := by
 unfold Go.Lib.compact Go.Lib.compactUpTo
 rw [List.length_map]
 exact Nat.le_trans (List.length_filter_le _ _) (by simp)
theorem slices_Compact_int_int.calls (P0_ : Nat → Prop) (u9000_ : Value) (l0 : List Int) (r : List Int) (w0 w : World) (hB : Below w0.heap.size w0 w) (ho0 : Kd.R (Kd.int .i64) 3 w w0.heap.size P0_ u9000_ l0) (h : slices_Compact_int_int.f l0 = some r) :
  Calls Try.prog 86 #[u9000_] w fun e w' => ∃ v0_ : Value, e = .returned v0_ ∧ Kd.R (Kd.int .i64) 3 w' w0.heap.size (fun k_ => (P0_ k_ ∨ w.heap.size ≤ k_)) v0_ r ∧ Below w0.heap.size w0 w' ∧ Kept w w' (fun k_ => P0_ k_) := by
 obtain rfl := Option.some.inj h
 have own := Kd.own_of_R ho0
 have hok := ho0.1
 rcases own.2 with ⟨rfl, hn⟩ | ⟨g, cap, cur, rfl, hb, hg, hn, hm, hs, ht⟩
 ·
  have e0 : l0 = [] := List.eq_nil_of_length_eq_zero hn
  subst e0
  refine (Go.Proofs.Any.slices_Compact_int_empty shelfCompact none 0 w).mono ?_
  rintro e w' ⟨rfl, rfl⟩
  exact ⟨_, rfl, Kd.R_mono ho0 (fun k hk => Or.inl hk), hB, Kept.refl _ _⟩
 ·
  have hlt := blk_lt hg
  have hc := slices_Compact_int_int.len l0
  have H : Go.Sort.Holds (Value.int .i64) w g 0 l0.toArray := holds_of_blockI hg (by rw [Nat.mul_one] at ht; exact ht)
  refine (Go.Proofs.Any.slices_Compact_int shelfCompact g 0 cap l0 w H (Nat.le_trans hn hm) hn).mono ?_
  rintro e w' ⟨rfl, q, rfl⟩
  have hP := hok g rfl
  have o2 := Go.Lib.ownsRow_putRow (q := q) (k := (Go.Lib.compact l0).length) (ys := Go.Lib.compact l0 ++ List.replicate (l0.length - (Go.Lib.compact l0).length) 0) own (by rw [List.length_append, List.length_replicate]; omega) hc
  rw [List.take_left] at o2
  refine ⟨_, rfl, Kd.R_of_own o2 (fun k hk => Or.inl (hok k hk)), Go.Lib.below_putRow hB hb, ?_, fun k hk hS => ?_⟩
  ·
   simp [Go.Sort.putRow, Go.Sort.mapBlock, Go.Sort.ahead]
  ·
   have hne : g ≠ k := fun e => hS (by subst e; exact hP)
   simp [Go.Sort.putRow, Go.Sort.mapBlock, Go.Sort.ahead, Array.getElem?_modify, hne]

/-! ### impl_WaitingAt: function 22 -/
def impl_WaitingAt.l0 : Nat → List (S114) → Int → List Int → List Int → Int → Int → Option (List Int)
 | 0, _, _, _, _, _, _ => none
 | k + 1, x2, x3, x9, x16, x17, x18 => if x18 < x17 then (if 0 ≤ x18 then (if x18 < (x16.length : Int) then (if x18 < (x2.length : Int) then (if ((rd_T114 x2 x18).f1) ≤ x3 then (if (rd x16 x18) > x3 then (if x9.length < 17592186044416 then (impl_WaitingAt.l0 k x2 x3 (x9 ++ [(rd_T114 x2 x18).f0]) x16 x17 (wrap64 (x18 + 1))) else (none)) else (impl_WaitingAt.l0 k x2 x3 x9 x16 x17 (wrap64 (x18 + 1)))) else (impl_WaitingAt.l0 k x2 x3 x9 x16 x17 (wrap64 (x18 + 1)))) else (none)) else (none)) else (none)) else ((slices_Sort_int_int.f x9).bind fun t806 => ((slices_Compact_int_int.f t806).bind fun t807 => (some t807)))
def impl_WaitingAt.f (k : Nat) (l0 : List (S50)) (l1 : List (S85)) (l2 : List (S114)) (a3 : Int) : Option (List Int) := (impl_ServedAt.f k l0 l1 l2).bind fun t797 => (impl_WaitingAt.l0 k l2 a3 (([] : List Int)) t797 (t797.length : Int) 0)
theorem impl_WaitingAt.mono_l : ∀ k, (∀ y0 y1 y2 y3 y4 y5, LeO (impl_WaitingAt.l0 k y0 y1 y2 y3 y4 y5) (impl_WaitingAt.l0 (k + 1) y0 y1 y2 y3 y4 y5))
 | 0 => fun _ _ _ _ _ _ r h => by simp [impl_WaitingAt.l0] at h
 | k + 1 => by
  have ih0 := impl_WaitingAt.mono_l k
  ·
   intro y0 y1 y2 y3 y4 y5
   unfold impl_WaitingAt.l0
   exact mz2 ih0 impl_ServedAt.mono
theorem impl_WaitingAt.mono : ∀ a0 a1 a2 a3 k, LeO (impl_WaitingAt.f k a0 a1 a2 a3) (impl_WaitingAt.f (k + 1) a0 a1 a2 a3) := by
 intro a0 a1 a2 a3 k
 have ih0 := impl_WaitingAt.mono_l k
 unfold impl_WaitingAt.f
 exact mz2 ih0 impl_ServedAt.mono
set_option maxHeartbeats 8000000 in
set_option maxRecDepth 100000 in
theorem impl_WaitingAt.calls (k : Nat) (A0 : Option Addr) (c0 : Nat) (l0 : List (S50)) (A1 : Option Addr) (c1 : Nat) (l1 : List (S85)) (A2 : Option Addr) (c2 : Nat) (l2 : List (S114)) (a3 : Int) (r : List Int) (w : World) (hr0 : Kd.C k50 w A0 l0.length l0) (hc0 : l0.length ≤ c0) (hr1 : Kd.C k85 w A1 l1.length l1) (hc1 : l1.length ≤ c1) (hr2 : Kd.C k114 w A2 l2.length l2) (hc2 : l2.length ≤ c2) (h : impl_WaitingAt.f k l0 l1 l2 a3 = some r) :
  Calls Try.prog 22 #[.slice A0 l0.length c0, .slice A1 l1.length c1, .slice A2 l2.length c2, .int .i64 a3] w fun e w' => ∃ v0_ : Value, e = .returned (v0_) ∧ Kd.R (Kd.int .i64) 3 w' w.heap.size (fun _ => True) v0_ r ∧ Below w.heap.size w w' := by
 have HR0 := Aside0.mk hr0
 have HC0 := Aside0.mk hc0
 clear hr0 hc0
 have HR1 := Aside0.mk hr1
 have HC1 := Aside0.mk hc1
 clear hr1 hc1
 have HR2 := Aside0.mk hr2
 have HC2 := Aside0.mk hc2
 clear hr2 hc2
 have HB := Aside0.mk (Below.refl w.heap.size w)
 have H : ((impl_ServedAt.f k l0 l1 l2).bind fun t797 => (impl_WaitingAt.l0 k l2 a3 (([] : List Int)) t797 (t797.length : Int) 0)) = some r := h
 clear h
 obtain ⟨y794, hy794⟩ : ∃ y_ : List Int, y_ = (([] : List Int)) := ⟨_, rfl⟩
 replace H : ((impl_ServedAt.f k l0 l1 l2).bind fun t797 => (impl_WaitingAt.l0 k l2 a3 y794 t797 (t797.length : Int) 0)) = some r := rH H hy794
 have Ny794 := Aside0.mk hy794
 clear hy794
 obtain ⟨t797, A5, H⟩ := bindE H
 try dsimp only at H
 have H' := Aside0.mk H
 clear H
 go_enter Try.func22, Try.ntmps22
 go_wp2_with (first | ((with_reducible refine gate_dst (N := 12) rfl ?_); refine Kd.R_lit (Kd.int .i64) _ 3 ?hg (N := 12) ?hd (xs := ([] : List Int)) (inner := []) (ok := fun _ => True) (okp := fun _ => True) ?hr ?hp (fun _ hk => hk) trivial (Below.refl _ _) (Nat.le_refl _) (by simp) ?_; (case hd => rfl); (case hg => rfl); (case hr => first | (go_simp; done) | (go_simp; rfl)); (case hp => exact (Reps.none _ _)); intro v795 w6 ho7 hb hg_ hnew_; clear hg_ hnew_; (first | rw [← Ny794.out] at ho7 | (simp only [Int.reduceToNat] at ho7; rw [← Ny794.out] at ho7)); have HO796 := rl w ho7; replace HB := bs HB hb; clear hb ho7) | ((with_reducible refine gate_callee (f := 18) rfl ?_); refine gL (some 16) Try.func18 #[.slice A0 l0.length c0, .slice A1 l1.length c1, .slice A2 l2.length c2] ?_; (with_reducible refine (impl_ServedAt.calls k _ _ l0 _ _ l1 _ _ l2 t797 _ ?_ ?_ ?_ ?_ ?_ ?_ A5.out).mono ?_); exact cB HR0; exact HC0.out; exact cB HR1; exact HC1.out; exact cB HR2; exact HC2.out; rintro e w8 ⟨v798, rfl, ho0, hb⟩; refine ⟨_, rfl, ?_⟩; have HO799 := rl w (rn ho0 HO796); replace HO796 := re HO796 ho0 hb; replace HB := bs HB hb; (try clear hb); (try clear ho0); obtain ⟨Ao9, co9, eo9⟩ := Kd.R_slice HO799.out; subst eo9))
 go_loopg [9, 18] k (fun kq v9 v18 w' => ∃ (x9_1 : List Int) (x18_1 : Int), v18 = .int .i64 x18_1 ∧ Aside0 (impl_WaitingAt.l0 kq l2 a3 x9_1 t797 (t797.length : Int) x18_1 = some r) ∧ Aside0 (kq ≤ k) ∧ Aside0 (Kd.R (Kd.int .i64) 3 w' w.heap.size (n1 (.slice Ao9 t797.length co9)) v9 x9_1) ∧ Aside0 (Kd.R (Kd.int .i64) 3 w' w.heap.size (n1 v9) (.slice Ao9 t797.length co9) t797) ∧ Aside0 (Below w.heap.size w w'))
 case atStart => exact ⟨(y794), (0), rS, H', ⟨Nat.le_refl _⟩, ⟨rm HO796 (fun _ hk => hk.2)⟩, ⟨rm HO799 (fun _ hk => hk.2)⟩, ⟨bA⟩⟩
 case round =>
  clear H'
  obtain ⟨x9_1, x18_1, rfl, HA, HK1, HO_9, HO_16, HB⟩ := hrel
  cases gk with
  | zero => exact absurd HA.out (by simp [impl_WaitingAt.l0])
  | succ k1 =>
   have H := HA.out
   clear HA
   simp only [impl_WaitingAt.l0] at H
   by_cases c10 : x18_1 < (t797.length : Int)
   ·
    rw [if_pos c10] at H
    have c10b0 := decide_eq_true c10
    clear c10
    have c11 : 0 ≤ x18_1 := ifN H
    replace H := ifT H
    have c11b0 := decide_eq_true c11
    clear c11
    have c12 : x18_1 < (t797.length : Int) := ifN H
    replace H := ifT H
    have c12b0 := decide_eq_true c12
    clear c12
    have c13 : x18_1 < (l2.length : Int) := ifN H
    replace H := ifT H
    have c13b0 := decide_eq_true c13
    clear c13
    by_cases c14 : ((rd_T114 l2 x18_1).f1) ≤ a3
    ·
     rw [if_pos c14] at H
     have c14b0 := decide_eq_true c14
     clear c14
     by_cases c15 : (rd t797 x18_1) > a3
     ·
      rw [if_pos c15] at H
      have c15b0 := decide_eq_true c15
      clear c15
      have c16 : x9_1.length < 17592186044416 := ifN H
      replace H := ifT H
      have LMc16 := Aside0.mk c16
      clear c16
      obtain ⟨y803, hy803⟩ : ∃ y_ : List Int, y_ = (x9_1 ++ [(rd_T114 l2 x18_1).f0]) := ⟨_, rfl⟩
      replace H : (impl_WaitingAt.l0 k1 l2 a3 y803 t797 (t797.length : Int) (wrap64 (x18_1 + 1))) = some r := rH H hy803
      have Ny803 := Aside0.mk hy803
      clear hy803
      have H' := Aside0.mk H
      clear H
      obtain ⟨p800, q800⟩ : 0 ≤ (x18_1 : Int) ∧ x18_1 < (t797.length : Int) := ⟨dA, dA⟩
      obtain ⟨ad800, e800, hx800_0⟩ := Kd.at_int (Kd.R_reads' HO_16.out).2.2 x18_1 p800 q800
      cases e800
      obtain ⟨p800, q800⟩ := eT p800 q800
      obtain ⟨p801, q801⟩ : 0 ≤ (x18_1 : Int) ∧ x18_1 < (l2.length : Int) := ⟨dA, dA⟩
      obtain ⟨ad801, e801, hx801_0, hx801_1⟩ := at_T114 (Kd.C_below HR2.out HB.out) x18_1 p801 q801
      cases e801
      obtain ⟨p801, q801⟩ := eT p801 q801
      obtain ⟨p802, q802⟩ : 0 ≤ (x18_1 : Int) ∧ x18_1 < (l2.length : Int) := ⟨dA, dA⟩
      obtain ⟨ad802, e802, hx802_0, hx802_1⟩ := at_T114 (Kd.C_below HR2.out HB.out) x18_1 p802 q802
      obtain rfl : ad801 = ad802 := (by injection e802)
      obtain ⟨p802, q802⟩ := eT p802 q802
      go_wp2_with (first | ((with_reducible refine gate_builtin (b := .append) (xs := #[.tmp 35, .tmp 41]) rfl ?_); at_builtin; refine Kd.R_append (Kd.int .i64) (w0 := w) w.heap.size rfl (.tmp 35) (.tmp 41) 35 3 (.int .i64 0) 8 rfl Try.underlying35 info3 rfl (by decide) (by omega) u9 x9_1 ((rd_T114 l2 x18_1).f0) [.int .i64 ((rd_T114 l2 x18_1).f0)] (n1 (.slice (some ad800) t797.length co9)) (fun _ => False) rfl rfl ?aP (fun _ hk => hk.elim) ?aF ?aO ?aB ?aS ?aL ?_; (case aP => exact rfl); (case aB => exact bA); (case aF => exact (fun k_ hk => Kd.fresh' (Kd.R_lt (rK HO_16)) k_ hk)); (case aO => exact (rK HO_9)); (case aS => exact (below_size bA)); (case aL => have := LMc16.out; omega); intro v804 w17 ho hb hg hat; rw [← Ny803.out] at ho; have n0_ := Aside0.mk (Kd.R_after (ok := (fun _ => True)) (rm HO_16 (fun _ hk => ⟨trivial, hk⟩)) hg hat); have n1_ := Aside0.mk (hb); have n2_ := Aside0.mk (ho); clear HO_16; clear HB; clear HO_9; have HO_16 := n0_; have HB := n1_; have HO805 := n2_; clear n0_ n1_ n2_; clear ho hb hg hat))
      go_roundg k1
      case measure => have := HK1.out; omega
      case rel => exact ⟨(y803), (wrap64 (x18_1 + 1)), rS, H', ⟨by have := HK1.out; omega⟩, ⟨rK HO805⟩, ⟨rm HO_16 (fun _ hk => hk.2)⟩, ⟨bA⟩⟩
     rw [if_neg c15] at H
     have c15b0 := decide_eq_false c15
     clear c15
     have H' := Aside0.mk H
     clear H
     obtain ⟨p800, q800⟩ : 0 ≤ (x18_1 : Int) ∧ x18_1 < (t797.length : Int) := ⟨dA, dA⟩
     obtain ⟨ad800, e800, hx800_0⟩ := Kd.at_int (Kd.R_reads' HO_16.out).2.2 x18_1 p800 q800
     cases e800
     obtain ⟨p800, q800⟩ := eT p800 q800
     obtain ⟨p801, q801⟩ : 0 ≤ (x18_1 : Int) ∧ x18_1 < (l2.length : Int) := ⟨dA, dA⟩
     obtain ⟨ad801, e801, hx801_0, hx801_1⟩ := at_T114 (Kd.C_below HR2.out HB.out) x18_1 p801 q801
     cases e801
     obtain ⟨p801, q801⟩ := eT p801 q801
     go_wp2
     go_roundg k1
     case measure => have := HK1.out; omega
     case rel => exact ⟨(x9_1), (wrap64 (x18_1 + 1)), rS, H', ⟨by have := HK1.out; omega⟩, ⟨rK HO_9⟩, ⟨rK HO_16⟩, ⟨bA⟩⟩
    rw [if_neg c14] at H
    have c14b0 := decide_eq_false c14
    clear c14
    have H' := Aside0.mk H
    clear H
    obtain ⟨p800, q800⟩ : 0 ≤ (x18_1 : Int) ∧ x18_1 < (t797.length : Int) := ⟨dA, dA⟩
    obtain ⟨ad800, e800, hx800_0⟩ := Kd.at_int (Kd.R_reads' HO_16.out).2.2 x18_1 p800 q800
    cases e800
    obtain ⟨p800, q800⟩ := eT p800 q800
    obtain ⟨p801, q801⟩ : 0 ≤ (x18_1 : Int) ∧ x18_1 < (l2.length : Int) := ⟨dA, dA⟩
    obtain ⟨ad801, e801, hx801_0, hx801_1⟩ := at_T114 (Kd.C_below HR2.out HB.out) x18_1 p801 q801
    cases e801
    obtain ⟨p801, q801⟩ := eT p801 q801
    go_wp2
    go_roundg k1
    case measure => have := HK1.out; omega
    case rel => exact ⟨(x9_1), (wrap64 (x18_1 + 1)), rS, H', ⟨by have := HK1.out; omega⟩, ⟨rK HO_9⟩, ⟨rK HO_16⟩, ⟨bA⟩⟩
   rw [if_neg c10] at H
   have c10b0 := decide_eq_false c10
   clear c10
   obtain ⟨t806, A18, H⟩ := bindE H
   try dsimp only at H
   obtain ⟨t807, A19, H⟩ := bindE H
   try dsimp only at H
   obtain rfl := Option.some.inj H
   obtain ⟨Ao20, co20, eo20⟩ := Kd.R_slice HO_9.out
   subst eo20
   go_wp2_with (first | ((with_reducible refine gate_callee (f := 85) rfl ?_); refine gL (some 45) Try.func85 #[.slice Ao20 x9_1.length co20] ?_; (with_reducible refine (slices_Sort_int_int.calls (fun k_ => some k_ = (.slice Ao20 x9_1.length co20 : Value).ownBlock) (.slice Ao20 x9_1.length co20) x9_1 t806 w _ ?_ ?_ A18.out).mono ?_); exact sB0 HB.out; exact Kd.R_tight rfl HO_9.out; rintro e w21 ⟨rfl, hy0, hb, hkp⟩; refine ⟨_, rfl, ?_⟩; replace HO_9 := Aside0.mk (Kd.R_reok rfl hy0 (fun k_ e_ => HO_9.out.1 k_ e_)); replace HO_16 := Aside0.mk (Kd.R_kept HO_16.out hkp (fun k_ hk_ hs_ => (hk_) hs_)); replace HB := Aside0.mk (hb); (try clear hb); (try clear hkp); (try clear hy0)) | ((with_reducible refine gate_callee (f := 86) rfl ?_); refine gL (some 47) Try.func86 #[.slice Ao20 x9_1.length co20] ?_; (with_reducible refine (slices_Compact_int_int.calls (fun k_ => some k_ = (.slice Ao20 x9_1.length co20 : Value).ownBlock) (.slice Ao20 x9_1.length co20) t806 t807 w _ ?_ ?_ A19.out).mono ?_); exact sB0 HB.out; exact Kd.R_tight rfl HO_9.out; rintro e w22 ⟨v808, rfl, ho0, hb, hkp⟩; refine ⟨_, rfl, ?_⟩; have n0_ := Aside0.mk (Kd.R_mono (ok' := n1 v808) (Kd.R_keptB (HO_16.out) hkp (fun k_ hk_ hs_ => (hk_) hs_)) (fun k_ hk_ => fun e_ => Or.elim (ho0.1 k_ e_.symm) (fun hs_ => hk_.2.1 hs_) (fun hn_ => Nat.not_le.2 hk_.2.2 hn_))); have n1_ := Aside0.mk (Kd.R_mono (ok' := n1 (.slice Ao9 t797.length co9)) ho0 (fun k_ hk_ => Or.elim hk_ (fun hs_ => fun e_ => (((HO_16.out).1 k_ e_.symm)) hs_) (fun hn_ => (Kd.fresh' (Kd.R_lt (rK HO_16)) k_ hn_)))); have n2_ := Aside0.mk (hb); clear HO_16; clear HB; clear HO_9; have HO_16 := n0_; have HO809 := n1_; have HB := n2_; clear n0_ n1_ n2_; (try clear hb); (try clear hkp); (try clear ho0)))
   go_ret
   exact ⟨_, rA, rm HO809 (fun _ hk => trivial), bA⟩

/-! ### laws_ascends: function 23 -/
def laws_ascends.l0 : Nat → List Int → Int → Option (Bool)
 | 0, _, _ => none
 | k + 1, x0, x3 => if x3 < (x0.length : Int) then (if 0 ≤ (wrap64 (x3 - 1)) then (if (wrap64 (x3 - 1)) < (x0.length : Int) then (if 0 ≤ x3 then (if (rd x0 (wrap64 (x3 - 1))) ≥ (rd x0 x3) then (some false) else (laws_ascends.l0 k x0 (wrap64 (x3 + 1)))) else (none)) else (none)) else (none)) else (some true)
def laws_ascends.f (k : Nat) (l0 : List Int) : Option (Bool) := laws_ascends.l0 k l0 1
theorem laws_ascends.mono_l : ∀ k, (∀ y0 y1, LeO (laws_ascends.l0 k y0 y1) (laws_ascends.l0 (k + 1) y0 y1))
 | 0 => fun _ _ r h => by simp [laws_ascends.l0] at h
 | k + 1 => by
  have ih0 := laws_ascends.mono_l k
  ·
   intro y0 y1
   unfold laws_ascends.l0
   exact mz1 ih0
theorem laws_ascends.mono : ∀ a0 k, LeO (laws_ascends.f k a0) (laws_ascends.f (k + 1) a0) := by
 intro a0 k
 have ih0 := laws_ascends.mono_l k
 unfold laws_ascends.f
 exact mz1 ih0
set_option maxHeartbeats 8000000 in
set_option maxRecDepth 100000 in
theorem laws_ascends.calls (k : Nat) (A0 : Option Addr) (c0 : Nat) (l0 : List Int) (r : Bool) (w : World) (hr0 : Kd.C (Kd.int .i64) w A0 l0.length l0) (hc0 : l0.length ≤ c0) (h : laws_ascends.f k l0 = some r) :
  Calls Try.prog 23 #[.slice A0 l0.length c0] w fun e w' => e = .returned (.bool r) ∧ Drawn0 w w' := by
 have HR0 := Aside0.mk hr0
 have HC0 := Aside0.mk hc0
 clear hr0 hc0
 have H : (laws_ascends.l0 k l0 1) = some r := h
 clear h
 have H' := Aside0.mk H
 clear H
 go_enter Try.func23, Try.ntmps23
 go_wp2
 repeat (go_quiet (fail); try go_wp2)
 go_loopg [3] k (fun kq v3 w' => ∃ (x3_1 : Int), v3 = .int .i64 x3_1 ∧ Aside0 (laws_ascends.l0 kq l0 x3_1 = some r) ∧ Aside0 (kq ≤ k) ∧ Drawn0 w w')
 case atStart => exact ⟨(1), rS, H', ⟨Nat.le_refl _⟩, by repeat (first | exact Drawn0.refl _ | apply Drawn0.step)⟩
 case round =>
  clear H'
  obtain ⟨x3_1, rfl, HA, HK1, ⟨m1, rfl⟩⟩ := hrel
  cases gk with
  | zero => exact absurd HA.out (by simp [laws_ascends.l0])
  | succ k1 =>
   have H := HA.out
   clear HA
   simp only [laws_ascends.l0] at H
   by_cases c2 : x3_1 < (l0.length : Int)
   ·
    rw [if_pos c2] at H
    have c2b0 := decide_eq_true c2
    clear c2
    obtain ⟨ji3, hji3⟩ : ∃ j_ : Int, (wrap64 (x3_1 - 1)) = j_ := ⟨_, rfl⟩
    replace H : (if 0 ≤ (ji3) then (if (ji3) < (l0.length : Int) then (if 0 ≤ x3_1 then (if (rd l0 (ji3)) ≥ (rd l0 x3_1) then (some false) else (laws_ascends.l0 k1 l0 (wrap64 (x3_1 + 1)))) else (none)) else (none)) else (none)) = some r := by first | (rw [hji3] at H; exact H) | (simp only [hji3] at H ⊢; exact H)
    have hji3w : (IntKind.i64.wrap (x3_1 - 1)) = ji3 := (i64_w _).trans hji3
    have c4 : 0 ≤ (ji3) := ifN H
    replace H := ifT H
    have c4b0 := decide_eq_true c4
    clear c4
    have c5 : (ji3) < (l0.length : Int) := ifN H
    replace H := ifT H
    have c5b0 := decide_eq_true c5
    clear c5
    have c6 : 0 ≤ x3_1 := ifN H
    replace H := ifT H
    have c6b0 := decide_eq_true c6
    clear c6
    by_cases c7 : (rd l0 (ji3)) ≥ (rd l0 x3_1)
    ·
     rw [if_pos c7] at H
     have c7b0 := decide_eq_true c7
     clear c7
     obtain rfl := Option.some.inj H
     obtain ⟨p810, q810⟩ : 0 ≤ ((ji3) : Int) ∧ (ji3) < (l0.length : Int) := ⟨dA, dA⟩
     obtain ⟨ad810, e810, hx810_0⟩ := Kd.at_int HR0.out (ji3) p810 q810
     cases e810
     obtain ⟨p810, q810⟩ := eT p810 q810
     obtain ⟨p811, q811⟩ : 0 ≤ (x3_1 : Int) ∧ x3_1 < (l0.length : Int) := ⟨dA, dA⟩
     obtain ⟨ad811, e811, hx811_0⟩ := Kd.at_int HR0.out x3_1 p811 q811
     obtain rfl : ad810 = ad811 := (by injection e811)
     obtain ⟨p811, q811⟩ := eT p811 q811
     go_wp2
     repeat (go_quiet (fail); try go_wp2)
     go_ret
     exact ⟨by first | rfl | (simp; done) | (simp only [← hji3] <;> (first | rfl | simp)) | (simp [*]; done), by repeat (first | exact Drawn0.refl _ | apply Drawn0.step)⟩
    rw [if_neg c7] at H
    have c7b0 := decide_eq_false c7
    clear c7
    have H' := Aside0.mk H
    clear H
    obtain ⟨p810, q810⟩ : 0 ≤ ((ji3) : Int) ∧ (ji3) < (l0.length : Int) := ⟨dA, dA⟩
    obtain ⟨ad810, e810, hx810_0⟩ := Kd.at_int HR0.out (ji3) p810 q810
    cases e810
    obtain ⟨p810, q810⟩ := eT p810 q810
    obtain ⟨p811, q811⟩ : 0 ≤ (x3_1 : Int) ∧ x3_1 < (l0.length : Int) := ⟨dA, dA⟩
    obtain ⟨ad811, e811, hx811_0⟩ := Kd.at_int HR0.out x3_1 p811 q811
    obtain rfl : ad810 = ad811 := (by injection e811)
    obtain ⟨p811, q811⟩ := eT p811 q811
    go_wp2
    repeat (go_quiet (fail); try go_wp2)
    go_roundg k1
    case measure => have := HK1.out; omega
    case rel => exact ⟨(wrap64 (x3_1 + 1)), rS, H', ⟨by have := HK1.out; omega⟩, by repeat (first | exact Drawn0.refl _ | apply Drawn0.step)⟩
   rw [if_neg c2] at H
   have c2b0 := decide_eq_false c2
   clear c2
   obtain rfl := Option.some.inj H
   go_wp2
   repeat (go_quiet (fail); try go_wp2)
   go_ret
   exact ⟨rS, dD⟩

/-! ### laws_FnServed: function 3 -/
mutual
def laws_FnServed.j0 : Nat → List Int → List (S50) → List (S85) → Int → Int → Int → Bool → Option (Bool)
 | 0, _, _, _, _, _, _, _ => none
 | k + 1, x0, x3, x4, x5, x6, x7, x58 => if x58 = true then (none) else ((impl_IsPlan.f k x3 x4).bind fun t824 => (if t824 = true then ((impl_FindPath.f x3 x5).bind fun t825 => (if t825 ≥ 0 then (if x6 ≥ 0 then (laws_FnServed.j1 k x0 ((decide (x7 ≥ 0)) != (decide (x6 ≤ 100000)))) else (laws_FnServed.j1 k x0 ((decide (x7 ≥ 0)) != false))) else (laws_FnServed.j1 k x0 ((decide (x7 ≥ 0)) != false)))) else (laws_FnServed.j1 k x0 ((decide (x7 ≥ 0)) != false))))
def laws_FnServed.j1 : Nat → List Int → Bool → Option (Bool)
 | 0, _, _ => none
 | k + 1, x0, x78 => if x78 = true then (none) else ((spec_DrawServedAt.f k x0).bind fun bt826 => ((impl_ServedAt.f k bt826.1 bt826.2.1 bt826.2.2).bind fun t835 => (laws_FnServed.l0 k x0 bt826.1 bt826.2.1 bt826.2.2 t835 true 0)))
def laws_FnServed.l0 : Nat → List Int → List (S50) → List (S85) → List (S114) → List Int → Bool → Int → Option (Bool)
 | 0, _, _, _, _, _, _, _ => none
 | k + 1, x0, x8, x9, x10, x11, x12, x13 => if x13 < (x10.length : Int) then (if x12 = true then (if 0 ≤ x13 then (if x13 < (x11.length : Int) then (laws_FnServed.l0 k x0 x8 x9 x10 x11 (decide ((rd x11 x13) ≥ 0)) (wrap64 (x13 + 1))) else (none)) else (none)) else (laws_FnServed.l0 k x0 x8 x9 x10 x11 false (wrap64 (x13 + 1)))) else (if (x11.length : Int) = (x10.length : Int) then ((impl_WorstWait.f k x8 x9).bind fun t839 => ((impl_IsWithin.f k x8 x9 x10 t839).bind fun t840 => (laws_FnServed.j3 k x0 (x12 != t840)))) else (laws_FnServed.j3 k x0 true))
def laws_FnServed.j3 : Nat → List Int → Bool → Option (Bool)
 | 0, _, _ => none
 | k + 1, x0, x118 => if x118 = true then (none) else ((spec_DrawWaitingAt.f k x0).bind fun bt841 => ((impl_WaitingAt.f k bt841.1 bt841.2.1 bt841.2.2.1 bt841.2.2.2).bind fun t851 => (laws_FnServed.l1 k bt841.1 t851 0)))
def laws_FnServed.l1 : Nat → List (S50) → List Int → Int → Option (Bool)
 | 0, _, _, _ => none
 | k + 1, x14, x18, x19 => if x19 < (x18.length : Int) then (if 0 ≤ x19 then ((impl_FindPath.f x14 (rd x18 x19)).bind fun t855 => (if t855 < 0 then (none) else (laws_FnServed.l1 k x14 x18 (wrap64 (x19 + 1))))) else (none)) else ((laws_ascends.f k x18).bind fun t856 => (some t856))
end
def laws_FnServed.f (k : Nat) (l0 : List Int) : Option (Bool) := (laws_big.f l0).bind fun t812 => (if t812 = true then (some true) else ((spec_DrawNextGreen.f k l0).bind fun bt813 => ((impl_NextGreen.f k bt813.1 bt813.2.1 bt813.2.2.1 bt813.2.2.2).bind fun t821 => (if t821 ≥ 0 then (if t821 < bt813.2.2.2 then (laws_FnServed.j0 k l0 bt813.1 bt813.2.1 bt813.2.2.1 bt813.2.2.2 t821 true) else ((impl_WaitOf.f k bt813.1 bt813.2.1 bt813.2.2.1).bind fun t822 => (if (wrap64 (t821 - bt813.2.2.2)) > t822 then (laws_FnServed.j0 k l0 bt813.1 bt813.2.1 bt813.2.2.1 bt813.2.2.2 t821 true) else ((impl_LightAt.f k bt813.1 bt813.2.1 t821 bt813.2.2.1).bind fun t823 => (laws_FnServed.j0 k l0 bt813.1 bt813.2.1 bt813.2.2.1 bt813.2.2.2 t821 (t823 != 1)))))) else (laws_FnServed.j0 k l0 bt813.1 bt813.2.1 bt813.2.2.1 bt813.2.2.2 t821 false)))))
theorem laws_FnServed.mono_l : ∀ k, (∀ y0 y1 y2 y3 y4 y5 y6, LeO (laws_FnServed.j0 k y0 y1 y2 y3 y4 y5 y6) (laws_FnServed.j0 (k + 1) y0 y1 y2 y3 y4 y5 y6)) ∧ (∀ y0 y1, LeO (laws_FnServed.j1 k y0 y1) (laws_FnServed.j1 (k + 1) y0 y1)) ∧ (∀ y0 y1 y2 y3 y4 y5 y6, LeO (laws_FnServed.l0 k y0 y1 y2 y3 y4 y5 y6) (laws_FnServed.l0 (k + 1) y0 y1 y2 y3 y4 y5 y6)) ∧ (∀ y0 y1, LeO (laws_FnServed.j3 k y0 y1) (laws_FnServed.j3 (k + 1) y0 y1)) ∧ (∀ y0 y1 y2, LeO (laws_FnServed.l1 k y0 y1 y2) (laws_FnServed.l1 (k + 1) y0 y1 y2))
 | 0 => ⟨fun _ _ _ _ _ _ _ r h => by simp [laws_FnServed.j0] at h, fun _ _ r h => by simp [laws_FnServed.j1] at h, fun _ _ _ _ _ _ _ r h => by simp [laws_FnServed.l0] at h, fun _ _ r h => by simp [laws_FnServed.j3] at h, fun _ _ _ r h => by simp [laws_FnServed.l1] at h⟩
 | k + 1 => by
  obtain ⟨ih0, ih1, ih2, ih3, ih4⟩ := laws_FnServed.mono_l k
  refine ⟨?_, ?_, ?_, ?_, ?_⟩
  ·
   intro y0 y1 y2 y3 y4 y5 y6
   unfold laws_FnServed.j0
   repeat' first | (with_reducible first | exact LeO.refl _ | exact LeO.none _ | refine LeO.ite ?_ ?_ | refine LeO.bind ?_ (fun _ => ?_) | exact ih0 _ _ _ _ _ _ _ | exact ih1 _ _ | exact ih2 _ _ _ _ _ _ _ | exact ih3 _ _ | exact ih4 _ _ _ | exact impl_IsPlan.mono _ _ _ | exact impl_IsWithin.mono _ _ _ _ _ | exact impl_LightAt.mono _ _ _ _ _ | exact impl_NextGreen.mono _ _ _ _ _ | exact impl_ServedAt.mono _ _ _ _ | exact impl_WaitOf.mono _ _ _ _ | exact impl_WaitingAt.mono _ _ _ _ _ | exact impl_WorstWait.mono _ _ _ | exact laws_ascends.mono _ _ | exact spec_DrawNextGreen.mono _ _ | exact spec_DrawServedAt.mono _ _ | exact spec_DrawWaitingAt.mono _ _)
  ·
   intro y0 y1
   unfold laws_FnServed.j1
   repeat' first | (with_reducible first | exact LeO.refl _ | exact LeO.none _ | refine LeO.ite ?_ ?_ | refine LeO.bind ?_ (fun _ => ?_) | exact ih0 _ _ _ _ _ _ _ | exact ih1 _ _ | exact ih2 _ _ _ _ _ _ _ | exact ih3 _ _ | exact ih4 _ _ _ | exact impl_IsPlan.mono _ _ _ | exact impl_IsWithin.mono _ _ _ _ _ | exact impl_LightAt.mono _ _ _ _ _ | exact impl_NextGreen.mono _ _ _ _ _ | exact impl_ServedAt.mono _ _ _ _ | exact impl_WaitOf.mono _ _ _ _ | exact impl_WaitingAt.mono _ _ _ _ _ | exact impl_WorstWait.mono _ _ _ | exact laws_ascends.mono _ _ | exact spec_DrawNextGreen.mono _ _ | exact spec_DrawServedAt.mono _ _ | exact spec_DrawWaitingAt.mono _ _)
  ·
   intro y0 y1 y2 y3 y4 y5 y6
   unfold laws_FnServed.l0
   repeat' first | (with_reducible first | exact LeO.refl _ | exact LeO.none _ | refine LeO.ite ?_ ?_ | refine LeO.bind ?_ (fun _ => ?_) | exact ih0 _ _ _ _ _ _ _ | exact ih1 _ _ | exact ih2 _ _ _ _ _ _ _ | exact ih3 _ _ | exact ih4 _ _ _ | exact impl_IsPlan.mono _ _ _ | exact impl_IsWithin.mono _ _ _ _ _ | exact impl_LightAt.mono _ _ _ _ _ | exact impl_NextGreen.mono _ _ _ _ _ | exact impl_ServedAt.mono _ _ _ _ | exact impl_WaitOf.mono _ _ _ _ | exact impl_WaitingAt.mono _ _ _ _ _ | exact impl_WorstWait.mono _ _ _ | exact laws_ascends.mono _ _ | exact spec_DrawNextGreen.mono _ _ | exact spec_DrawServedAt.mono _ _ | exact spec_DrawWaitingAt.mono _ _)
  ·
   intro y0 y1
   unfold laws_FnServed.j3
   repeat' first | (with_reducible first | exact LeO.refl _ | exact LeO.none _ | refine LeO.ite ?_ ?_ | refine LeO.bind ?_ (fun _ => ?_) | exact ih0 _ _ _ _ _ _ _ | exact ih1 _ _ | exact ih2 _ _ _ _ _ _ _ | exact ih3 _ _ | exact ih4 _ _ _ | exact impl_IsPlan.mono _ _ _ | exact impl_IsWithin.mono _ _ _ _ _ | exact impl_LightAt.mono _ _ _ _ _ | exact impl_NextGreen.mono _ _ _ _ _ | exact impl_ServedAt.mono _ _ _ _ | exact impl_WaitOf.mono _ _ _ _ | exact impl_WaitingAt.mono _ _ _ _ _ | exact impl_WorstWait.mono _ _ _ | exact laws_ascends.mono _ _ | exact spec_DrawNextGreen.mono _ _ | exact spec_DrawServedAt.mono _ _ | exact spec_DrawWaitingAt.mono _ _)
  ·
   intro y0 y1 y2
   unfold laws_FnServed.l1
   repeat' first | (with_reducible first | exact LeO.refl _ | exact LeO.none _ | refine LeO.ite ?_ ?_ | refine LeO.bind ?_ (fun _ => ?_) | exact ih0 _ _ _ _ _ _ _ | exact ih1 _ _ | exact ih2 _ _ _ _ _ _ _ | exact ih3 _ _ | exact ih4 _ _ _ | exact impl_IsPlan.mono _ _ _ | exact impl_IsWithin.mono _ _ _ _ _ | exact impl_LightAt.mono _ _ _ _ _ | exact impl_NextGreen.mono _ _ _ _ _ | exact impl_ServedAt.mono _ _ _ _ | exact impl_WaitOf.mono _ _ _ _ | exact impl_WaitingAt.mono _ _ _ _ _ | exact impl_WorstWait.mono _ _ _ | exact laws_ascends.mono _ _ | exact spec_DrawNextGreen.mono _ _ | exact spec_DrawServedAt.mono _ _ | exact spec_DrawWaitingAt.mono _ _)
theorem laws_FnServed.mono : ∀ a0 k, LeO (laws_FnServed.f k a0) (laws_FnServed.f (k + 1) a0) := by
 intro a0 k
 obtain ⟨ih0, ih1, ih2, ih3, ih4⟩ := laws_FnServed.mono_l k
 unfold laws_FnServed.f
 repeat' first | (with_reducible first | exact LeO.refl _ | exact LeO.none _ | refine LeO.ite ?_ ?_ | refine LeO.bind ?_ (fun _ => ?_) | exact ih0 _ _ _ _ _ _ _ | exact ih1 _ _ | exact ih2 _ _ _ _ _ _ _ | exact ih3 _ _ | exact ih4 _ _ _ | exact impl_IsPlan.mono _ _ _ | exact impl_IsWithin.mono _ _ _ _ _ | exact impl_LightAt.mono _ _ _ _ _ | exact impl_NextGreen.mono _ _ _ _ _ | exact impl_ServedAt.mono _ _ _ _ | exact impl_WaitOf.mono _ _ _ _ | exact impl_WaitingAt.mono _ _ _ _ _ | exact impl_WorstWait.mono _ _ _ | exact laws_ascends.mono _ _ | exact spec_DrawNextGreen.mono _ _ | exact spec_DrawServedAt.mono _ _ | exact spec_DrawWaitingAt.mono _ _)
set_option maxHeartbeats 8000000 in
set_option maxRecDepth 100000 in
theorem laws_FnServed.calls (k : Nat) (A0 : Option Addr) (c0 : Nat) (l0 : List Int) (r : Bool) (w : World) (hr0 : Kd.C (Kd.int .u8) w A0 l0.length l0) (hc0 : l0.length ≤ c0) (h : laws_FnServed.f k l0 = some r) :
  Calls Try.prog 3 #[.slice A0 l0.length c0] w fun e w' => e = .returned (.bool r) ∧ Below w.heap.size w w' := by
 have HR0 := Aside0.mk hr0
 have HC0 := Aside0.mk hc0
 clear hr0 hc0
 have HB := Aside0.mk (Below.refl w.heap.size w)
 have H : ((laws_big.f l0).bind fun t812 => (if t812 = true then (some true) else ((spec_DrawNextGreen.f k l0).bind fun bt813 => ((impl_NextGreen.f k bt813.1 bt813.2.1 bt813.2.2.1 bt813.2.2.2).bind fun t821 => (if t821 ≥ 0 then (if t821 < bt813.2.2.2 then (laws_FnServed.j0 k l0 bt813.1 bt813.2.1 bt813.2.2.1 bt813.2.2.2 t821 true) else ((impl_WaitOf.f k bt813.1 bt813.2.1 bt813.2.2.1).bind fun t822 => (if (wrap64 (t821 - bt813.2.2.2)) > t822 then (laws_FnServed.j0 k l0 bt813.1 bt813.2.1 bt813.2.2.1 bt813.2.2.2 t821 true) else ((impl_LightAt.f k bt813.1 bt813.2.1 t821 bt813.2.2.1).bind fun t823 => (laws_FnServed.j0 k l0 bt813.1 bt813.2.1 bt813.2.2.1 bt813.2.2.2 t821 (t823 != 1)))))) else (laws_FnServed.j0 k l0 bt813.1 bt813.2.1 bt813.2.2.1 bt813.2.2.2 t821 false)))))) = some r := h
 clear h
 obtain ⟨t812, A2, H⟩ := bindE H
 try dsimp only at H
 by_cases c3 : t812 = true
 ·
  subst c3
  have H1 : (some true) = some r := by rw [if_pos rfl] at H; exact H
  clear H
  have H := H1
  clear H1
  obtain rfl := Option.some.inj H
  go_enter Try.func3, Try.ntmps3
  go_wp2_with (first | ((with_reducible refine gate_callee (f := 10) rfl ?_); refine gL (some 21) Try.func10 #[.slice A0 l0.length c0] ?_; (with_reducible refine (laws_big.calls _ _ l0 true _ ?_ ?_ A2.out).mono ?_); exact cO HR0; exact HC0.out; rintro e w' ⟨rfl, ⟨nd, rfl⟩⟩; refine ⟨_, rfl, ?_⟩))
  go_ret
  exact ⟨rA, bA⟩
 replace c3 := Bool.eq_false_iff.mpr c3
 subst c3
 have H1 : ((spec_DrawNextGreen.f k l0).bind fun bt813 => ((impl_NextGreen.f k bt813.1 bt813.2.1 bt813.2.2.1 bt813.2.2.2).bind fun t821 => (if t821 ≥ 0 then (if t821 < bt813.2.2.2 then (laws_FnServed.j0 k l0 bt813.1 bt813.2.1 bt813.2.2.1 bt813.2.2.2 t821 true) else ((impl_WaitOf.f k bt813.1 bt813.2.1 bt813.2.2.1).bind fun t822 => (if (wrap64 (t821 - bt813.2.2.2)) > t822 then (laws_FnServed.j0 k l0 bt813.1 bt813.2.1 bt813.2.2.1 bt813.2.2.2 t821 true) else ((impl_LightAt.f k bt813.1 bt813.2.1 t821 bt813.2.2.1).bind fun t823 => (laws_FnServed.j0 k l0 bt813.1 bt813.2.1 bt813.2.2.1 bt813.2.2.2 t821 (t823 != 1)))))) else (laws_FnServed.j0 k l0 bt813.1 bt813.2.1 bt813.2.2.1 bt813.2.2.2 t821 false)))) = some r := by rw [if_neg (show ¬ (false = true) by decide)] at H; exact H
 clear H
 have H := H1
 clear H1
 obtain ⟨⟨t813, t816, t819, t820⟩, A4, H⟩ := bindE H
 try dsimp only at H
 obtain ⟨t821, A5, H⟩ := bindE H
 try dsimp only at H
 have HC6 := Aside0.mk H
 clear H
 go_enter Try.func3, Try.ntmps3
 go_upto_region 5 with (first | ((with_reducible refine gate_callee (f := 10) rfl ?_); refine gL (some 21) Try.func10 #[.slice A0 l0.length c0] ?_; (with_reducible refine (laws_big.calls _ _ l0 false _ ?_ ?_ A2.out).mono ?_); exact cO HR0; exact HC0.out; rintro e w' ⟨rfl, ⟨nd, rfl⟩⟩; refine ⟨_, rfl, ?_⟩) | ((with_reducible refine gate_callee (f := 11) rfl ?_); refine gL (some 24) Try.func11 #[.slice A0 l0.length c0] ?_; (with_reducible refine (spec_DrawNextGreen.calls k _ _ l0 t813 t816 t819 t820 _ ?_ ?_ A4.out).mono ?_); exact cO HR0; exact HC0.out; rintro e w7 ⟨v814, v817, rfl, ho0, ho1, hb⟩; refine ⟨_, rfl, ?_⟩; have HO815 := rl w (Kd.R_mono (ok' := fun k_ => True) ho0 (fun _ hk_ => trivial)); have HO818 := Aside0.mk (Kd.V_lower (Kd.V_mono (ok' := n1 v814) ho1 (fun k_ hk_ => hk_.2)) (below_size bA)); replace HB := bs HB hb; (try clear hb); (try clear ho0); (try clear ho1); obtain ⟨Ao8, co8, eo8⟩ := Kd.R_slice HO815.out; subst eo8; obtain ⟨Ao9, co9, eo9⟩ := Kd.V_slice HO818.out; subst eo9) | ((with_reducible refine gate_callee (f := 12) rfl ?_); refine gL (some 33) Try.func12 #[.slice Ao8 t813.length co8, .slice Ao9 t816.length co9, .int .i64 t819, .int .i64 t820] ?_; (with_reducible refine (impl_NextGreen.calls k _ _ t813 _ _ t816 t819 t820 t821 _ ?_ ?_ ?_ ?_ A5.out).mono ?_); exact cO ⟨(Kd.R_reads' HO815.out).2.2⟩; exact (Kd.R_reads' HO815.out).2.1; (focus repeat (first | exact (Kd.V_reads' HO818.out).2.2 | (with_reducible refine Kd.C_alloc ?_ _) | (with_reducible refine Kd.C_drewN ?_ _) | (with_reducible refine Kd.C_drew ?_))); exact (Kd.V_reads' HO818.out).2.1; rintro e w10 ⟨rfl, hb⟩; refine ⟨_, rfl, ?_⟩; have n0_ := rb HO815 hb; have n1_ := Aside0.mk (Kd.V_below (by (with_reducible repeat (first | apply Kd.V_alloc | apply Kd.V_drewN | apply Kd.V_drew)); exact HO818.out) hb); have n2_ := bs HB hb; clear HO815; clear HO818; clear HB; have HO815 := n0_; have HO818 := n1_; have HB := n2_; clear n0_ n1_ n2_; (try clear hb)))
 (try simp only [Act.put, List.setIfInBounds_toArray, List.set_cons_zero, List.set_cons_succ])
 go_cut [58] (fun v58 wc => ∃ (kq : Nat) (x58_5 : Bool), v58 = .bool x58_5 ∧ Aside0 (laws_FnServed.j0 kq l0 t813 t816 t819 t820 t821 x58_5 = some r) ∧ Aside0 (kq ≤ k) ∧ Aside0 (Kd.R k50 50 wc w.heap.size (fun _ => True) (.slice Ao8 t813.length co8) t813) ∧ Aside0 (Kd.V k85 85 wc w.heap.size (n1 (.slice Ao8 t813.length co8)) (.slice Ao9 t816.length co9) t816) ∧ Aside0 (Below w.heap.size w wc))
 case first =>
  have H := HC6.out
  clear HC6
  by_cases c11 : t821 ≥ 0
  ·
   rw [if_pos c11] at H
   have c11b0 := decide_eq_true c11
   clear c11
   (first | rw [c11b0] | (simp only [i64_w, i32_w]; rw [c11b0]) | skip)
   by_cases c12 : t821 < t820
   ·
    rw [if_pos c12] at H
    have c12b0 := decide_eq_true c12
    clear c12
    have H' := Aside0.mk H
    clear H
    go_wp2
    go_meet
    case rel => exact ⟨_, (true), rS, H', ⟨oL⟩, ⟨rK HO815⟩, ⟨by (with_reducible repeat (first | apply Kd.V_alloc | apply Kd.V_drewN | apply Kd.V_drew)); exact HO818.out⟩, ⟨bA⟩⟩
   rw [if_neg c12] at H
   have c12b0 := decide_eq_false c12
   clear c12
   obtain ⟨t822, A13, H⟩ := bindE H
   try dsimp only at H
   by_cases c14 : (wrap64 (t821 - t820)) > t822
   ·
    rw [if_pos c14] at H
    have c14b0 := decide_eq_true c14
    clear c14
    have H' := Aside0.mk H
    clear H
    go_wp2_with (first | (go_at_call 13; (with_reducible refine (impl_WaitOf.calls k _ _ t813 _ _ t816 t819 t822 _ ?_ ?_ ?_ ?_ A13.out).mono ?_); exact cO ⟨(Kd.R_reads' HO815.out).2.2⟩; exact (Kd.R_reads' HO815.out).2.1; (focus repeat (first | exact (Kd.V_reads' HO818.out).2.2 | (with_reducible refine Kd.C_alloc ?_ _) | (with_reducible refine Kd.C_drewN ?_ _) | (with_reducible refine Kd.C_drew ?_))); exact (Kd.V_reads' HO818.out).2.1; rintro e w15 ⟨rfl, hb⟩; have n0_ := rb HO815 hb; have n1_ := Aside0.mk (Kd.V_below (by (with_reducible repeat (first | apply Kd.V_alloc | apply Kd.V_drewN | apply Kd.V_drew)); exact HO818.out) hb); have n2_ := bs HB hb; clear HO815; clear HO818; clear HB; have HO815 := n0_; have HO818 := n1_; have HB := n2_; clear n0_ n1_ n2_; (try clear hb)))
    go_meet
    case rel => exact ⟨_, (true), rS, H', ⟨oL⟩, ⟨rK HO815⟩, ⟨by (with_reducible repeat (first | apply Kd.V_alloc | apply Kd.V_drewN | apply Kd.V_drew)); exact HO818.out⟩, ⟨bA⟩⟩
   rw [if_neg c14] at H
   have c14b0 := decide_eq_false c14
   clear c14
   obtain ⟨t823, A16, H⟩ := bindE H
   try dsimp only at H
   have H' := Aside0.mk H
   clear H
   go_wp2_with (first | (go_at_call 13; (with_reducible refine (impl_WaitOf.calls k _ _ t813 _ _ t816 t819 t822 _ ?_ ?_ ?_ ?_ A13.out).mono ?_); exact cO ⟨(Kd.R_reads' HO815.out).2.2⟩; exact (Kd.R_reads' HO815.out).2.1; (focus repeat (first | exact (Kd.V_reads' HO818.out).2.2 | (with_reducible refine Kd.C_alloc ?_ _) | (with_reducible refine Kd.C_drewN ?_ _) | (with_reducible refine Kd.C_drew ?_))); exact (Kd.V_reads' HO818.out).2.1; rintro e w17 ⟨rfl, hb⟩; have n0_ := rb HO815 hb; have n1_ := Aside0.mk (Kd.V_below (by (with_reducible repeat (first | apply Kd.V_alloc | apply Kd.V_drewN | apply Kd.V_drew)); exact HO818.out) hb); have n2_ := bs HB hb; clear HO815; clear HO818; clear HB; have HO815 := n0_; have HO818 := n1_; have HB := n2_; clear n0_ n1_ n2_; (try clear hb)) | (go_at_call 14; (with_reducible refine (impl_LightAt.calls k _ _ t813 _ _ t816 t821 t819 t823 _ ?_ ?_ ?_ ?_ A16.out).mono ?_); exact cO ⟨(Kd.R_reads' HO815.out).2.2⟩; exact (Kd.R_reads' HO815.out).2.1; (focus repeat (first | exact (Kd.V_reads' HO818.out).2.2 | (with_reducible refine Kd.C_alloc ?_ _) | (with_reducible refine Kd.C_drewN ?_ _) | (with_reducible refine Kd.C_drew ?_))); exact (Kd.V_reads' HO818.out).2.1; rintro e w18 ⟨rfl, hb⟩; have n0_ := rb HO815 hb; have n1_ := Aside0.mk (Kd.V_below (by (with_reducible repeat (first | apply Kd.V_alloc | apply Kd.V_drewN | apply Kd.V_drew)); exact HO818.out) hb); have n2_ := bs HB hb; clear HO815; clear HO818; clear HB; have HO815 := n0_; have HO818 := n1_; have HB := n2_; clear n0_ n1_ n2_; (try clear hb)))
   go_meet
   case rel => exact ⟨_, ((t823 != 1)), rS, H', ⟨oL⟩, ⟨rK HO815⟩, ⟨by (with_reducible repeat (first | apply Kd.V_alloc | apply Kd.V_drewN | apply Kd.V_drew)); exact HO818.out⟩, ⟨bA⟩⟩
  rw [if_neg c11] at H
  have c11b0 := decide_eq_false c11
  clear c11
  (first | rw [c11b0] | (simp only [i64_w, i32_w]; rw [c11b0]) | skip)
  have H' := Aside0.mk H
  clear H
  go_wp2
  go_meet
  case rel => exact ⟨_, (false), rS, H', ⟨oL⟩, ⟨rK HO815⟩, ⟨by (with_reducible repeat (first | apply Kd.V_alloc | apply Kd.V_drewN | apply Kd.V_drew)); exact HO818.out⟩, ⟨bA⟩⟩
 case rest =>
  clear HC6
  obtain ⟨kq, x58_5, rfl, HA, HJ5, HO_3, HO_4, HB⟩ := hcut
  cases kq with
  | zero => exact absurd HA.out (by simp [laws_FnServed.j0])
  | succ kj5 =>
   have H := HA.out
   clear HA
   simp only [laws_FnServed.j0] at H
   have c19 := ifN' H
   replace H := ifT' H
   replace c19 := Bool.eq_false_iff.mpr c19
   subst c19
   have HC20 := Aside0.mk H
   clear H
   go_upto_region 7 with (fail)
   go_cut [78] (fun v78 wc => ∃ (kq : Nat) (x78_19 : Bool), v78 = .bool x78_19 ∧ Aside0 (laws_FnServed.j1 kq l0 x78_19 = some r) ∧ Aside0 (kq ≤ kj5) ∧ Aside0 (Below w.heap.size w wc))
   case first =>
    have H := HC20.out
    clear HC20
    obtain ⟨t824, A21, H⟩ := bindE H
    try dsimp only at H
    by_cases c22 : t824 = true
    ·
     subst c22
     have H1 : ((impl_FindPath.f t813 t819).bind fun t825 => (if t825 ≥ 0 then (if t820 ≥ 0 then (laws_FnServed.j1 kj5 l0 ((decide (t821 ≥ 0)) != (decide (t820 ≤ 100000)))) else (laws_FnServed.j1 kj5 l0 ((decide (t821 ≥ 0)) != false))) else (laws_FnServed.j1 kj5 l0 ((decide (t821 ≥ 0)) != false)))) = some r := by rw [if_pos rfl] at H; exact H
     clear H
     have H := H1
     clear H1
     obtain ⟨t825, A23, H⟩ := bindE H
     try dsimp only at H
     by_cases c24 : t825 ≥ 0
     ·
      rw [if_pos c24] at H
      have c24b0 := decide_eq_true c24
      clear c24
      (first | rw [c24b0] | (simp only [i64_w, i32_w]; rw [c24b0]) | skip)
      by_cases c25 : t820 ≥ 0
      ·
       rw [if_pos c25] at H
       have c25b0 := decide_eq_true c25
       clear c25
       have H' := Aside0.mk H
       clear H
       go_wp2_with (first | ((with_reducible refine gate_callee (f := 15) rfl ?_); refine gL (some 63) Try.func15 #[.slice Ao8 t813.length co8, .slice Ao9 t816.length co9] ?_; (with_reducible refine (impl_IsPlan.calls kj5 _ _ t813 (n1 (.slice Ao8 t813.length co8)) _ _ t816 true _ ?_ ?_ ?_ A21.out).mono ?_); exact cO ⟨(Kd.R_reads' HO_3.out).2.2⟩; exact (Kd.R_reads' HO_3.out).2.1; exact HO_4.out; rintro e w26 ⟨rfl, hb⟩; refine ⟨_, rfl, ?_⟩; have n0_ := rb HO_3 hb; have n1_ := Aside0.mk (Kd.V_below (by (with_reducible repeat (first | apply Kd.V_alloc | apply Kd.V_drewN | apply Kd.V_drew)); exact HO_4.out) hb); have n2_ := bs HB hb; clear HO_3; clear HO_4; clear HB; have HO_3 := n0_; have HO_4 := n1_; have HB := n2_; clear n0_ n1_ n2_; (try clear hb)) | (go_at_call 16; (with_reducible refine (impl_FindPath.calls _ _ t813 t819 t825 _ ?_ ?_ A23.out).mono ?_); exact cO ⟨(Kd.R_reads' HO_3.out).2.2⟩; exact (Kd.R_reads' HO_3.out).2.1; rintro e w27 ⟨rfl, hb⟩; have n0_ := rb HO_3 hb; have n1_ := Aside0.mk (Kd.V_below (by (with_reducible repeat (first | apply Kd.V_alloc | apply Kd.V_drewN | apply Kd.V_drew)); exact HO_4.out) hb); have n2_ := bs HB hb; clear HO_3; clear HO_4; clear HB; have HO_3 := n0_; have HO_4 := n1_; have HB := n2_; clear n0_ n1_ n2_; (try clear hb)))
       go_meet
       case rel => exact ⟨_, (((decide (t821 ≥ 0)) != (decide (t820 ≤ 100000)))), rS, H', ⟨by have := HJ5.out; first | omega | exact Nat.le_refl _⟩, ⟨bA⟩⟩
      rw [if_neg c25] at H
      have c25b0 := decide_eq_false c25
      clear c25
      have H' := Aside0.mk H
      clear H
      go_wp2_with (first | ((with_reducible refine gate_callee (f := 15) rfl ?_); refine gL (some 63) Try.func15 #[.slice Ao8 t813.length co8, .slice Ao9 t816.length co9] ?_; (with_reducible refine (impl_IsPlan.calls kj5 _ _ t813 (n1 (.slice Ao8 t813.length co8)) _ _ t816 true _ ?_ ?_ ?_ A21.out).mono ?_); exact cO ⟨(Kd.R_reads' HO_3.out).2.2⟩; exact (Kd.R_reads' HO_3.out).2.1; exact HO_4.out; rintro e w28 ⟨rfl, hb⟩; refine ⟨_, rfl, ?_⟩; have n0_ := rb HO_3 hb; have n1_ := Aside0.mk (Kd.V_below (by (with_reducible repeat (first | apply Kd.V_alloc | apply Kd.V_drewN | apply Kd.V_drew)); exact HO_4.out) hb); have n2_ := bs HB hb; clear HO_3; clear HO_4; clear HB; have HO_3 := n0_; have HO_4 := n1_; have HB := n2_; clear n0_ n1_ n2_; (try clear hb)) | (go_at_call 16; (with_reducible refine (impl_FindPath.calls _ _ t813 t819 t825 _ ?_ ?_ A23.out).mono ?_); exact cO ⟨(Kd.R_reads' HO_3.out).2.2⟩; exact (Kd.R_reads' HO_3.out).2.1; rintro e w29 ⟨rfl, hb⟩; have n0_ := rb HO_3 hb; have n1_ := Aside0.mk (Kd.V_below (by (with_reducible repeat (first | apply Kd.V_alloc | apply Kd.V_drewN | apply Kd.V_drew)); exact HO_4.out) hb); have n2_ := bs HB hb; clear HO_3; clear HO_4; clear HB; have HO_3 := n0_; have HO_4 := n1_; have HB := n2_; clear n0_ n1_ n2_; (try clear hb)))
      go_meet
      case rel => exact ⟨_, (((decide (t821 ≥ 0)) != false)), rS, H', ⟨by have := HJ5.out; first | omega | exact Nat.le_refl _⟩, ⟨bA⟩⟩
     rw [if_neg c24] at H
     have c24b0 := decide_eq_false c24
     clear c24
     (first | rw [c24b0] | (simp only [i64_w, i32_w]; rw [c24b0]) | skip)
     have H' := Aside0.mk H
     clear H
     go_wp2_with (first | ((with_reducible refine gate_callee (f := 15) rfl ?_); refine gL (some 63) Try.func15 #[.slice Ao8 t813.length co8, .slice Ao9 t816.length co9] ?_; (with_reducible refine (impl_IsPlan.calls kj5 _ _ t813 (n1 (.slice Ao8 t813.length co8)) _ _ t816 true _ ?_ ?_ ?_ A21.out).mono ?_); exact cO ⟨(Kd.R_reads' HO_3.out).2.2⟩; exact (Kd.R_reads' HO_3.out).2.1; exact HO_4.out; rintro e w30 ⟨rfl, hb⟩; refine ⟨_, rfl, ?_⟩; have n0_ := rb HO_3 hb; have n1_ := Aside0.mk (Kd.V_below (by (with_reducible repeat (first | apply Kd.V_alloc | apply Kd.V_drewN | apply Kd.V_drew)); exact HO_4.out) hb); have n2_ := bs HB hb; clear HO_3; clear HO_4; clear HB; have HO_3 := n0_; have HO_4 := n1_; have HB := n2_; clear n0_ n1_ n2_; (try clear hb)) | (go_at_call 16; (with_reducible refine (impl_FindPath.calls _ _ t813 t819 t825 _ ?_ ?_ A23.out).mono ?_); exact cO ⟨(Kd.R_reads' HO_3.out).2.2⟩; exact (Kd.R_reads' HO_3.out).2.1; rintro e w31 ⟨rfl, hb⟩; have n0_ := rb HO_3 hb; have n1_ := Aside0.mk (Kd.V_below (by (with_reducible repeat (first | apply Kd.V_alloc | apply Kd.V_drewN | apply Kd.V_drew)); exact HO_4.out) hb); have n2_ := bs HB hb; clear HO_3; clear HO_4; clear HB; have HO_3 := n0_; have HO_4 := n1_; have HB := n2_; clear n0_ n1_ n2_; (try clear hb)))
     go_meet
     case rel => exact ⟨_, (((decide (t821 ≥ 0)) != false)), rS, H', ⟨by have := HJ5.out; first | omega | exact Nat.le_refl _⟩, ⟨bA⟩⟩
    replace c22 := Bool.eq_false_iff.mpr c22
    subst c22
    have H1 : (laws_FnServed.j1 kj5 l0 ((decide (t821 ≥ 0)) != false)) = some r := by rw [if_neg (show ¬ (false = true) by decide)] at H; exact H
    clear H
    have H := H1
    clear H1
    have H' := Aside0.mk H
    clear H
    go_wp2_with (first | ((with_reducible refine gate_callee (f := 15) rfl ?_); refine gL (some 63) Try.func15 #[.slice Ao8 t813.length co8, .slice Ao9 t816.length co9] ?_; (with_reducible refine (impl_IsPlan.calls kj5 _ _ t813 (n1 (.slice Ao8 t813.length co8)) _ _ t816 false _ ?_ ?_ ?_ A21.out).mono ?_); exact cO ⟨(Kd.R_reads' HO_3.out).2.2⟩; exact (Kd.R_reads' HO_3.out).2.1; exact HO_4.out; rintro e w32 ⟨rfl, hb⟩; refine ⟨_, rfl, ?_⟩; have n0_ := rb HO_3 hb; have n1_ := Aside0.mk (Kd.V_below (by (with_reducible repeat (first | apply Kd.V_alloc | apply Kd.V_drewN | apply Kd.V_drew)); exact HO_4.out) hb); have n2_ := bs HB hb; clear HO_3; clear HO_4; clear HB; have HO_3 := n0_; have HO_4 := n1_; have HB := n2_; clear n0_ n1_ n2_; (try clear hb)))
    go_meet
    case rel => exact ⟨_, (((decide (t821 ≥ 0)) != false)), rS, H', ⟨by have := HJ5.out; first | omega | exact Nat.le_refl _⟩, ⟨bA⟩⟩
   case rest =>
    clear HC20
    obtain ⟨kq, x78_19, rfl, HA, HJ19, HB⟩ := hcut
    cases kq with
    | zero => exact absurd HA.out (by simp [laws_FnServed.j1])
    | succ kj19 =>
     have H := HA.out
     clear HA
     simp only [laws_FnServed.j1] at H
     have c33 := ifN' H
     replace H := ifT' H
     replace c33 := Bool.eq_false_iff.mpr c33
     subst c33
     obtain ⟨⟨t826, t829, t832⟩, A34, H⟩ := bindE H
     try dsimp only at H
     obtain ⟨t835, A35, H⟩ := bindE H
     try dsimp only at H
     have H' := Aside0.mk H
     clear H
     go_wp2_with (first | ((with_reducible refine gate_callee (f := 17) rfl ?_); refine gL (some 81) Try.func17 #[.slice A0 l0.length c0] ?_; (with_reducible refine (spec_DrawServedAt.calls kj19 _ _ l0 t826 t829 t832 _ ?_ ?_ A34.out).mono ?_); exact cB HR0; exact HC0.out; rintro e w36 ⟨v827, v830, v833, rfl, ho0, ho1, ho2, hb⟩; refine ⟨_, rfl, ?_⟩; have HO828 := rl w (Kd.R_mono (ok' := fun k_ => True) ho0 (fun _ hk_ => trivial)); have HO831 := Aside0.mk (Kd.V_lower (Kd.V_mono (ok' := n2 v827 v833) ho1 (fun k_ hk_ => ⟨hk_.2.1, hk_.2.2⟩)) (below_size bA)); have HO834 := rl w (Kd.R_mono (ok' := fun k_ => True) ho2 (fun _ hk_ => trivial)); replace HB := bs HB hb; (try clear hb); (try clear ho0); (try clear ho1); (try clear ho2); obtain ⟨Ao37, co37, eo37⟩ := Kd.R_slice HO828.out; subst eo37; obtain ⟨Ao38, co38, eo38⟩ := Kd.V_slice HO831.out; subst eo38; obtain ⟨Ao39, co39, eo39⟩ := Kd.R_slice HO834.out; subst eo39) | ((with_reducible refine gate_callee (f := 18) rfl ?_); refine gL (some 88) Try.func18 #[.slice Ao37 t826.length co37, .slice Ao38 t829.length co38, .slice Ao39 t832.length co39] ?_; (with_reducible refine (impl_ServedAt.calls kj19 _ _ t826 _ _ t829 _ _ t832 t835 _ ?_ ?_ ?_ ?_ ?_ ?_ A35.out).mono ?_); exact cO ⟨(Kd.R_reads' HO828.out).2.2⟩; exact (Kd.R_reads' HO828.out).2.1; (focus repeat (first | exact (Kd.V_reads' HO831.out).2.2 | (with_reducible refine Kd.C_alloc ?_ _) | (with_reducible refine Kd.C_drewN ?_ _) | (with_reducible refine Kd.C_drew ?_))); exact (Kd.V_reads' HO831.out).2.1; exact cO ⟨(Kd.R_reads' HO834.out).2.2⟩; exact (Kd.R_reads' HO834.out).2.1; rintro e w40 ⟨v836, rfl, ho0, hb⟩; refine ⟨_, rfl, ?_⟩; have n0_ := rb HO828 hb; have n1_ := Aside0.mk (Kd.V_elder' (by (with_reducible repeat (first | apply Kd.V_alloc | apply Kd.V_drewN | apply Kd.V_drew)); exact HO831.out) (Kd.R_base ho0) hb); have n2_ := rb HO834 hb; have n3_ := rl w ho0; have n4_ := bs HB hb; clear HO828; clear HO831; clear HO834; clear HB; have HO828 := n0_; have HO831 := n1_; have HO834 := n2_; have HO837 := n3_; have HB := n4_; clear n0_ n1_ n2_ n3_ n4_; (try clear hb); (try clear ho0)))
     go_loopg [12, 13] kj19 (fun kq v12 v13 w' => ∃ (x12_3 : Bool) (x13_3 : Int), v12 = .bool x12_3 ∧ v13 = .int .i64 x13_3 ∧ Aside0 (laws_FnServed.l0 kq l0 t826 t829 t832 t835 x12_3 x13_3 = some r) ∧ Aside0 (kq ≤ kj19) ∧ Aside0 (Kd.R k50 50 w' w.heap.size (fun _ => True) (.slice Ao37 t826.length co37) t826) ∧ Aside0 (Kd.V k85 85 w' w.heap.size (n3 (.slice Ao37 t826.length co37) (.slice Ao39 t832.length co39) v836) (.slice Ao38 t829.length co38) t829) ∧ Aside0 (Kd.R k114 114 w' w.heap.size (fun _ => True) (.slice Ao39 t832.length co39) t832) ∧ Aside0 (Kd.R (Kd.int .i64) 3 w' w.heap.size (fun _ => True) v836 t835) ∧ Aside0 (Below w.heap.size w w'))
     case atStart => exact ⟨(true), (0), rS, rS, H', ⟨Nat.le_refl _⟩, ⟨rK HO828⟩, ⟨by (with_reducible repeat (first | apply Kd.V_alloc | apply Kd.V_drewN | apply Kd.V_drew)); exact Kd.V_mono HO831.out (fun _ hk => ⟨hk.1.1, ⟨hk.1.2, hk.2⟩⟩)⟩, ⟨rK HO834⟩, ⟨rK HO837⟩, ⟨bA⟩⟩
     case round =>
      clear H'
      obtain ⟨x12_3, x13_3, rfl, rfl, HA, HK3, HO_8, HO_9, HO_10, HO_11, HB⟩ := hrel
      cases gk with
      | zero => exact absurd HA.out (by simp [laws_FnServed.l0])
      | succ k3 =>
       have H := HA.out
       clear HA
       simp only [laws_FnServed.l0] at H
       by_cases c41 : x13_3 < (t832.length : Int)
       ·
        rw [if_pos c41] at H
        have c41b0 := decide_eq_true c41
        clear c41
        by_cases c42 : x12_3 = true
        ·
         subst c42
         have H1 : (if 0 ≤ x13_3 then (if x13_3 < (t835.length : Int) then (laws_FnServed.l0 k3 l0 t826 t829 t832 t835 (decide ((rd t835 x13_3) ≥ 0)) (wrap64 (x13_3 + 1))) else (none)) else (none)) = some r := by rw [if_pos rfl] at H; exact H
         clear H
         have H := H1
         clear H1
         have c43 : 0 ≤ x13_3 := ifN H
         replace H := ifT H
         have c43b0 := decide_eq_true c43
         clear c43
         have c44 : x13_3 < (t835.length : Int) := ifN H
         replace H := ifT H
         have c44b0 := decide_eq_true c44
         clear c44
         have H' := Aside0.mk H
         clear H
         obtain ⟨Ao45, co45, eo45⟩ := Kd.R_slice HO_11.out
         subst eo45
         obtain ⟨p838, q838⟩ : 0 ≤ (x13_3 : Int) ∧ x13_3 < (t835.length : Int) := ⟨dA, dA⟩
         obtain ⟨ad838, e838, hx838_0⟩ := Kd.at_int (Kd.R_reads' HO_11.out).2.2 x13_3 p838 q838
         cases e838
         obtain ⟨p838, q838⟩ := eT p838 q838
         go_wp2
         go_roundg k3
         case measure => have := HJ5.out; have := HJ19.out; have := HK3.out; omega
         case rel => exact ⟨(decide ((rd t835 x13_3) ≥ 0)), (wrap64 (x13_3 + 1)), rS, rS, H', ⟨by have := HJ5.out; have := HJ19.out; have := HK3.out; omega⟩, ⟨rK HO_8⟩, ⟨by (with_reducible repeat (first | apply Kd.V_alloc | apply Kd.V_drewN | apply Kd.V_drew)); exact HO_9.out⟩, ⟨rK HO_10⟩, ⟨rK HO_11⟩, ⟨bA⟩⟩
        replace c42 := Bool.eq_false_iff.mpr c42
        subst c42
        have H1 : (laws_FnServed.l0 k3 l0 t826 t829 t832 t835 false (wrap64 (x13_3 + 1))) = some r := by rw [if_neg (show ¬ (false = true) by decide)] at H; exact H
        clear H
        have H := H1
        clear H1
        have H' := Aside0.mk H
        clear H
        go_wp2
        go_roundg k3
        case measure => have := HJ5.out; have := HJ19.out; have := HK3.out; omega
        case rel => exact ⟨(false), (wrap64 (x13_3 + 1)), rS, rS, H', ⟨by have := HJ5.out; have := HJ19.out; have := HK3.out; omega⟩, ⟨rK HO_8⟩, ⟨by (with_reducible repeat (first | apply Kd.V_alloc | apply Kd.V_drewN | apply Kd.V_drew)); exact HO_9.out⟩, ⟨rK HO_10⟩, ⟨rK HO_11⟩, ⟨bA⟩⟩
       rw [if_neg c41] at H
       have c41b0 := decide_eq_false c41
       clear c41
       have HC46 := Aside0.mk H
       clear H
       go_upto_region 16 with (fail)
       go_cut [118] (fun v118 wc => ∃ (kq : Nat) (x118_45 : Bool), v118 = .bool x118_45 ∧ Aside0 (laws_FnServed.j3 kq l0 x118_45 = some r) ∧ Aside0 (kq ≤ k3) ∧ Aside0 (Below w.heap.size w wc))
       case first =>
        have H := HC46.out
        clear HC46
        by_cases c47 : (t835.length : Int) = (t832.length : Int)
        ·
         rw [if_pos c47] at H
         have c47b0 : ((t835.length : Int) == (t832.length : Int)) = true := beq_iff_eq.mpr c47
         have c47b1 : ((t835.length : Int) != (t832.length : Int)) = false := bne_eq_false_iff_eq.mpr c47
         have c47b2 : (t835.length == t832.length) = true := by first | simpa using c47 | (simp at c47 ⊢; omega)
         clear c47
         (first | rw [c47b0] | (simp only [i64_w, i32_w]; rw [c47b0]) | skip)
         obtain ⟨t839, A48, H⟩ := bindE H
         try dsimp only at H
         obtain ⟨t840, A49, H⟩ := bindE H
         try dsimp only at H
         have H' := Aside0.mk H
         clear H
         obtain ⟨Ao50, co50, eo50⟩ := Kd.R_slice HO_11.out
         subst eo50
         go_wp2_with (first | (go_at_call 20; (with_reducible refine (impl_WorstWait.calls k3 _ _ t826 _ _ t829 t839 _ ?_ ?_ ?_ ?_ A48.out).mono ?_); exact cO ⟨(Kd.R_reads' HO_8.out).2.2⟩; exact (Kd.R_reads' HO_8.out).2.1; (focus repeat (first | exact (Kd.V_reads' HO_9.out).2.2 | (with_reducible refine Kd.C_alloc ?_ _) | (with_reducible refine Kd.C_drewN ?_ _) | (with_reducible refine Kd.C_drew ?_))); exact (Kd.V_reads' HO_9.out).2.1; rintro e w51 ⟨rfl, hb⟩; have n0_ := rb HO_8 hb; have n1_ := Aside0.mk (Kd.V_below (by (with_reducible repeat (first | apply Kd.V_alloc | apply Kd.V_drewN | apply Kd.V_drew)); exact HO_9.out) hb); have n2_ := rb HO_10 hb; have n3_ := rb HO_11 hb; have n4_ := bs HB hb; clear HO_8; clear HO_9; clear HO_10; clear HO_11; clear HB; have HO_8 := n0_; have HO_9 := n1_; have HO_10 := n2_; have HO_11 := n3_; have HB := n4_; clear n0_ n1_ n2_ n3_ n4_; (try clear hb)) | (go_at_call 19; (with_reducible refine (impl_IsWithin.calls k3 _ _ t826 _ _ t829 _ _ t832 t839 t840 _ ?_ ?_ ?_ ?_ ?_ ?_ A49.out).mono ?_); exact cO ⟨(Kd.R_reads' HO_8.out).2.2⟩; exact (Kd.R_reads' HO_8.out).2.1; (focus repeat (first | exact (Kd.V_reads' HO_9.out).2.2 | (with_reducible refine Kd.C_alloc ?_ _) | (with_reducible refine Kd.C_drewN ?_ _) | (with_reducible refine Kd.C_drew ?_))); exact (Kd.V_reads' HO_9.out).2.1; exact cO ⟨(Kd.R_reads' HO_10.out).2.2⟩; exact (Kd.R_reads' HO_10.out).2.1; rintro e w52 ⟨rfl, hb⟩; have n0_ := rb HO_8 hb; have n1_ := Aside0.mk (Kd.V_below (by (with_reducible repeat (first | apply Kd.V_alloc | apply Kd.V_drewN | apply Kd.V_drew)); exact HO_9.out) hb); have n2_ := rb HO_10 hb; have n3_ := rb HO_11 hb; have n4_ := bs HB hb; clear HO_8; clear HO_9; clear HO_10; clear HO_11; clear HB; have HO_8 := n0_; have HO_9 := n1_; have HO_10 := n2_; have HO_11 := n3_; have HB := n4_; clear n0_ n1_ n2_ n3_ n4_; (try clear hb)))
         go_meet
         case rel => exact ⟨_, ((x12_3 != t840)), rS, H', ⟨by have := HJ5.out; have := HJ19.out; have := HK3.out; first | omega | exact Nat.le_refl _⟩, ⟨bA⟩⟩
        rw [if_neg c47] at H
        have c47b0 : ((t835.length : Int) == (t832.length : Int)) = false := beq_eq_false_iff_ne.mpr c47
        have c47b1 : ((t835.length : Int) != (t832.length : Int)) = true := bne_iff_ne.mpr c47
        have c47b2 : (t835.length == t832.length) = false := by first | simpa using c47 | (simp at c47 ⊢; omega)
        (first | rw [c47b0] | (simp only [i64_w, i32_w]; rw [c47b0]) | skip)
        have H' := Aside0.mk H
        clear H
        obtain ⟨Ao53, co53, eo53⟩ := Kd.R_slice HO_11.out
        subst eo53
        go_wp2
        go_meet
        case rel => exact ⟨_, (true), rS, H', ⟨by have := HJ5.out; have := HJ19.out; have := HK3.out; first | omega | exact Nat.le_refl _⟩, ⟨bA⟩⟩
       case rest =>
        clear HC46
        obtain ⟨kq, x118_45, rfl, HA, HJ45, HB⟩ := hcut
        cases kq with
        | zero => exact absurd HA.out (by simp [laws_FnServed.j3])
        | succ kj45 =>
         have H := HA.out
         clear HA
         simp only [laws_FnServed.j3] at H
         have c54 := ifN' H
         replace H := ifT' H
         replace c54 := Bool.eq_false_iff.mpr c54
         subst c54
         obtain ⟨⟨t841, t844, t847, t850⟩, A55, H⟩ := bindE H
         try dsimp only at H
         obtain ⟨t851, A56, H⟩ := bindE H
         try dsimp only at H
         have H' := Aside0.mk H
         clear H
         go_wp2_with (first | ((with_reducible refine gate_callee (f := 21) rfl ?_); refine gL (some 121) Try.func21 #[.slice A0 l0.length c0] ?_; (with_reducible refine (spec_DrawWaitingAt.calls kj45 _ _ l0 t841 t844 t847 t850 _ ?_ ?_ A55.out).mono ?_); exact cB HR0; exact HC0.out; rintro e w57 ⟨v842, v845, v848, rfl, ho0, ho1, ho2, hb⟩; refine ⟨_, rfl, ?_⟩; have HO843 := rl w (Kd.R_mono (ok' := fun k_ => True) ho0 (fun _ hk_ => trivial)); have HO846 := Aside0.mk (Kd.V_lower (Kd.V_mono (ok' := n2 v842 v848) ho1 (fun k_ hk_ => ⟨hk_.2.1, hk_.2.2⟩)) (below_size bA)); have HO849 := rl w (Kd.R_mono (ok' := fun k_ => True) ho2 (fun _ hk_ => trivial)); replace HB := bs HB hb; (try clear hb); (try clear ho0); (try clear ho1); (try clear ho2); obtain ⟨Ao58, co58, eo58⟩ := Kd.R_slice HO843.out; subst eo58; obtain ⟨Ao59, co59, eo59⟩ := Kd.V_slice HO846.out; subst eo59; obtain ⟨Ao60, co60, eo60⟩ := Kd.R_slice HO849.out; subst eo60) | ((with_reducible refine gate_callee (f := 22) rfl ?_); refine gL (some 130) Try.func22 #[.slice Ao58 t841.length co58, .slice Ao59 t844.length co59, .slice Ao60 t847.length co60, .int .i64 t850] ?_; (with_reducible refine (impl_WaitingAt.calls kj45 _ _ t841 _ _ t844 _ _ t847 t850 t851 _ ?_ ?_ ?_ ?_ ?_ ?_ A56.out).mono ?_); exact cO ⟨(Kd.R_reads' HO843.out).2.2⟩; exact (Kd.R_reads' HO843.out).2.1; (focus repeat (first | exact (Kd.V_reads' HO846.out).2.2 | (with_reducible refine Kd.C_alloc ?_ _) | (with_reducible refine Kd.C_drewN ?_ _) | (with_reducible refine Kd.C_drew ?_))); exact (Kd.V_reads' HO846.out).2.1; exact cO ⟨(Kd.R_reads' HO849.out).2.2⟩; exact (Kd.R_reads' HO849.out).2.1; rintro e w61 ⟨v852, rfl, ho0, hb⟩; refine ⟨_, rfl, ?_⟩; have n0_ := rb HO843 hb; have n1_ := Aside0.mk (Kd.V_elder' (by (with_reducible repeat (first | apply Kd.V_alloc | apply Kd.V_drewN | apply Kd.V_drew)); exact HO846.out) (Kd.R_base ho0) hb); have n2_ := rb HO849 hb; have n3_ := rl w ho0; have n4_ := bs HB hb; clear HO843; clear HO846; clear HO849; clear HB; have HO843 := n0_; have HO846 := n1_; have HO849 := n2_; have HO853 := n3_; have HB := n4_; clear n0_ n1_ n2_ n3_ n4_; (try clear hb); (try clear ho0)))
         go_loopg [19] kj45 (fun kq v19 w' => ∃ (x19_5 : Int), v19 = .int .i64 x19_5 ∧ Aside0 (laws_FnServed.l1 kq t841 t851 x19_5 = some r) ∧ Aside0 (kq ≤ kj45) ∧ Aside0 (Kd.R k50 50 w' w.heap.size (fun _ => True) (.slice Ao58 t841.length co58) t841) ∧ Aside0 (Kd.R (Kd.int .i64) 3 w' w.heap.size (fun _ => True) v852 t851) ∧ Aside0 (Below w.heap.size w w'))
         case atStart => exact ⟨(0), rS, H', ⟨Nat.le_refl _⟩, ⟨rK HO843⟩, ⟨rK HO853⟩, ⟨bA⟩⟩
         case round =>
          clear H'
          obtain ⟨x19_5, rfl, HA, HK5, HO_14, HO_18, HB⟩ := hrel
          cases gk with
          | zero => exact absurd HA.out (by simp [laws_FnServed.l1])
          | succ k5 =>
           have H := HA.out
           clear HA
           simp only [laws_FnServed.l1] at H
           by_cases c62 : x19_5 < (t851.length : Int)
           ·
            rw [if_pos c62] at H
            have c62b0 := decide_eq_true c62
            clear c62
            have c63 : 0 ≤ x19_5 := ifN H
            replace H := ifT H
            have c63b0 := decide_eq_true c63
            clear c63
            obtain ⟨t855, A64, H⟩ := bindE H
            try dsimp only at H
            have c65 : ¬ (t855 < 0) := ifN' H
            replace H := ifT' H
            have c65b0 := decide_eq_false c65
            clear c65
            have H' := Aside0.mk H
            clear H
            obtain ⟨Ao66, co66, eo66⟩ := Kd.R_slice HO_18.out
            subst eo66
            obtain ⟨p854, q854⟩ : 0 ≤ (x19_5 : Int) ∧ x19_5 < (t851.length : Int) := ⟨dA, dA⟩
            obtain ⟨ad854, e854, hx854_0⟩ := Kd.at_int (Kd.R_reads' HO_18.out).2.2 x19_5 p854 q854
            cases e854
            obtain ⟨p854, q854⟩ := eT p854 q854
            go_wp2_with (first | ((with_reducible refine gate_callee (f := 16) rfl ?_); refine gL (some 142) Try.func16 #[.slice Ao58 t841.length co58, .int .i64 (rd t851 x19_5)] ?_; (with_reducible refine (impl_FindPath.calls _ _ t841 (rd t851 x19_5) t855 _ ?_ ?_ A64.out).mono ?_); exact cO ⟨(Kd.R_reads' HO_14.out).2.2⟩; exact (Kd.R_reads' HO_14.out).2.1; rintro e w67 ⟨rfl, hb⟩; refine ⟨_, rfl, ?_⟩; replace HO_14 := rb HO_14 hb; replace HO_18 := rb HO_18 hb; replace HB := bs HB hb; (try clear hb)))
            go_roundg k5
            case measure => have := HJ5.out; have := HJ19.out; have := HK3.out; have := HJ45.out; have := HK5.out; omega
            case rel => exact ⟨(wrap64 (x19_5 + 1)), rS, H', ⟨by have := HJ5.out; have := HJ19.out; have := HK3.out; have := HJ45.out; have := HK5.out; omega⟩, ⟨rK HO_14⟩, ⟨rK HO_18⟩, ⟨bA⟩⟩
           rw [if_neg c62] at H
           have c62b0 := decide_eq_false c62
           clear c62
           obtain ⟨t856, A68, H⟩ := bindE H
           try dsimp only at H
           obtain rfl := Option.some.inj H
           obtain ⟨Ao69, co69, eo69⟩ := Kd.R_slice HO_18.out
           subst eo69
           go_wp2_with (first | ((with_reducible refine gate_callee (f := 23) rfl ?_); refine gL (some 145) Try.func23 #[.slice Ao69 t851.length co69] ?_; (with_reducible refine (laws_ascends.calls k5 _ _ t851 t856 _ ?_ ?_ A68.out).mono ?_); exact cO ⟨(Kd.R_reads' HO_18.out).2.2⟩; exact (Kd.R_reads' HO_18.out).2.1; rintro e w' ⟨rfl, ⟨nd, rfl⟩⟩; refine ⟨_, rfl, ?_⟩))
           go_ret
           exact ⟨rA, bA⟩

end Go.Proofs.Ytjgonpcajedkjaa.P
