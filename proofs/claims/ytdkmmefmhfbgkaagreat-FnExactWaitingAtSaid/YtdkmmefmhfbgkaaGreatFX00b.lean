/- Printed by myprint.py (wip/tools) over the kit's print: what Go's functions compute, and that they do. Lean checks it. -/
import Derived.Test.YtdkmmefmhfbgkaaGreatF0
import Derived.Test.YtdkmmefmhfbgkaaGreatFX00
namespace Go.Proofs.YtdkmmefmhfbgkaaGreat.P
open Go.RowKit Go.Proofs.YtdkmmefmhfbgkaaGreatW.PrintWords Go.Proofs.YtdkmmefmhfbgkaaGreatW.PrintLast Go.Proofs.YtdkmmefmhfbgkaaGreatW.PrintMore Go.Proofs.YtdkmmefmhfbgkaaGreat.Sq
attribute [local go_sem] max2_int min2_int max_two min_two max_three min_three max_four min_four
set_option linter.unusedVariables false
set_option linter.unusedSimpArgs false

/-! ### spec_l9Light: function 92 -/
def spec_l9Light.j0 : Nat → List (S69) → List (S72) → Int → Int → Int → Bool → Bool → Option (Int)
 | 0, _, _, _, _, _, _, _ => none
 | k + 1, x0, x1, x2, x3, x4, x12, x29 => if x29 = true then (some 1) else (if x12 = true then (if 0 ≤ x2 then (if x2 < (x1.length : Int) then ((spec_FindPath.f k x0 x4).bind fun t215 => (if 0 ≤ t215 then (if t215 < (x0.length : Int) then ((spec_ClearOf.f ((rd_T69 x0 t215).f0) ((rd_T69 x0 t215).f1) ((rd_T69 x0 t215).f2) ((rd_T69 x0 t215).f3)).bind fun t217 => (if x3 < (wrap64 (((rd_T72 x1 x2).f1) + t217)) then (some 2) else (some 0))) else (none)) else (none))) else (none)) else (none)) else (some 0))
def spec_l9Light.f (k : Nat) (l0 : List (S69)) (l1 : List (S72)) (a2 : Int) (a3 : Int) (a4 : Int) : Option (Int) := if (l1.length : Int) = 0 then (none) else (if 0 ≤ (Int.tmod (wrap64 (a2 + 1)) (l1.length : Int)) then (if (Int.tmod (wrap64 (a2 + 1)) (l1.length : Int)) < (l1.length : Int) then (if 0 ≤ a2 then (if a2 < (l1.length : Int) then ((spec_l6Has.f k ((rd_T72 l1 a2).f0) a4).bind fun t211 => (if t211 = true then (if a3 < ((rd_T72 l1 a2).f1) then (spec_l9Light.j0 k l0 l1 a2 a3 a4 t211 true) else ((spec_l6Has.f k ((rd_T72 l1 (Int.tmod (wrap64 (a2 + 1)) (l1.length : Int))).f0) a4).bind fun t213 => (spec_l9Light.j0 k l0 l1 a2 a3 a4 t211 t213))) else (spec_l9Light.j0 k l0 l1 a2 a3 a4 t211 false))) else (none)) else (none)) else (none)) else (none))
theorem spec_l9Light.mono_l : ∀ k, (∀ y0 y1 y2 y3 y4 y5 y6, LeO (spec_l9Light.j0 k y0 y1 y2 y3 y4 y5 y6) (spec_l9Light.j0 (k + 1) y0 y1 y2 y3 y4 y5 y6))
 | 0 => fun _ _ _ _ _ _ _ r h => by simp [spec_l9Light.j0] at h
 | k + 1 => by
  have ih0 := spec_l9Light.mono_l k
  ·
   intro y0 y1 y2 y3 y4 y5 y6
   unfold spec_l9Light.j0
   exact mz3 ih0 spec_FindPath.mono spec_l6Has.mono
theorem spec_l9Light.mono : ∀ a0 a1 a2 a3 a4 k, LeO (spec_l9Light.f k a0 a1 a2 a3 a4) (spec_l9Light.f (k + 1) a0 a1 a2 a3 a4) := by
 intro a0 a1 a2 a3 a4 k
 have ih0 := spec_l9Light.mono_l k
 unfold spec_l9Light.f
 exact mz3 ih0 spec_FindPath.mono spec_l6Has.mono
def spec_l9Light.T5 : Bool × List (List Nat × List Nat) := (true, [([], []), ([0], [0]), ([1], [1]), ([1], [1]), ([1], [1]), ([3, 4, 1], [1, 3, 4]), ([5, 1], [1, 5]), ([6, 1], [1, 6]), ([1], [1]), ([1], [1]), ([1], [1]), ([9, 10, 1, 1], [1, 9, 10]), ([8, 11, 1], [1, 8, 11]), ([12, 1], [1, 12]), ([13, 11, 1], [1, 13]), ([7, 14, 1], [1, 7, 14]), ([2, 15, 1], [1, 2, 15]), ([1, 16], [1, 16]), ([17, 14], [17])])
def spec_l9Light.B5 : List Nat := [0, 1, 3, 3, 3, 27, 59, 123, 3, 3, 3, 1539, 3843, 7939, 16131, 32763, 65535, 131071, 262143]
theorem spec_l9Light.tab5 : rtab .any (opsOf Tryz.f92 5) = spec_l9Light.T5 := by kernel_rfl
theorem spec_l9Light.bits5 : waitsOk spec_l9Light.T5.2 spec_l9Light.B5 = true := by kernel_rfl
set_option maxHeartbeats 8000000 in
set_option maxRecDepth 100000 in
theorem spec_l9Light.calls (k : Nat) (A0 : Option Addr) (c0 : Nat) (l0 : List (S69)) (A1 : Option Addr) (c1 : Nat) (l1 : List (S72)) (a2 : Int) (a3 : Int) (a4 : Int) (r : Int) (w : World) (hr0 : Kd.C k69 w A0 l0.length l0) (hc0 : l0.length ≤ c0) (hr1 : Kd.C k72 w A1 l1.length l1) (hc1 : l1.length ≤ c1) (h : spec_l9Light.f k l0 l1 a2 a3 a4 = some r) :
  Calls Tryz.prog 92 #[.slice A0 l0.length c0, .slice A1 l1.length c1, .int .i64 a2, .int .i64 a3, .int .i64 a4] w fun e w' => e = .returned (.int .i64 r) ∧ Below w.heap.size w w' := by
 have hu69 := Tryz.underlying69
 have HR0 := Aside0.mk hr0
 have HC0 := Aside0.mk hc0
 clear hr0 hc0
 have HR1 := Aside0.mk hr1
 have HC1 := Aside0.mk hc1
 clear hr1 hc1
 have HB := Aside0.mk (Below.refl w.heap.size w)
 have H : (if (l1.length : Int) = 0 then (none) else (if 0 ≤ (Int.tmod (wrap64 (a2 + 1)) (l1.length : Int)) then (if (Int.tmod (wrap64 (a2 + 1)) (l1.length : Int)) < (l1.length : Int) then (if 0 ≤ a2 then (if a2 < (l1.length : Int) then ((spec_l6Has.f k ((rd_T72 l1 a2).f0) a4).bind fun t211 => (if t211 = true then (if a3 < ((rd_T72 l1 a2).f1) then (spec_l9Light.j0 k l0 l1 a2 a3 a4 t211 true) else ((spec_l6Has.f k ((rd_T72 l1 (Int.tmod (wrap64 (a2 + 1)) (l1.length : Int))).f0) a4).bind fun t213 => (spec_l9Light.j0 k l0 l1 a2 a3 a4 t211 t213))) else (spec_l9Light.j0 k l0 l1 a2 a3 a4 t211 false))) else (none)) else (none)) else (none)) else (none))) = some r := h
 clear h
 have c6 : ¬ ((l1.length : Int) = 0) := ifN' H
 replace H := ifT' H
 have c6b0 : ((l1.length : Int) == 0) = false := beq_eq_false_iff_ne.mpr c6
 have c6b1 : ((l1.length : Int) != 0) = true := bne_iff_ne.mpr c6
 have c6b2 : ¬ (l1 = []) := fun h_ => c6 (by rw [h_]; rfl)
 obtain ⟨ji7, hji7⟩ : ∃ j_ : Int, (Int.tmod (wrap64 (a2 + 1)) (l1.length : Int)) = j_ := ⟨_, rfl⟩
 replace H : (if 0 ≤ (ji7) then (if (ji7) < (l1.length : Int) then (if 0 ≤ a2 then (if a2 < (l1.length : Int) then ((spec_l6Has.f k ((rd_T72 l1 a2).f0) a4).bind fun t211 => (if t211 = true then (if a3 < ((rd_T72 l1 a2).f1) then (spec_l9Light.j0 k l0 l1 a2 a3 a4 t211 true) else ((spec_l6Has.f k ((rd_T72 l1 (ji7)).f0) a4).bind fun t213 => (spec_l9Light.j0 k l0 l1 a2 a3 a4 t211 t213))) else (spec_l9Light.j0 k l0 l1 a2 a3 a4 t211 false))) else (none)) else (none)) else (none)) else (none)) = some r := by first | (rw [hji7] at H; exact H) | (simp only [hji7] at H ⊢; exact H)
 have c8 : 0 ≤ (ji7) := ifN H
 replace H := ifT H
 have c8b0 := decide_eq_true c8
 clear c8
 have c9 : (ji7) < (l1.length : Int) := ifN H
 replace H := ifT H
 have c9b0 := decide_eq_true c9
 clear c9
 have c10 : 0 ≤ a2 := ifN H
 replace H := ifT H
 have c10b0 := decide_eq_true c10
 clear c10
 have c11 : a2 < (l1.length : Int) := ifN H
 replace H := ifT H
 have c11b0 := decide_eq_true c11
 clear c11
 obtain ⟨t211, A12, H⟩ := bindE H
 try dsimp only at H
 have HC13 := Aside0.mk H
 clear H
 obtain ⟨p209, q209⟩ : 0 ≤ ((ji7) : Int) ∧ (ji7) < (l1.length : Int) := ⟨dA, dA⟩
 obtain ⟨ad209, A209_0, c209_0, e209, hx209_0, hx209_1, hl209_0, hi209_0⟩ := at_T72 HR1.out (ji7) p209 q209
 cases e209
 have HR209_0 := Aside0.mk hi209_0
 have HC209_0 := Aside0.mk hl209_0
 clear hi209_0 hl209_0
 obtain ⟨p209, q209⟩ := eT p209 q209
 obtain ⟨p210, q210⟩ : 0 ≤ (a2 : Int) ∧ a2 < (l1.length : Int) := ⟨dA, dA⟩
 obtain ⟨ad210, A210_0, c210_0, e210, hx210_0, hx210_1, hl210_0, hi210_0⟩ := at_T72 HR1.out a2 p210 q210
 obtain rfl : ad209 = ad210 := (by injection e210)
 have HR210_0 := Aside0.mk hi210_0
 have HC210_0 := Aside0.mk hl210_0
 clear hi210_0 hl210_0
 obtain ⟨p210, q210⟩ := eT p210 q210
 go_enter Tryz.func92, Tryz.ntmps92
 go_upto_region 3 with (first | ((with_reducible refine gate_callee (f := 74) rfl ?_); refine gL (some 28) Tryz.func74 #[.slice A210_0 ((rd_T72 l1 a2).f0).length c210_0, .int .i64 a4] ?_; (with_reducible refine (spec_l6Has.calls k _ _ ((rd_T72 l1 a2).f0) a4 t211 _ ?_ ?_ A12.out).mono ?_); exact cO HR210_0; exact HC210_0.out; rintro e w' ⟨rfl, ⟨nd, rfl⟩⟩; refine ⟨_, rfl, ?_⟩))
 (try simp only [Act.put, List.setIfInBounds_toArray, List.set_cons_zero, List.set_cons_succ])
 go_cut [29] (fun v29 wc => ∃ (kq : Nat) (x29_12 : Bool), v29 = .bool x29_12 ∧ Aside0 (spec_l9Light.j0 kq l0 l1 a2 a3 a4 t211 x29_12 = some r) ∧ Aside0 (kq ≤ k) ∧ Aside0 (Below w.heap.size w wc))
 case first =>
  have H := HC13.out
  clear HC13
  by_cases c14 : t211 = true
  ·
   subst c14
   have H1 : (if a3 < ((rd_T72 l1 a2).f1) then (spec_l9Light.j0 k l0 l1 a2 a3 a4 true true) else ((spec_l6Has.f k ((rd_T72 l1 (ji7)).f0) a4).bind fun t213 => (spec_l9Light.j0 k l0 l1 a2 a3 a4 true t213))) = some r := by rw [if_pos rfl] at H; exact H
   clear H
   have H := H1
   clear H1
   by_cases c15 : a3 < ((rd_T72 l1 a2).f1)
   ·
    rw [if_pos c15] at H
    have c15b0 := decide_eq_true c15
    clear c15
    (first | rw [c15b0] | (simp only [i64_w, i32_w]; rw [c15b0]) | skip)
    have H' := Aside0.mk H
    clear H
    obtain ⟨p212, q212⟩ : 0 ≤ (a2 : Int) ∧ a2 < (l1.length : Int) := ⟨dA, dA⟩
    obtain ⟨ad212, A212_0, c212_0, e212, hx212_0, hx212_1, hl212_0, hi212_0⟩ := at_T72 HR1.out a2 p212 q212
    obtain rfl : ad209 = ad212 := (by injection e212)
    replace hx212_0 := hC HB hx212_0
    replace hx212_1 := hC HB hx212_1
    have HR212_0 := Aside0.mk hi212_0
    have HC212_0 := Aside0.mk hl212_0
    clear hi212_0 hl212_0
    obtain ⟨p212, q212⟩ := eT p212 q212
    go_wp2
    go_meet
    case rel => exact ⟨_, (true), rS, H', ⟨oL⟩, ⟨bA⟩⟩
   rw [if_neg c15] at H
   have c15b0 := decide_eq_false c15
   clear c15
   (first | rw [c15b0] | (simp only [i64_w, i32_w]; rw [c15b0]) | skip)
   obtain ⟨t213, A16, H⟩ := bindE H
   try dsimp only at H
   have H' := Aside0.mk H
   clear H
   obtain ⟨p212, q212⟩ : 0 ≤ (a2 : Int) ∧ a2 < (l1.length : Int) := ⟨dA, dA⟩
   obtain ⟨ad212, A212_0, c212_0, e212, hx212_0, hx212_1, hl212_0, hi212_0⟩ := at_T72 HR1.out a2 p212 q212
   obtain rfl : ad209 = ad212 := (by injection e212)
   replace hx212_0 := hC HB hx212_0
   replace hx212_1 := hC HB hx212_1
   have HR212_0 := Aside0.mk hi212_0
   have HC212_0 := Aside0.mk hl212_0
   clear hi212_0 hl212_0
   obtain ⟨p212, q212⟩ := eT p212 q212
   go_wp2_with (first | (go_at_call 74; (with_reducible refine (spec_l6Has.calls k _ _ ((rd_T72 l1 (ji7)).f0) a4 t213 _ ?_ ?_ A16.out).mono ?_); exact cB HR209_0; exact HC209_0.out; rintro e w' ⟨rfl, ⟨nd, rfl⟩⟩))
   go_meet
   case rel => exact ⟨_, (t213), rS, H', ⟨oL⟩, ⟨bA⟩⟩
  replace c14 := Bool.eq_false_iff.mpr c14
  subst c14
  have H1 : (spec_l9Light.j0 k l0 l1 a2 a3 a4 false false) = some r := by rw [if_neg (show ¬ (false = true) by decide)] at H; exact H
  clear H
  have H := H1
  clear H1
  have H' := Aside0.mk H
  clear H
  go_wp2
  go_meet
  case rel => exact ⟨_, (false), rS, H', ⟨oL⟩, ⟨bA⟩⟩
 case rest =>
  clear HC13
  obtain ⟨kq, x29_12, rfl, HA, HJ12, HB⟩ := hcut
  cases kq with
  | zero => exact absurd HA.out (by simp [spec_l9Light.j0])
  | succ kj12 =>
   have H := HA.out
   clear HA
   simp only [spec_l9Light.j0] at H
   by_cases c17 : x29_12 = true
   ·
    subst c17
    have H1 : (some 1) = some r := by rw [if_pos rfl] at H; exact H
    clear H
    have H := H1
    clear H1
    obtain rfl := Option.some.inj H
    go_wp2
    go_ret
    exact ⟨by first | rfl | (simp [errW_none, errW_some] <;> rfl) | (simp only [← hji7]; first | rfl | (simp [errW_none, errW_some] <;> rfl)) | (simp [*, errW_none, errW_some] <;> rfl), bA⟩
   replace c17 := Bool.eq_false_iff.mpr c17
   subst c17
   have H1 : (if t211 = true then (if 0 ≤ a2 then (if a2 < (l1.length : Int) then ((spec_FindPath.f kj12 l0 a4).bind fun t215 => (if 0 ≤ t215 then (if t215 < (l0.length : Int) then ((spec_ClearOf.f ((rd_T69 l0 t215).f0) ((rd_T69 l0 t215).f1) ((rd_T69 l0 t215).f2) ((rd_T69 l0 t215).f3)).bind fun t217 => (if a3 < (wrap64 (((rd_T72 l1 a2).f1) + t217)) then (some 2) else (some 0))) else (none)) else (none))) else (none)) else (none)) else (some 0)) = some r := by rw [if_neg (show ¬ (false = true) by decide)] at H; exact H
   clear H
   have H := H1
   clear H1
   by_cases c18 : t211 = true
   ·
    subst c18
    have H1 : (if 0 ≤ a2 then (if a2 < (l1.length : Int) then ((spec_FindPath.f kj12 l0 a4).bind fun t215 => (if 0 ≤ t215 then (if t215 < (l0.length : Int) then ((spec_ClearOf.f ((rd_T69 l0 t215).f0) ((rd_T69 l0 t215).f1) ((rd_T69 l0 t215).f2) ((rd_T69 l0 t215).f3)).bind fun t217 => (if a3 < (wrap64 (((rd_T72 l1 a2).f1) + t217)) then (some 2) else (some 0))) else (none)) else (none))) else (none)) else (none)) = some r := by rw [if_pos rfl] at H; exact H
    clear H
    have H := H1
    clear H1
    have c19 : 0 ≤ a2 := ifN H
    replace H := ifT H
    have c19b0 := decide_eq_true c19
    clear c19
    have c20 : a2 < (l1.length : Int) := ifN H
    replace H := ifT H
    have c20b0 := decide_eq_true c20
    clear c20
    obtain ⟨t215, A21, H⟩ := bindE H
    try dsimp only at H
    have c22 : 0 ≤ t215 := ifN H
    replace H := ifT H
    have c22b0 := decide_eq_true c22
    clear c22
    have c23 : t215 < (l0.length : Int) := ifN H
    replace H := ifT H
    have c23b0 := decide_eq_true c23
    clear c23
    obtain ⟨t217, A24, H⟩ := bindE H
    try dsimp only at H
    by_cases c25 : a3 < (wrap64 (((rd_T72 l1 a2).f1) + t217))
    ·
     rw [if_pos c25] at H
     have c25b0 := decide_eq_true c25
     clear c25
     obtain rfl := Option.some.inj H
     try go_wp2
     have HBo := HB
     replace HB := db HB
     obtain ⟨p214, q214⟩ : 0 ≤ (a2 : Int) ∧ a2 < (l1.length : Int) := ⟨dA, dA⟩
     obtain ⟨ad214, A214_0, c214_0, e214, hx214_0, hx214_1, hl214_0, hi214_0⟩ := at_T72 HR1.out a2 p214 q214
     have hw214_1 := hx214_1
     have hw214_0 := hx214_0
     obtain rfl : ad209 = ad214 := (by injection e214)
     replace hx214_0 := hC HB hx214_0
     replace hx214_1 := hC HB hx214_1
     have HR214_0 := Aside0.mk hi214_0
     have HC214_0 := Aside0.mk hl214_0
     clear hi214_0 hl214_0
     obtain ⟨p214, q214⟩ := eT p214 q214
     obtain ⟨p216, q216⟩ : 0 ≤ (t215 : Int) ∧ t215 < (l0.length : Int) := ⟨dA, dA⟩
     obtain ⟨ad216, e216, hx216_0, hx216_1, hx216_2, hx216_3⟩ := at_T69 HR0.out t215 p216 q216
     have hw216_3 := hx216_3
     have hw216_2 := hx216_2
     have hw216_1 := hx216_1
     have hw216_0 := hx216_0
     cases e216
     replace hx216_0 := hC HB hx216_0
     replace hx216_1 := hC HB hx216_1
     replace hx216_2 := hC HB hx216_2
     replace hx216_3 := hC HB hx216_3
     obtain ⟨p216, q216⟩ := eT p216 q216
     refine sw (ds := []) 19 (mb 19 0) spec_l9Light.tab5 spec_l9Light.bits5 (h1c (hC HB hw214_0) (h1c (hC HB hw214_1) (h1c (hC HB hw216_0) (h1c (hC HB hw216_1) (h1c (hC HB hw216_2) (h1 (hC HB hw216_3))))))) (fun hHeld HT_ HW_ => ?_)
     generalize wc.drew = w26 at HB HR214_0 hx214_0 hx214_1 hx216_0 hx216_1 hx216_2 hx216_3 hHeld ⊢
     refine pa 0 46 (mb 19 1) HT_ ?_
     refine pa 1 47 (mb 19 3) HT_ ?_
     refine pa 2 48 (mb 19 7) HT_ ?_
     refine pa 3 49 (mb 19 15) HT_ ?_
     refine pa 4 50 (mb 19 31) HT_ ?_
     refine pa 5 51 (mb 19 63) HT_ ?_
     refine pa 6 52 (mb 19 127) HT_ ?_
     refine pa 8 54 (mb 19 383) HT_ ?_
     refine pa 9 55 (mb 19 895) HT_ ?_
     refine pa 10 56 (mb 19 1919) HT_ ?_
     refine ta6 7 53 (mb 19 2047) HT_ HW_ hHeld ?_
     refine oa 11 57 (mb 19 4095) HT_ (fun K hK => ?_)
     refine gA Tryz.func55 #[.slice (some ad216) l0.length c0, .int .i64 a4] ?_
     with_reducible refine (spec_FindPath.calls kj12 _ _ l0 a4 t215 _ ?side1 ?side2 A21.out).mono ?_
     (case side1 => exact cB HR0)
     (case side2 => exact HC0.out)
     rintro e w' ⟨rfl, ⟨nd, rfl⟩⟩
     refine ⟨_, rfl, ?_⟩
     refine hK.out _ _ ⟨(hC HB hw214_0), (hC HB hw214_1), (hC HB hw216_0), (hC HB hw216_1), (hC HB hw216_2), (hC HB hw216_3)⟩ (fun hHeld => ?_)
     clear hK K
     refine nB ?_
     refine pa 12 58 (mb 19 8191) HT_ ?_
     refine ta6 13 59 (mb 19 16383) HT_ HW_ hHeld ?_
     refine oa 14 60 (mb 19 32767) HT_ (fun K hK => ?_)
     refine gA Tryz.func108 #[.agg #[.int .i64 ((rd_T69 l0 t215).f0), .int .i64 ((rd_T69 l0 t215).f1), .int .i64 ((rd_T69 l0 t215).f2), .int .i64 ((rd_T69 l0 t215).f3)]] ?_
     with_reducible refine (spec_ClearOf.calls ((rd_T69 l0 t215).f0) ((rd_T69 l0 t215).f1) ((rd_T69 l0 t215).f2) ((rd_T69 l0 t215).f3) t217 _ A24.out).mono ?_
     rintro e w27 ⟨rfl, hb⟩
     refine ⟨_, rfl, ?_⟩
     replace HB := bs HB hb
     (try clear hb)
     (try clear hb2)
     (try clear hk)
     (try clear hi)
     refine hK.out _ _ ⟨(hC HB hw214_0), (hC HB hw214_1), (hC HB hw216_0), (hC HB hw216_1), (hC HB hw216_2), (hC HB hw216_3)⟩ (fun hHeld => ?_)
     clear hK K
     refine nB ?_
     refine pa 15 61 (mb 19 65535) HT_ ?_
     refine pa 16 62 (mb 19 131071) HT_ ?_
     refine pa 17 63 (mb 19 262143) HT_ ?_
     refine pa 18 45 (mb 19 524287) HT_ ?_
     refine eA HT_ ?_
     try go_wp2
     go_ret
     exact ⟨by first | rfl | (simp [errW_none, errW_some] <;> rfl) | (simp only [← hji7]; first | rfl | (simp [errW_none, errW_some] <;> rfl)) | (simp [*, errW_none, errW_some] <;> rfl), bA⟩
    rw [if_neg c25] at H
    have c25b0 := decide_eq_false c25
    clear c25
    obtain rfl := Option.some.inj H
    try go_wp2
    have HBo := HB
    replace HB := db HB
    obtain ⟨p214, q214⟩ : 0 ≤ (a2 : Int) ∧ a2 < (l1.length : Int) := ⟨dA, dA⟩
    obtain ⟨ad214, A214_0, c214_0, e214, hx214_0, hx214_1, hl214_0, hi214_0⟩ := at_T72 HR1.out a2 p214 q214
    have hw214_1 := hx214_1
    have hw214_0 := hx214_0
    obtain rfl : ad209 = ad214 := (by injection e214)
    replace hx214_0 := hC HB hx214_0
    replace hx214_1 := hC HB hx214_1
    have HR214_0 := Aside0.mk hi214_0
    have HC214_0 := Aside0.mk hl214_0
    clear hi214_0 hl214_0
    obtain ⟨p214, q214⟩ := eT p214 q214
    obtain ⟨p216, q216⟩ : 0 ≤ (t215 : Int) ∧ t215 < (l0.length : Int) := ⟨dA, dA⟩
    obtain ⟨ad216, e216, hx216_0, hx216_1, hx216_2, hx216_3⟩ := at_T69 HR0.out t215 p216 q216
    have hw216_3 := hx216_3
    have hw216_2 := hx216_2
    have hw216_1 := hx216_1
    have hw216_0 := hx216_0
    cases e216
    replace hx216_0 := hC HB hx216_0
    replace hx216_1 := hC HB hx216_1
    replace hx216_2 := hC HB hx216_2
    replace hx216_3 := hC HB hx216_3
    obtain ⟨p216, q216⟩ := eT p216 q216
    refine sw (ds := []) 19 (mb 19 0) spec_l9Light.tab5 spec_l9Light.bits5 (h1c (hC HB hw214_0) (h1c (hC HB hw214_1) (h1c (hC HB hw216_0) (h1c (hC HB hw216_1) (h1c (hC HB hw216_2) (h1 (hC HB hw216_3))))))) (fun hHeld HT_ HW_ => ?_)
    generalize wc.drew = w28 at HB HR214_0 hx214_0 hx214_1 hx216_0 hx216_1 hx216_2 hx216_3 hHeld ⊢
    refine pa 0 46 (mb 19 1) HT_ ?_
    refine pa 1 47 (mb 19 3) HT_ ?_
    refine pa 2 48 (mb 19 7) HT_ ?_
    refine pa 3 49 (mb 19 15) HT_ ?_
    refine pa 4 50 (mb 19 31) HT_ ?_
    refine pa 5 51 (mb 19 63) HT_ ?_
    refine pa 6 52 (mb 19 127) HT_ ?_
    refine pa 8 54 (mb 19 383) HT_ ?_
    refine pa 9 55 (mb 19 895) HT_ ?_
    refine pa 10 56 (mb 19 1919) HT_ ?_
    refine ta6 7 53 (mb 19 2047) HT_ HW_ hHeld ?_
    refine oa 11 57 (mb 19 4095) HT_ (fun K hK => ?_)
    refine gA Tryz.func55 #[.slice (some ad216) l0.length c0, .int .i64 a4] ?_
    with_reducible refine (spec_FindPath.calls kj12 _ _ l0 a4 t215 _ ?side1 ?side2 A21.out).mono ?_
    (case side1 => exact cB HR0)
    (case side2 => exact HC0.out)
    rintro e w' ⟨rfl, ⟨nd, rfl⟩⟩
    refine ⟨_, rfl, ?_⟩
    refine hK.out _ _ ⟨(hC HB hw214_0), (hC HB hw214_1), (hC HB hw216_0), (hC HB hw216_1), (hC HB hw216_2), (hC HB hw216_3)⟩ (fun hHeld => ?_)
    clear hK K
    refine nB ?_
    refine pa 12 58 (mb 19 8191) HT_ ?_
    refine ta6 13 59 (mb 19 16383) HT_ HW_ hHeld ?_
    refine oa 14 60 (mb 19 32767) HT_ (fun K hK => ?_)
    refine gA Tryz.func108 #[.agg #[.int .i64 ((rd_T69 l0 t215).f0), .int .i64 ((rd_T69 l0 t215).f1), .int .i64 ((rd_T69 l0 t215).f2), .int .i64 ((rd_T69 l0 t215).f3)]] ?_
    with_reducible refine (spec_ClearOf.calls ((rd_T69 l0 t215).f0) ((rd_T69 l0 t215).f1) ((rd_T69 l0 t215).f2) ((rd_T69 l0 t215).f3) t217 _ A24.out).mono ?_
    rintro e w29 ⟨rfl, hb⟩
    refine ⟨_, rfl, ?_⟩
    replace HB := bs HB hb
    (try clear hb)
    (try clear hb2)
    (try clear hk)
    (try clear hi)
    refine hK.out _ _ ⟨(hC HB hw214_0), (hC HB hw214_1), (hC HB hw216_0), (hC HB hw216_1), (hC HB hw216_2), (hC HB hw216_3)⟩ (fun hHeld => ?_)
    clear hK K
    refine nB ?_
    refine pa 15 61 (mb 19 65535) HT_ ?_
    refine pa 16 62 (mb 19 131071) HT_ ?_
    refine pa 17 63 (mb 19 262143) HT_ ?_
    refine pa 18 45 (mb 19 524287) HT_ ?_
    refine eA HT_ ?_
    try go_wp2
    go_ret
    exact ⟨by first | rfl | (simp [errW_none, errW_some] <;> rfl) | (simp only [← hji7]; first | rfl | (simp [errW_none, errW_some] <;> rfl)) | (simp [*, errW_none, errW_some] <;> rfl), bA⟩
   replace c18 := Bool.eq_false_iff.mpr c18
   subst c18
   have H1 : (some 0) = some r := by rw [if_neg (show ¬ (false = true) by decide)] at H; exact H
   clear H
   have H := H1
   clear H1
   obtain rfl := Option.some.inj H
   try go_wp2
   have HBo := HB
   replace HB := db HB
   refine sw (ds := []) 19 (mb 19 0) spec_l9Light.tab5 spec_l9Light.bits5 h0 (fun hHeld HT_ HW_ => ?_)
   generalize wc.drew = w30 at HB hHeld ⊢
   refine pa 0 46 (mb 19 1) HT_ ?_
   refine pa 1 47 (mb 19 3) HT_ ?_
   refine pu 2 48 (mb 19 7) HT_ ?_
   refine pu 3 49 (mb 19 15) HT_ ?_
   refine pu 4 50 (mb 19 31) HT_ ?_
   refine pu 5 51 (mb 19 63) HT_ ?_
   refine pu 6 52 (mb 19 127) HT_ ?_
   refine pu 7 53 (mb 19 255) HT_ ?_
   refine pu 8 54 (mb 19 511) HT_ ?_
   refine pu 9 55 (mb 19 1023) HT_ ?_
   refine pu 10 56 (mb 19 2047) HT_ ?_
   refine pu 11 57 (mb 19 4095) HT_ ?_
   refine pu 12 58 (mb 19 8191) HT_ ?_
   refine pu 13 59 (mb 19 16383) HT_ ?_
   refine pu 14 60 (mb 19 32767) HT_ ?_
   refine pu 15 61 (mb 19 65535) HT_ ?_
   refine pu 16 62 (mb 19 131071) HT_ ?_
   refine pa 17 63 (mb 19 262143) HT_ ?_
   refine pa 18 45 (mb 19 524287) HT_ ?_
   refine eA HT_ ?_
   try go_wp2
   go_ret
   exact ⟨by first | rfl | (simp [errW_none, errW_some] <;> rfl) | (simp only [← hji7]; first | rfl | (simp [errW_none, errW_some] <;> rfl)) | (simp [*, errW_none, errW_some] <;> rfl), bA⟩

/-! ### spec_l9Row: function 66 -/
mutual
def spec_l9Row.j0 : Nat → List (S69) → List (S72) → Int → List Int → Bool → Option (List Int)
 | 0, _, _, _, _, _ => none
 | k + 1, x0, x1, x2, x7, x20 => if x20 = true then (some x7) else (spec_l9Row.l0 k x0 x1 x2 x7 0)
def spec_l9Row.l0 : Nat → List (S69) → List (S72) → Int → List Int → Int → Option (List Int)
 | 0, _, _, _, _, _ => none
 | k + 1, x0, x1, x2, x7, x8 => if x8 < (x1.length : Int) then (spec_l9Row.l1 k x0 x1 x2 x7 x8 0) else (some x7)
def spec_l9Row.l1 : Nat → List (S69) → List (S72) → Int → List Int → Int → Int → Option (List Int)
 | 0, _, _, _, _, _, _ => none
 | k + 1, x0, x1, x2, x7, x8, x9 => (spec_l8Long.f k x0 x1 x8).bind fun t223 => (if x9 < t223 then ((spec_l9Light.f k x0 x1 x8 x9 x2).bind fun t224 => (if x7.length < 17592186044416 then (spec_l9Row.l1 k x0 x1 x2 (x7 ++ [t224]) x8 (wrap64 (x9 + 1))) else (none))) else (spec_l9Row.l0 k x0 x1 x2 x7 (wrap64 (x8 + 1))))
end
def spec_l9Row.f (k : Nat) (l0 : List (S69)) (l1 : List (S72)) (a2 : Int) : Option (List Int) := (some (([] : List Int) : List Int)).bind fun y218 => ((spec_IsPlan.f k l0 l1).bind fun t221 => (if t221 = true then ((spec_FindPath.f k l0 a2).bind fun t222 => (spec_l9Row.j0 k l0 l1 a2 y218 (decide (t222 < 0)))) else (spec_l9Row.j0 k l0 l1 a2 y218 true)))
theorem spec_l9Row.mono_l : ∀ k, (∀ y0 y1 y2 y3 y4, LeO (spec_l9Row.j0 k y0 y1 y2 y3 y4) (spec_l9Row.j0 (k + 1) y0 y1 y2 y3 y4)) ∧ (∀ y0 y1 y2 y3 y4, LeO (spec_l9Row.l0 k y0 y1 y2 y3 y4) (spec_l9Row.l0 (k + 1) y0 y1 y2 y3 y4)) ∧ (∀ y0 y1 y2 y3 y4 y5, LeO (spec_l9Row.l1 k y0 y1 y2 y3 y4 y5) (spec_l9Row.l1 (k + 1) y0 y1 y2 y3 y4 y5))
 | 0 => ⟨fun _ _ _ _ _ r h => by simp [spec_l9Row.j0] at h, fun _ _ _ _ _ r h => by simp [spec_l9Row.l0] at h, fun _ _ _ _ _ _ r h => by simp [spec_l9Row.l1] at h⟩
 | k + 1 => by
  obtain ⟨ih0, ih1, ih2⟩ := spec_l9Row.mono_l k
  refine ⟨?_, ?_, ?_⟩
  ·
   intro y0 y1 y2 y3 y4
   unfold spec_l9Row.j0
   exact mz7 ih0 ih1 ih2 spec_FindPath.mono spec_IsPlan.mono spec_l8Long.mono spec_l9Light.mono
  ·
   intro y0 y1 y2 y3 y4
   unfold spec_l9Row.l0
   exact mz7 ih0 ih1 ih2 spec_FindPath.mono spec_IsPlan.mono spec_l8Long.mono spec_l9Light.mono
  ·
   intro y0 y1 y2 y3 y4 y5
   unfold spec_l9Row.l1
   exact mz7 ih0 ih1 ih2 spec_FindPath.mono spec_IsPlan.mono spec_l8Long.mono spec_l9Light.mono
theorem spec_l9Row.mono : ∀ a0 a1 a2 k, LeO (spec_l9Row.f k a0 a1 a2) (spec_l9Row.f (k + 1) a0 a1 a2) := by
 intro a0 a1 a2 k
 obtain ⟨ih0, ih1, ih2⟩ := spec_l9Row.mono_l k
 unfold spec_l9Row.f
 exact mz7 ih0 ih1 ih2 spec_FindPath.mono spec_IsPlan.mono spec_l8Long.mono spec_l9Light.mono
set_option maxHeartbeats 8000000 in
set_option maxRecDepth 100000 in
theorem spec_l9Row.calls (k : Nat) (A0 : Option Addr) (c0 : Nat) (l0 : List (S69)) (A1 : Option Addr) (c1 : Nat) (l1 : List (S72)) (a2 : Int) (r : List Int) (w : World) (hr0 : Kd.C k69 w A0 l0.length l0) (hc0 : l0.length ≤ c0) (hr1 : Kd.C k72 w A1 l1.length l1) (hc1 : l1.length ≤ c1) (h : spec_l9Row.f k l0 l1 a2 = some r) :
  Calls Tryz.prog 66 #[.slice A0 l0.length c0, .slice A1 l1.length c1, .int .i64 a2] w fun e w' => ∃ v0_ : Value, e = .returned (v0_) ∧ Kd.R (Kd.int .i64) 3 w' w.heap.size (fun _ => True) v0_ r ∧ Below w.heap.size w w' := by
 have HR0 := Aside0.mk hr0
 have HC0 := Aside0.mk hc0
 clear hr0 hc0
 have HR1 := Aside0.mk hr1
 have HC1 := Aside0.mk hc1
 clear hr1 hc1
 have HB := Aside0.mk (Below.refl w.heap.size w)
 have H : ((some (([] : List Int) : List Int)).bind fun y218 => ((spec_IsPlan.f k l0 l1).bind fun t221 => (if t221 = true then ((spec_FindPath.f k l0 a2).bind fun t222 => (spec_l9Row.j0 k l0 l1 a2 y218 (decide (t222 < 0)))) else (spec_l9Row.j0 k l0 l1 a2 y218 true)))) = some r := h
 clear h
 obtain ⟨y218, hy218⟩ : ∃ y_ : List Int, y_ = (([] : List Int)) := ⟨_, rfl⟩
 replace H : ((spec_IsPlan.f k l0 l1).bind fun t221 => (if t221 = true then ((spec_FindPath.f k l0 a2).bind fun t222 => (spec_l9Row.j0 k l0 l1 a2 y218 (decide (t222 < 0)))) else (spec_l9Row.j0 k l0 l1 a2 y218 true))) = some r := rH H hy218
 have Ny218 := Aside0.mk hy218
 clear hy218
 have HC4 := Aside0.mk H
 clear H
 go_enter Tryz.func66, Tryz.ntmps66
 go_upto_region 2 with (first | ((with_reducible refine gate_dst (N := 10) rfl ?_); refine Kd.R_lit (Kd.int .i64) _ 3 ?hg (N := 10) ?hd (xs := ([] : List Int)) (inner := []) (ok := fun _ => True) (okp := fun _ => True) ?hr ?hp (fun _ hk => hk) trivial (Below.refl _ _) (Nat.le_refl _) (by simp) ?_; (case hd => rfl); (case hg => rfl); (case hr => first | (go_simp; done) | (go_simp; rfl)); (case hp => exact (Reps.none _ _)); intro v219 w5 ho6 hb hg_ hnew_; clear hg_ hnew_; (first | rw [← Ny218.out] at ho6 | (simp only [Int.reduceToNat] at ho6; rw [← Ny218.out] at ho6)); have HO220 := rl w ho6; replace HB := bs HB hb; clear hb ho6))
 (try simp only [Act.put, List.setIfInBounds_toArray, List.set_cons_zero, List.set_cons_succ])
 go_cut [20] (fun v20 wc => ∃ (kq : Nat) (x20_3 : Bool), v20 = .bool x20_3 ∧ Aside0 (spec_l9Row.j0 kq l0 l1 a2 y218 x20_3 = some r) ∧ Aside0 (kq ≤ k) ∧ Aside0 (Kd.R (Kd.int .i64) 3 wc w.heap.size (fun _ => True) v219 y218) ∧ Aside0 (Below w.heap.size w wc))
 case first =>
  have H := HC4.out
  clear HC4
  obtain ⟨t221, A7, H⟩ := bindE H
  try dsimp only at H
  by_cases c8 : t221 = true
  ·
   subst c8
   have H1 : ((spec_FindPath.f k l0 a2).bind fun t222 => (spec_l9Row.j0 k l0 l1 a2 y218 (decide (t222 < 0)))) = some r := by rw [if_pos rfl] at H; exact H
   clear H
   have H := H1
   clear H1
   obtain ⟨t222, A9, H⟩ := bindE H
   try dsimp only at H
   have H' := Aside0.mk H
   clear H
   go_wp2_with (first | ((with_reducible refine gate_callee (f := 90) rfl ?_); refine gL (some 13) Tryz.func90 #[.slice A0 l0.length c0, .slice A1 l1.length c1] ?_; (with_reducible refine (spec_IsPlan.calls k _ _ l0 _ _ l1 true _ ?_ ?_ ?_ ?_ A7.out).mono ?_); exact cB HR0; exact HC0.out; exact cB HR1; exact HC1.out; rintro e w10 ⟨rfl, hb⟩; refine ⟨_, rfl, ?_⟩; replace HO220 := rb HO220 hb; replace HB := bs HB hb; (try clear hb)) | (go_at_call 55; (with_reducible refine (spec_FindPath.calls k _ _ l0 a2 t222 _ ?_ ?_ A9.out).mono ?_); exact cB HR0; exact HC0.out; rintro e w' ⟨rfl, ⟨nd, rfl⟩⟩))
   go_meet
   case rel => exact ⟨_, (decide (t222 < 0)), rS, H', ⟨oL⟩, ⟨rK HO220⟩, ⟨bA⟩⟩
  replace c8 := Bool.eq_false_iff.mpr c8
  subst c8
  have H1 : (spec_l9Row.j0 k l0 l1 a2 y218 true) = some r := by rw [if_neg (show ¬ (false = true) by decide)] at H; exact H
  clear H
  have H := H1
  clear H1
  have H' := Aside0.mk H
  clear H
  go_wp2_with (first | ((with_reducible refine gate_callee (f := 90) rfl ?_); refine gL (some 13) Tryz.func90 #[.slice A0 l0.length c0, .slice A1 l1.length c1] ?_; (with_reducible refine (spec_IsPlan.calls k _ _ l0 _ _ l1 false _ ?_ ?_ ?_ ?_ A7.out).mono ?_); exact cB HR0; exact HC0.out; exact cB HR1; exact HC1.out; rintro e w11 ⟨rfl, hb⟩; refine ⟨_, rfl, ?_⟩; replace HO220 := rb HO220 hb; replace HB := bs HB hb; (try clear hb)))
  go_meet
  case rel => exact ⟨_, (true), rS, H', ⟨oL⟩, ⟨rK HO220⟩, ⟨bA⟩⟩
 case rest =>
  clear HC4
  obtain ⟨kq, x20_3, rfl, HA, HJ3, HO_7, HB⟩ := hcut
  cases kq with
  | zero => exact absurd HA.out (by simp [spec_l9Row.j0])
  | succ kj3 =>
   have H := HA.out
   clear HA
   simp only [spec_l9Row.j0] at H
   by_cases c12 : x20_3 = true
   ·
    subst c12
    have H1 : (some y218) = some r := by rw [if_pos rfl] at H; exact H
    clear H
    have H := H1
    clear H1
    obtain rfl := Option.some.inj H
    go_wp2
    go_ret
    exact ⟨_, rA, rK HO_7, bA⟩
   replace c12 := Bool.eq_false_iff.mpr c12
   subst c12
   have H1 : (spec_l9Row.l0 kj3 l0 l1 a2 y218 0) = some r := by rw [if_neg (show ¬ (false = true) by decide)] at H; exact H
   clear H
   have H := H1
   clear H1
   have H' := Aside0.mk H
   clear H
   go_wp2
   go_loopg [7, 8] kj3 (fun kq v7 v8 w' => ∃ (x7_2 : List Int) (x8_2 : Int), v8 = .int .i64 x8_2 ∧ Aside0 (spec_l9Row.l0 kq l0 l1 a2 x7_2 x8_2 = some r) ∧ Aside0 (kq ≤ kj3) ∧ Aside0 (Kd.R (Kd.int .i64) 3 w' w.heap.size (fun _ => True) v7 x7_2) ∧ Aside0 (Below w.heap.size w w'))
   case atStart => exact ⟨(y218), (0), rS, H', ⟨Nat.le_refl _⟩, ⟨rK HO_7⟩, ⟨bA⟩⟩
   case round =>
    clear H'
    obtain ⟨x7_2, x8_2, rfl, HA, HK2, HO_7, HB⟩ := hrel
    cases gk with
    | zero => exact absurd HA.out (by simp [spec_l9Row.l0])
    | succ k2 =>
     have H := HA.out
     clear HA
     simp only [spec_l9Row.l0] at H
     by_cases c13 : x8_2 < (l1.length : Int)
     ·
      rw [if_pos c13] at H
      have c13b0 := decide_eq_true c13
      clear c13
      have H' := Aside0.mk H
      clear H
      go_wp2
      go_loopg [7, 9] k2 (fun kq v7 v9 w' => ∃ (x7_3 : List Int) (x9_3 : Int), v9 = .int .i64 x9_3 ∧ Aside0 (spec_l9Row.l1 kq l0 l1 a2 x7_3 x8_2 x9_3 = some r) ∧ Aside0 (kq ≤ k2) ∧ Aside0 (Kd.R (Kd.int .i64) 3 w' w.heap.size (fun _ => True) v7 x7_3) ∧ Aside0 (Below w.heap.size w w'))
      case atStart => exact ⟨(x7_2), (0), rS, H', ⟨Nat.le_refl _⟩, ⟨rK HO_7⟩, ⟨bA⟩⟩
      case round =>
       clear H'
       obtain ⟨x7_3, x9_3, rfl, HA, HK3, HO_7, HB⟩ := hrel
       cases gk with
       | zero => exact absurd HA.out (by simp [spec_l9Row.l1])
       | succ k3 =>
        have H := HA.out
        clear HA
        simp only [spec_l9Row.l1] at H
        obtain ⟨t223, A14, H⟩ := bindE H
        try dsimp only at H
        by_cases c15 : x9_3 < t223
        ·
         rw [if_pos c15] at H
         have c15b0 := decide_eq_true c15
         clear c15
         obtain ⟨t224, A16, H⟩ := bindE H
         try dsimp only at H
         have c17 : x7_3.length < 17592186044416 := ifN H
         replace H := ifT H
         have LMc17 := Aside0.mk c17
         clear c17
         obtain ⟨y225, hy225⟩ : ∃ y_ : List Int, y_ = (x7_3 ++ [t224]) := ⟨_, rfl⟩
         replace H : (spec_l9Row.l1 k3 l0 l1 a2 y225 x8_2 (wrap64 (x9_3 + 1))) = some r := rH H hy225
         have Ny225 := Aside0.mk hy225
         clear hy225
         have H' := Aside0.mk H
         clear H
         go_wp2_with (first | ((with_reducible refine gate_callee (f := 91) rfl ?_); refine gL (some 32) Tryz.func91 #[.slice A0 l0.length c0, .slice A1 l1.length c1, .int .i64 x8_2] ?_; (with_reducible refine (spec_l8Long.calls k3 _ _ l0 _ _ l1 x8_2 t223 _ ?_ ?_ ?_ ?_ A14.out).mono ?_); exact cB HR0; exact HC0.out; exact cB HR1; exact HC1.out; rintro e w18 ⟨rfl, hb⟩; refine ⟨_, rfl, ?_⟩; replace HO_7 := rb HO_7 hb; replace HB := bs HB hb; (try clear hb)) | ((with_reducible refine gate_callee (f := 92) rfl ?_); refine gL (some 42) Tryz.func92 #[.slice A0 l0.length c0, .slice A1 l1.length c1, .int .i64 x8_2, .int .i64 x9_3, .int .i64 a2] ?_; (with_reducible refine (spec_l9Light.calls k3 _ _ l0 _ _ l1 x8_2 x9_3 a2 t224 _ ?_ ?_ ?_ ?_ A16.out).mono ?_); exact cB HR0; exact HC0.out; exact cB HR1; exact HC1.out; rintro e w19 ⟨rfl, hb⟩; refine ⟨_, rfl, ?_⟩; replace HO_7 := rb HO_7 hb; replace HB := bs HB hb; (try clear hb)) | ((with_reducible refine gate_builtin (b := .append) (xs := #[.tmp 36, .tmp 43]) rfl ?_); at_builtin; refine Kd.R_append (Kd.int .i64) (w0 := w) w.heap.size rfl (.tmp 36) (.tmp 43) 28 3 (.int .i64 0) 8 rfl Tryz.underlying28 info3 rfl (by decide) (by omega) u7 x7_3 t224 [.int .i64 t224] (fun _ => True) (fun _ => False) rfl rfl ?aP (fun _ hk => hk.elim) ?aF ?aO ?aB ?aS ?aL ?_; (case aP => exact rfl); (case aB => exact bA); (case aF => exact (fun _ _ => trivial)); (case aO => exact (rK HO_7)); (case aS => exact (below_size bA)); (case aL => have := LMc17.out; omega); intro v226 w20 ho hb hg hat; rw [← Ny225.out] at ho; have n0_ := Aside0.mk (hb); have n1_ := Aside0.mk (ho); clear HB; clear HO_7; have HB := n0_; have HO227 := n1_; clear n0_ n1_; clear ho hb hg hat))
         go_roundg k3
         case measure => have := HJ3.out; have := HK2.out; have := HK3.out; omega
         case rel => exact ⟨(y225), (wrap64 (x9_3 + 1)), rS, H', ⟨by have := HJ3.out; have := HK2.out; have := HK3.out; omega⟩, ⟨rK HO227⟩, ⟨bA⟩⟩
        rw [if_neg c15] at H
        have c15b0 := decide_eq_false c15
        clear c15
        have H' := Aside0.mk H
        clear H
        go_wp2_with (first | ((with_reducible refine gate_callee (f := 91) rfl ?_); refine gL (some 32) Tryz.func91 #[.slice A0 l0.length c0, .slice A1 l1.length c1, .int .i64 x8_2] ?_; (with_reducible refine (spec_l8Long.calls k3 _ _ l0 _ _ l1 x8_2 t223 _ ?_ ?_ ?_ ?_ A14.out).mono ?_); exact cB HR0; exact HC0.out; exact cB HR1; exact HC1.out; rintro e w21 ⟨rfl, hb⟩; refine ⟨_, rfl, ?_⟩; replace HO_7 := rb HO_7 hb; replace HB := bs HB hb; (try clear hb)))
        go_roundg k3
        case measure => have := HJ3.out; have := HK2.out; have := HK3.out; omega
        case rel => exact ⟨(x7_3), (wrap64 (x8_2 + 1)), rS, H', ⟨by have := HJ3.out; have := HK2.out; have := HK3.out; omega⟩, ⟨rK HO_7⟩, ⟨bA⟩⟩
     rw [if_neg c13] at H
     have c13b0 := decide_eq_false c13
     clear c13
     obtain rfl := Option.some.inj H
     go_wp2
     go_ret
     exact ⟨_, rA, rK HO_7, bA⟩

/-! ### spec_NextGreen: function 35 -/
mutual
def spec_NextGreen.l0 : Nat → Int → List Int → Int → Option (Int)
 | 0, _, _, _ => none
 | k + 1, x3, x9, x10 => if x10 < (x9.length : Int) then ((spec_l1In.f x3 0 100000).bind fun t231 => (spec_NextGreen.j1 k x3 x9 x10 t231)) else (spec_NextGreen.j1 k x3 x9 x10 false)
def spec_NextGreen.j1 : Nat → Int → List Int → Int → Bool → Option (Int)
 | 0, _, _, _, _ => none
 | k + 1, x3, x9, x10, x22 => if x22 = true then (if (x9.length : Int) = 0 then (none) else (if 0 ≤ (Int.tmod (wrap64 (x3 + x10)) (x9.length : Int)) then (if (Int.tmod (wrap64 (x3 + x10)) (x9.length : Int)) < (x9.length : Int) then (if (rd x9 (Int.tmod (wrap64 (x3 + x10)) (x9.length : Int))) = 1 then (some (wrap64 (x3 + x10))) else (spec_NextGreen.l0 k x3 x9 (wrap64 (x10 + 1)))) else (none)) else (none))) else (some (-1))
end
def spec_NextGreen.f (k : Nat) (l0 : List (S69)) (l1 : List (S72)) (a2 : Int) (a3 : Int) : Option (Int) := (spec_l9Row.f k l0 l1 a2).bind fun t228 => (spec_NextGreen.l0 k a3 t228 0)
theorem spec_NextGreen.mono_l : ∀ k, (∀ y0 y1 y2, LeO (spec_NextGreen.l0 k y0 y1 y2) (spec_NextGreen.l0 (k + 1) y0 y1 y2)) ∧ (∀ y0 y1 y2 y3, LeO (spec_NextGreen.j1 k y0 y1 y2 y3) (spec_NextGreen.j1 (k + 1) y0 y1 y2 y3))
 | 0 => ⟨fun _ _ _ r h => by simp [spec_NextGreen.l0] at h, fun _ _ _ _ r h => by simp [spec_NextGreen.j1] at h⟩
 | k + 1 => by
  obtain ⟨ih0, ih1⟩ := spec_NextGreen.mono_l k
  refine ⟨?_, ?_⟩
  ·
   intro y0 y1 y2
   unfold spec_NextGreen.l0
   exact mz3 ih0 ih1 spec_l9Row.mono
  ·
   intro y0 y1 y2 y3
   unfold spec_NextGreen.j1
   exact mz3 ih0 ih1 spec_l9Row.mono
theorem spec_NextGreen.mono : ∀ a0 a1 a2 a3 k, LeO (spec_NextGreen.f k a0 a1 a2 a3) (spec_NextGreen.f (k + 1) a0 a1 a2 a3) := by
 intro a0 a1 a2 a3 k
 obtain ⟨ih0, ih1⟩ := spec_NextGreen.mono_l k
 unfold spec_NextGreen.f
 exact mz3 ih0 ih1 spec_l9Row.mono
set_option maxHeartbeats 8000000 in
set_option maxRecDepth 100000 in
theorem spec_NextGreen.calls (k : Nat) (A0 : Option Addr) (c0 : Nat) (l0 : List (S69)) (A1 : Option Addr) (c1 : Nat) (l1 : List (S72)) (a2 : Int) (a3 : Int) (r : Int) (w : World) (hr0 : Kd.C k69 w A0 l0.length l0) (hc0 : l0.length ≤ c0) (hr1 : Kd.C k72 w A1 l1.length l1) (hc1 : l1.length ≤ c1) (h : spec_NextGreen.f k l0 l1 a2 a3 = some r) :
  Calls Tryz.prog 35 #[.slice A0 l0.length c0, .slice A1 l1.length c1, .int .i64 a2, .int .i64 a3] w fun e w' => e = .returned (.int .i64 r) ∧ Below w.heap.size w w' := by
 have HR0 := Aside0.mk hr0
 have HC0 := Aside0.mk hc0
 clear hr0 hc0
 have HR1 := Aside0.mk hr1
 have HC1 := Aside0.mk hc1
 clear hr1 hc1
 have HB := Aside0.mk (Below.refl w.heap.size w)
 have H : ((spec_l9Row.f k l0 l1 a2).bind fun t228 => (spec_NextGreen.l0 k a3 t228 0)) = some r := h
 clear h
 obtain ⟨t228, A5, H⟩ := bindE H
 try dsimp only at H
 have H' := Aside0.mk H
 clear H
 go_enter Tryz.func35, Tryz.ntmps35
 go_wp2_with (first | ((with_reducible refine gate_callee (f := 66) rfl ?_); refine gL (some 14) Tryz.func66 #[.slice A0 l0.length c0, .slice A1 l1.length c1, .int .i64 a2] ?_; (with_reducible refine (spec_l9Row.calls k _ _ l0 _ _ l1 a2 t228 _ ?_ ?_ ?_ ?_ A5.out).mono ?_); exact cO HR0; exact HC0.out; exact cO HR1; exact HC1.out; rintro e w6 ⟨v229, rfl, ho0, hb⟩; refine ⟨_, rfl, ?_⟩; have HO230 := rl w ho0; replace HB := bs HB hb; (try clear hb); (try clear ho0)))
 go_loopg [10] k (fun kq v10 w' => ∃ (x10_1 : Int), v10 = .int .i64 x10_1 ∧ Aside0 (spec_NextGreen.l0 kq a3 t228 x10_1 = some r) ∧ Aside0 (kq ≤ k) ∧ Aside0 (Kd.R (Kd.int .i64) 3 w' w.heap.size (fun _ => True) v229 t228) ∧ Aside0 (Below w.heap.size w w'))
 case atStart => exact ⟨(0), rS, H', ⟨Nat.le_refl _⟩, ⟨rK HO230⟩, ⟨bA⟩⟩
 case round =>
  clear H'
  obtain ⟨x10_1, rfl, HA, HK1, HO_9, HB⟩ := hrel
  cases gk with
  | zero => exact absurd HA.out (by simp [spec_NextGreen.l0])
  | succ k1 =>
   have H := HA.out
   clear HA
   simp only [spec_NextGreen.l0] at H
   have HC7 := Aside0.mk H
   clear H
   go_upto_region 3 with (fail)
   go_cut [22] (fun v22 wc => ∃ (kq : Nat) (x22_6 : Bool), v22 = .bool x22_6 ∧ Aside0 (spec_NextGreen.j1 kq a3 t228 x10_1 x22_6 = some r) ∧ Aside0 (kq ≤ k1) ∧ Aside0 (Kd.R (Kd.int .i64) 3 wc w.heap.size (fun _ => True) v229 t228) ∧ Aside0 (Below w.heap.size w wc))
   case first =>
    have H := HC7.out
    clear HC7
    by_cases c8 : x10_1 < (t228.length : Int)
    ·
     rw [if_pos c8] at H
     have c8b0 := decide_eq_true c8
     clear c8
     (first | rw [c8b0] | (simp only [i64_w, i32_w]; rw [c8b0]) | skip)
     obtain ⟨t231, A9, H⟩ := bindE H
     try dsimp only at H
     have H' := Aside0.mk H
     clear H
     obtain ⟨Ao10, co10, eo10⟩ := Kd.R_slice HO_9.out
     subst eo10
     go_wp2_with (first | (go_at_call 67; (with_reducible refine (spec_l1In.calls a3 0 100000 t231 _ A9.out).mono ?_); rintro e w' ⟨rfl, ⟨nd, rfl⟩⟩))
     go_meet
     case rel => exact ⟨_, (t231), rS, H', ⟨by have := HK1.out; first | omega | exact Nat.le_refl _⟩, ⟨rK HO_9⟩, ⟨bA⟩⟩
    rw [if_neg c8] at H
    have c8b0 := decide_eq_false c8
    clear c8
    (first | rw [c8b0] | (simp only [i64_w, i32_w]; rw [c8b0]) | skip)
    have H' := Aside0.mk H
    clear H
    obtain ⟨Ao11, co11, eo11⟩ := Kd.R_slice HO_9.out
    subst eo11
    go_wp2
    go_meet
    case rel => exact ⟨_, (false), rS, H', ⟨by have := HK1.out; first | omega | exact Nat.le_refl _⟩, ⟨rK HO_9⟩, ⟨bA⟩⟩
   case rest =>
    clear HC7
    obtain ⟨kq, x22_6, rfl, HA, HJ6, HO_9, HB⟩ := hcut
    cases kq with
    | zero => exact absurd HA.out (by simp [spec_NextGreen.j1])
    | succ kj6 =>
     have H := HA.out
     clear HA
     simp only [spec_NextGreen.j1] at H
     by_cases c12 : x22_6 = true
     ·
      subst c12
      have H1 : (if (t228.length : Int) = 0 then (none) else (if 0 ≤ (Int.tmod (wrap64 (a3 + x10_1)) (t228.length : Int)) then (if (Int.tmod (wrap64 (a3 + x10_1)) (t228.length : Int)) < (t228.length : Int) then (if (rd t228 (Int.tmod (wrap64 (a3 + x10_1)) (t228.length : Int))) = 1 then (some (wrap64 (a3 + x10_1))) else (spec_NextGreen.l0 kj6 a3 t228 (wrap64 (x10_1 + 1)))) else (none)) else (none))) = some r := by rw [if_pos rfl] at H; exact H
      clear H
      have H := H1
      clear H1
      have c13 : ¬ ((t228.length : Int) = 0) := ifN' H
      replace H := ifT' H
      have c13b0 : ((t228.length : Int) == 0) = false := beq_eq_false_iff_ne.mpr c13
      have c13b1 : ((t228.length : Int) != 0) = true := bne_iff_ne.mpr c13
      have c13b2 : ¬ (t228 = []) := fun h_ => c13 (by rw [h_]; rfl)
      obtain ⟨ji14, hji14⟩ : ∃ j_ : Int, (Int.tmod (wrap64 (a3 + x10_1)) (t228.length : Int)) = j_ := ⟨_, rfl⟩
      replace H : (if 0 ≤ (ji14) then (if (ji14) < (t228.length : Int) then (if (rd t228 (ji14)) = 1 then (some (wrap64 (a3 + x10_1))) else (spec_NextGreen.l0 kj6 a3 t228 (wrap64 (x10_1 + 1)))) else (none)) else (none)) = some r := by first | (rw [hji14] at H; exact H) | (simp only [hji14] at H ⊢; exact H)
      have c15 : 0 ≤ (ji14) := ifN H
      replace H := ifT H
      have c15b0 := decide_eq_true c15
      clear c15
      have c16 : (ji14) < (t228.length : Int) := ifN H
      replace H := ifT H
      have c16b0 := decide_eq_true c16
      clear c16
      by_cases c17 : (rd t228 (ji14)) = 1
      ·
       rw [if_pos c17] at H
       have c17b0 : ((rd t228 (ji14)) == 1) = true := beq_iff_eq.mpr c17
       have c17b1 : ((rd t228 (ji14)) != 1) = false := bne_eq_false_iff_eq.mpr c17
       clear c17
       obtain rfl := Option.some.inj H
       obtain ⟨Ao18, co18, eo18⟩ := Kd.R_slice HO_9.out
       subst eo18
       obtain ⟨p232, q232⟩ : 0 ≤ ((ji14) : Int) ∧ (ji14) < (t228.length : Int) := ⟨dA, dA⟩
       obtain ⟨ad232, e232, hx232_0⟩ := Kd.at_int (Kd.R_reads' HO_9.out).2.2 (ji14) p232 q232
       cases e232
       obtain ⟨p232, q232⟩ := eT p232 q232
       go_wp2
       go_ret
       exact ⟨by first | rfl | (simp [errW_none, errW_some] <;> rfl) | (simp only [← hji14]; first | rfl | (simp [errW_none, errW_some] <;> rfl)) | (simp [*, errW_none, errW_some] <;> rfl), bA⟩
      rw [if_neg c17] at H
      have c17b0 : ((rd t228 (ji14)) == 1) = false := beq_eq_false_iff_ne.mpr c17
      have c17b1 : ((rd t228 (ji14)) != 1) = true := bne_iff_ne.mpr c17
      have H' := Aside0.mk H
      clear H
      obtain ⟨Ao19, co19, eo19⟩ := Kd.R_slice HO_9.out
      subst eo19
      obtain ⟨p232, q232⟩ : 0 ≤ ((ji14) : Int) ∧ (ji14) < (t228.length : Int) := ⟨dA, dA⟩
      obtain ⟨ad232, e232, hx232_0⟩ := Kd.at_int (Kd.R_reads' HO_9.out).2.2 (ji14) p232 q232
      cases e232
      obtain ⟨p232, q232⟩ := eT p232 q232
      go_wp2
      go_roundg kj6
      case measure => have := HK1.out; have := HJ6.out; omega
      case rel => exact ⟨(wrap64 (x10_1 + 1)), rS, H', ⟨by have := HK1.out; have := HJ6.out; omega⟩, ⟨rK HO_9⟩, ⟨bA⟩⟩
     replace c12 := Bool.eq_false_iff.mpr c12
     subst c12
     have H1 : (some (-1)) = some r := by rw [if_neg (show ¬ (false = true) by decide)] at H; exact H
     clear H
     have H := H1
     clear H1
     obtain rfl := Option.some.inj H
     go_wp2
     go_ret
     exact ⟨rA, bA⟩

/-! ### spec_l6Put: function 36 -/
def spec_l6Put.l0 : Nat → List Int → Int → Int → Option (List Int)
 | 0, _, _, _ => none
 | k + 1, x0, x1, x5 => if x5 < (x0.length : Int) then (if 0 ≤ x5 then (if (rd x0 x5) < x1 then (spec_l6Put.l0 k x0 x1 (wrap64 (x5 + 1))) else (if (rd x0 x5) = x1 then ((some (([] : List Int) : List Int)).bind fun y235 => (if y235.length + x0.length < 17592186044416 then (some (y235 ++ x0)) else (none))) else ((some (([] : List Int) : List Int)).bind fun y241 => (if x5 ≤ (x0.length : Int) then (if y241.length + (x0.take (x5 : Int).toNat).length < 17592186044416 then ((some (y241 ++ (x0.take (x5 : Int).toNat) : List Int)).bind fun y245 => ((some (([x1] : List Int) : List Int)).bind fun y248 => (if y245.length + y248.length < 17592186044416 then ((some (y245 ++ y248 : List Int)).bind fun y251 => (if y251.length + (x0.drop (x5 : Int).toNat).length < 17592186044416 then (some (y251 ++ (x0.drop (x5 : Int).toNat))) else (none))) else (none)))) else (none)) else (none))))) else (none)) else ((some (([] : List Int) : List Int)).bind fun y258 => (if 0 ≤ x5 then (if x5 ≤ (x0.length : Int) then (if y258.length + (x0.take (x5 : Int).toNat).length < 17592186044416 then ((some (y258 ++ (x0.take (x5 : Int).toNat) : List Int)).bind fun y262 => ((some (([x1] : List Int) : List Int)).bind fun y265 => (if y262.length + y265.length < 17592186044416 then ((some (y262 ++ y265 : List Int)).bind fun y268 => (if y268.length + (x0.drop (x5 : Int).toNat).length < 17592186044416 then (some (y268 ++ (x0.drop (x5 : Int).toNat))) else (none))) else (none)))) else (none)) else (none)) else (none)))
def spec_l6Put.f (k : Nat) (l0 : List Int) (a1 : Int) : Option (List Int) := spec_l6Put.l0 k l0 a1 0
theorem spec_l6Put.mono_l : ∀ k, (∀ y0 y1 y2, LeO (spec_l6Put.l0 k y0 y1 y2) (spec_l6Put.l0 (k + 1) y0 y1 y2))
 | 0 => fun _ _ _ r h => by simp [spec_l6Put.l0] at h
 | k + 1 => by
  have ih0 := spec_l6Put.mono_l k
  ·
   intro y0 y1 y2
   unfold spec_l6Put.l0
   exact mz1 ih0
theorem spec_l6Put.mono : ∀ a0 a1 k, LeO (spec_l6Put.f k a0 a1) (spec_l6Put.f (k + 1) a0 a1) := by
 intro a0 a1 k
 have ih0 := spec_l6Put.mono_l k
 unfold spec_l6Put.f
 exact mz1 ih0
def spec_l6Put.T6 : Bool × List (List Nat × List Nat) := (true, [([], []), ([], []), ([], []), ([1, 2], [1, 2]), ([0, 3], [0, 3]), ([], []), ([5], [5]), ([4, 6, 4], [4, 6]), ([], []), ([], []), ([8, 9], [8, 9]), ([7, 10, 7], [7, 10]), ([11, 11, 0, 1, 2, 3, 4, 5, 6, 7, 8, 9, 10, 11], [11])])
def spec_l6Put.B6 : List Nat := [0, 0, 0, 6, 15, 0, 32, 127, 0, 0, 768, 2047, 4095]
theorem spec_l6Put.tab6 : rtab .any (opsOf Tryz.f36 6) = spec_l6Put.T6 := by kernel_rfl
theorem spec_l6Put.bits6 : waitsOk spec_l6Put.T6.2 spec_l6Put.B6 = true := by kernel_rfl
set_option maxHeartbeats 8000000 in
set_option maxRecDepth 100000 in
theorem spec_l6Put.calls (k : Nat) (A0 : Option Addr) (c0 : Nat) (l0 : List Int) (a1 : Int) (r : List Int) (w : World) (hr0 : Kd.C (Kd.int .i64) w A0 l0.length l0) (hc0 : l0.length ≤ c0) (h : spec_l6Put.f k l0 a1 = some r) :
  Calls Tryz.prog 36 #[.slice A0 l0.length c0, .int .i64 a1] w fun e w' => ∃ v0_ : Value, e = .returned (v0_) ∧ Kd.R (Kd.int .i64) 3 w' w.heap.size (fun _ => True) v0_ r ∧ Below w.heap.size w w' := by
 have HR0 := Aside0.mk hr0
 have HC0 := Aside0.mk hc0
 clear hr0 hc0
 have HB := Aside0.mk (Below.refl w.heap.size w)
 have H : (spec_l6Put.l0 k l0 a1 0) = some r := h
 clear h
 have H' := Aside0.mk H
 clear H
 go_enter Tryz.func36, Tryz.ntmps36
 go_wp2
 go_loopg [5] k (fun kq v5 w' => ∃ (x5_1 : Int), v5 = .int .i64 x5_1 ∧ Aside0 (spec_l6Put.l0 kq l0 a1 x5_1 = some r) ∧ Aside0 (kq ≤ k) ∧ Aside0 (Below w.heap.size w w'))
 case atStart => exact ⟨(0), rS, H', ⟨Nat.le_refl _⟩, ⟨bA⟩⟩
 case round =>
  clear H'
  obtain ⟨x5_1, rfl, HA, HK1, HB⟩ := hrel
  cases gk with
  | zero => exact absurd HA.out (by simp [spec_l6Put.l0])
  | succ k1 =>
   have H := HA.out
   clear HA
   simp only [spec_l6Put.l0] at H
   by_cases c3 : x5_1 < (l0.length : Int)
   ·
    rw [if_pos c3] at H
    have c3b0 := decide_eq_true c3
    clear c3
    have c4 : 0 ≤ x5_1 := ifN H
    replace H := ifT H
    have c4b0 := decide_eq_true c4
    clear c4
    by_cases c5 : (rd l0 x5_1) < a1
    ·
     rw [if_pos c5] at H
     have c5b0 := decide_eq_true c5
     clear c5
     have H' := Aside0.mk H
     clear H
     obtain ⟨p233, q233⟩ : 0 ≤ (x5_1 : Int) ∧ x5_1 < (l0.length : Int) := ⟨dA, dA⟩
     obtain ⟨ad233, e233, hx233_0⟩ := Kd.at_int (Kd.C_below HR0.out HB.out) x5_1 p233 q233
     cases e233
     obtain ⟨p233, q233⟩ := eT p233 q233
     go_wp2
     go_roundg k1
     case measure => have := HK1.out; omega
     case rel => exact ⟨(wrap64 (x5_1 + 1)), rS, H', ⟨by have := HK1.out; omega⟩, ⟨bA⟩⟩
    rw [if_neg c5] at H
    have c5b0 := decide_eq_false c5
    clear c5
    by_cases c6 : (rd l0 x5_1) = a1
    ·
     rw [if_pos c6] at H
     have c6b0 : ((rd l0 x5_1) == a1) = true := beq_iff_eq.mpr c6
     have c6b1 : ((rd l0 x5_1) != a1) = false := bne_eq_false_iff_eq.mpr c6
     clear c6
     obtain ⟨y235, hy235⟩ : ∃ y_ : List Int, y_ = (([] : List Int)) := ⟨_, rfl⟩
     replace H : (if y235.length + l0.length < 17592186044416 then (some (y235 ++ l0)) else (none)) = some r := rH H hy235
     have Ny235 := Aside0.mk hy235
     clear hy235
     have c7 : y235.length + l0.length < 17592186044416 := ifN H
     replace H := ifT H
     have LMc7 := Aside0.mk c7
     clear c7
     obtain ⟨y238, hy238⟩ : ∃ y_ : List Int, y_ = (y235 ++ l0) := ⟨_, rfl⟩
     replace H : (some y238) = some r := rH H hy238
     have Ny238 := Aside0.mk hy238
     clear hy238
     obtain rfl := Option.some.inj H
     obtain ⟨p233, q233⟩ : 0 ≤ (x5_1 : Int) ∧ x5_1 < (l0.length : Int) := ⟨dA, dA⟩
     obtain ⟨ad233, e233, hx233_0⟩ := Kd.at_int (Kd.C_below HR0.out HB.out) x5_1 p233 q233
     cases e233
     obtain ⟨p233, q233⟩ := eT p233 q233
     obtain ⟨p234, q234⟩ : 0 ≤ (x5_1 : Int) ∧ x5_1 < (l0.length : Int) := ⟨dA, dA⟩
     obtain ⟨ad234, e234, hx234_0⟩ := Kd.at_int (Kd.C_below HR0.out HB.out) x5_1 p234 q234
     obtain rfl : ad233 = ad234 := (by injection e234)
     obtain ⟨p234, q234⟩ := eT p234 q234
     go_wp2_with (first | ((with_reducible refine gate_dst (N := 32) rfl ?_); refine Kd.R_lit (Kd.int .i64) _ 3 ?hg (N := 32) ?hd (xs := ([] : List Int)) (inner := []) (ok := fun _ => True) (okp := fun _ => True) ?hr ?hp (fun _ hk => hk) trivial (Below.refl _ _) (Nat.le_refl _) (by simp) ?_; (case hd => rfl); (case hg => rfl); (case hr => first | (go_simp; done) | (go_simp; rfl)); (case hp => exact (Reps.none _ _)); intro v236 w8 ho9 hb hg_ hnew_; clear hg_ hnew_; (first | rw [← Ny235.out] at ho9 | (simp only [Int.reduceToNat] at ho9; rw [← Ny235.out] at ho9)); have HO237 := rl w ho9; replace HB := bs HB hb; clear hb ho9) | ((with_reducible refine gate_builtin (b := .append) (xs := #[.tmp 32, .tmp 33]) rfl ?_); at_builtin; refine Kd.R_append_rows (Kd.int .i64) (w0 := w) w.heap.size rfl (.tmp 32) (.tmp 33) 28 3 (.int .i64 0) 8 rfl Tryz.underlying28 info3 rfl (by decide) (by omega) v236 y235 l0 _ _ _ (fun _ => True) (fun _ => False) rfl rfl ?aO ?aR (fun _ _ h => h) (fun _ h => h.elim) ?aF ?aB ?aS ?aL ?_; (case aR => repeat (first | exact (Kd.C_below HR0.out HB.out) | (with_reducible refine Kd.C_alloc ?_ _) | (with_reducible refine Kd.C_drewN ?_ _) | (with_reducible refine Kd.C_drew ?_))); (case aB => exact bA); (case aF => exact (fun _ _ => trivial)); (case aO => exact (rK HO237)); (case aS => exact (below_size bA)); (case aL => have := LMc7.out; omega); intro v239 w10 ho hb hg hat; rw [← Ny238.out] at ho; have n0_ := Aside0.mk (hb); have n1_ := Aside0.mk (ho); clear HB; clear HO237; have HB := n0_; have HO240 := n1_; clear n0_ n1_; clear ho hb hg hat))
     go_ret
     exact ⟨_, rA, rK HO240, bA⟩
    rw [if_neg c6] at H
    have c6b0 : ((rd l0 x5_1) == a1) = false := beq_eq_false_iff_ne.mpr c6
    have c6b1 : ((rd l0 x5_1) != a1) = true := bne_iff_ne.mpr c6
    obtain ⟨y241, hy241⟩ : ∃ y_ : List Int, y_ = (([] : List Int)) := ⟨_, rfl⟩
    replace H : (if x5_1 ≤ (l0.length : Int) then (if y241.length + (l0.take (x5_1 : Int).toNat).length < 17592186044416 then ((some (y241 ++ (l0.take (x5_1 : Int).toNat) : List Int)).bind fun y245 => ((some (([a1] : List Int) : List Int)).bind fun y248 => (if y245.length + y248.length < 17592186044416 then ((some (y245 ++ y248 : List Int)).bind fun y251 => (if y251.length + (l0.drop (x5_1 : Int).toNat).length < 17592186044416 then (some (y251 ++ (l0.drop (x5_1 : Int).toNat))) else (none))) else (none)))) else (none)) else (none)) = some r := rH H hy241
    have Ny241 := Aside0.mk hy241
    clear hy241
    have c11b0 := eq_true (dA : 0 ≤ x5_1)
    have c12 : x5_1 ≤ (l0.length : Int) := ifN H
    replace H := ifT H
    have c12b0 := eq_true c12
    have c12b1 := decide_eq_true c12
    clear c12
    have c13 : y241.length + (l0.take (x5_1 : Int).toNat).length < 17592186044416 := ifN H
    replace H := ifT H
    have LMc13 := Aside0.mk c13
    clear c13
    obtain ⟨y245, hy245⟩ : ∃ y_ : List Int, y_ = (y241 ++ (l0.take (x5_1 : Int).toNat)) := ⟨_, rfl⟩
    replace H : ((some (([a1] : List Int) : List Int)).bind fun y248 => (if y245.length + y248.length < 17592186044416 then ((some (y245 ++ y248 : List Int)).bind fun y251 => (if y251.length + (l0.drop (x5_1 : Int).toNat).length < 17592186044416 then (some (y251 ++ (l0.drop (x5_1 : Int).toNat))) else (none))) else (none))) = some r := rH H hy245
    have Ny245 := Aside0.mk hy245
    clear hy245
    obtain ⟨y248, hy248⟩ : ∃ y_ : List Int, y_ = (([a1] : List Int)) := ⟨_, rfl⟩
    replace H : (if y245.length + y248.length < 17592186044416 then ((some (y245 ++ y248 : List Int)).bind fun y251 => (if y251.length + (l0.drop (x5_1 : Int).toNat).length < 17592186044416 then (some (y251 ++ (l0.drop (x5_1 : Int).toNat))) else (none))) else (none)) = some r := rH H hy248
    have Ny248 := Aside0.mk hy248
    clear hy248
    have c14 : y245.length + y248.length < 17592186044416 := ifN H
    replace H := ifT H
    have LMc14 := Aside0.mk c14
    clear c14
    obtain ⟨y251, hy251⟩ : ∃ y_ : List Int, y_ = (y245 ++ y248) := ⟨_, rfl⟩
    replace H : (if y251.length + (l0.drop (x5_1 : Int).toNat).length < 17592186044416 then (some (y251 ++ (l0.drop (x5_1 : Int).toNat))) else (none)) = some r := rH H hy251
    have Ny251 := Aside0.mk hy251
    clear hy251
    have c15b0 := eq_true (dA : 0 ≤ x5_1)
    have c16b0 := eq_true (dA : x5_1 ≤ (l0.length : Int))
    have c17 : y251.length + (l0.drop (x5_1 : Int).toNat).length < 17592186044416 := ifN H
    replace H := ifT H
    have LMc17 := Aside0.mk c17
    clear c17
    obtain ⟨y255, hy255⟩ : ∃ y_ : List Int, y_ = (y251 ++ (l0.drop (x5_1 : Int).toNat)) := ⟨_, rfl⟩
    replace H : (some y255) = some r := rH H hy255
    have Ny255 := Aside0.mk hy255
    clear hy255
    obtain rfl := Option.some.inj H
    obtain ⟨p233, q233⟩ : 0 ≤ (x5_1 : Int) ∧ x5_1 < (l0.length : Int) := ⟨dA, dA⟩
    obtain ⟨ad233, e233, hx233_0⟩ := Kd.at_int (Kd.C_below HR0.out HB.out) x5_1 p233 q233
    cases e233
    obtain ⟨p233, q233⟩ := eT p233 q233
    obtain ⟨p234, q234⟩ : 0 ≤ (x5_1 : Int) ∧ x5_1 < (l0.length : Int) := ⟨dA, dA⟩
    obtain ⟨ad234, e234, hx234_0⟩ := Kd.at_int (Kd.C_below HR0.out HB.out) x5_1 p234 q234
    obtain rfl : ad233 = ad234 := (by injection e234)
    obtain ⟨p234, q234⟩ := eT p234 q234
    try go_wp2
    have HBo := HB
    replace HB := db HB
    obtain ⟨i019, hi019, _, hsz19, _⟩ := info_parts info3
    obtain ⟨hcut19, hA19, hC19⟩ := print_take_of (P := Tryz.prog) (Value.int .i64) 0 28 3 .i64 Tryz.underlying28 hi019 hsz19 (some ad233) c0 l0 x5_1 (dA) (dA) HC0.out
    have HR244 := Aside0.mk (Kd.C_of_reads (h1 := fun _ => rfl) (hA19 _ (Kd.reads_of_C HR0.out)))
    have HC244 := Aside0.mk hC19
    clear hA19 hC19 hi019 hsz19
    have HL244 := Aside0.mk (show (x5_1 : Int) ≤ (l0.length : Int) from (dA))
    obtain ⟨i020, hi020, _, hsz20, _⟩ := info_parts info3
    obtain ⟨A20, hcut20, hA20, hC20⟩ := print_drop_of (P := Tryz.prog) (Value.int .i64) 0 28 3 .i64 Tryz.underlying28 hi020 hsz20 (some ad233) c0 l0 x5_1 (dA) (dA) HC0.out
    have HR254 := Aside0.mk (Kd.C_of_reads (h1 := fun _ => rfl) (hA20 _ (Kd.reads_of_C HR0.out)))
    have HC254 := Aside0.mk hC20
    clear hA20 hC20 hi020 hsz20
    refine sw (ds := []) 13 (mb 13 0) spec_l6Put.tab6 spec_l6Put.bits6 h0 (fun hHeld HT_ HW_ => ?_)
    generalize wr.drew = w18 at HB HR244 HR254 hHeld ⊢
    refine pa 1 36 (mb 13 2) HT_ ?_
    refine pa 2 37 (mb 13 6) HT_ ?_
    refine pa 3 38 (mb 13 14) HT_ ?_
    refine pa 5 40 (mb 13 46) HT_ ?_
    refine pa 8 43 (mb 13 302) HT_ ?_
    refine pa 9 44 (mb 13 814) HT_ ?_
    refine pa 10 45 (mb 13 1838) HT_ ?_
    refine join_ (σ := Value × Value × Value) 3 (mb 13 1919) (fun s_ => [(35, s_.1), (39, s_.2.1), (41, s_.2.2)]) (fun s_ w' => (Kd.R (Kd.int .i64) 3 w' w.heap.size (n1 s_.2.2) s_.2.1 y245) ∧ (Kd.R (Kd.int .i64) 3 w' w.heap.size (n1 s_.2.1) s_.2.2 y248) ∧ (Below w.heap.size w w')) ?_ ?_
    rotate_left
    ·
     intro hCont
     refine two_ (i := 0) (j := 6) (Ni := some 35) (Nj := some 41) (mb 13 1839) (mb 13 1902) rfl rfl rfl rfl (two_of HT_.out (by kernel_rfl)) (by decide) (by decide) (fun K hK => ?_) (fun K hK => ?_)
     ·
      skip
      refine Kd.R_lit_step (Kd.int .i64) _ 3 ?hg (N := 35) ?hd (xs := ([] : List Int)) (inner := []) (ok := fun _ => True) (okp := fun _ => True) ?hr ?hp (fun _ hk => hk) trivial (Below.refl _ _) (Nat.le_refl _) (by simp) ?_; (case hd => rfl); (case hg => rfl); (case hr => first | (go_simp; done) | (go_simp; rfl)); (case hp => exact (Reps.none _ _))
      intro v242 w21 ho22 hb hg_ hnew_
      clear hg_ hnew_
      (first | rw [← Ny241.out] at ho22 | (simp only [Int.reduceToNat] at ho22; rw [← Ny241.out] at ho22))
      have HO243 := rl w ho22
      replace HB := bs HB hb
      clear hb ho22
      refine hK.out _ _ trivial (fun hHeld => ?_)
      clear hK K
      refine nB ?_
      refine two_ (i := 4) (j := 6) (Ni := some 39) (Nj := some 41) (mb 13 1855) (mb 13 1903) rfl rfl rfl rfl (two_of HT_.out (by kernel_rfl)) (by decide) (by decide) (fun K hK => ?_) (fun K hK => ?_)
      ·
       skip
       refine Kd.R_append_rows_step (Kd.int .i64) (w0 := w) w.heap.size (by rfl) (.tmp 35) (.tmp 38) 28 3 (.int .i64 0) 8 rfl Tryz.underlying28 info3 rfl (by decide) (by omega) v242 y241 (l0.take (x5_1 : Int).toNat) _ _ _ (fun _ => True) (fun _ => False) rfl rfl ?aO ?aR (fun _ _ h => h) (fun _ h => h.elim) ?aF ?aB ?aS ?aL ?_
       (case aR => (have hr_ := HR244.out; rw [show (l0.take (x5_1 : Int).toNat).length = x5_1.toNat from (by rw [List.length_take]; have h_ : (x5_1 : Int) ≤ (l0.length : Int) := dA; omega)] at hr_; (repeat (first | exact (Kd.C_below hr_ HB.out) | (with_reducible refine Kd.C_alloc ?_ _) | (with_reducible refine Kd.C_drewN ?_ _) | (with_reducible refine Kd.C_drew ?_))); done))
       (case aB => exact bA)
       (case aF => exact (fun _ _ => trivial))
       (case aO => exact (rK HO243))
       (case aS => exact (below_size bA))
       (case aL => have := LMc13.out; have hlx_ := (show (l0.take (x5_1 : Int).toNat).length = x5_1.toNat from (by rw [List.length_take]; have h_ : (x5_1 : Int) ≤ (l0.length : Int) := dA; omega)); omega)
       intro v246 w23 ho hb hg hat
       rw [← Ny245.out] at ho
       have n0_ := Aside0.mk (hb)
       have n1_ := Aside0.mk (ho)
       clear HB
       clear HO243
       have HB := n0_
       have HO247 := n1_
       clear n0_ n1_
       clear ho hb hg hat
       refine hK.out _ _ trivial (fun hHeld => ?_)
       clear hK K
       refine nB ?_
       refine oa 6 41 (mb 13 1919) HT_ (fun K hK => ?_)
       refine Kd.R_lit_step (Kd.int .i64) _ 3 ?hg (N := 41) ?hd (xs := ([a1] : List Int)) (inner := [.int .i64 a1]) (ok := fun _ => True) (okp := fun _ => True) ?hr ?hp (fun _ hk => hk) trivial (Below.refl _ _) (Nat.le_refl _) (by simp) ?_; (case hd => rfl); (case hg => rfl); (case hr => first | (go_simp; done) | (go_simp; rfl)); (case hp => exact (Reps.one (show Kd.M (Kd.int .i64) _ _ _ a1 [.int .i64 a1] from rfl) (Reps.none _ _)))
       intro v249 w24 ho25 hb hg_ hnew_
       clear hg_ hnew_
       (first | rw [← Ny248.out] at ho25 | (simp only [Int.reduceToNat] at ho25; rw [← Ny248.out] at ho25))
       have HO250 := rl w (rn ho25 HO247)
       replace HO247 := re HO247 ho25 hb
       replace HB := bs HB hb
       clear hb ho25
       refine hK.out _ _ trivial (fun hHeld => ?_)
       clear hK K
       refine nB ?_
       exact mB (hCont (v242, v246, v249) _ ⟨(rm HO247 (fun _ hk => hk.2)), (rm HO250 (fun _ hk => hk.2)), bA⟩)
      ·
       skip
       refine Kd.R_lit_step (Kd.int .i64) _ 3 ?hg (N := 41) ?hd (xs := ([a1] : List Int)) (inner := [.int .i64 a1]) (ok := fun _ => True) (okp := fun _ => True) ?hr ?hp (fun _ hk => hk) trivial (Below.refl _ _) (Nat.le_refl _) (by simp) ?_; (case hd => rfl); (case hg => rfl); (case hr => first | (go_simp; done) | (go_simp; rfl)); (case hp => exact (Reps.one (show Kd.M (Kd.int .i64) _ _ _ a1 [.int .i64 a1] from rfl) (Reps.none _ _)))
       intro v249 w23 ho24 hb hg_ hnew_
       clear hg_ hnew_
       (first | rw [← Ny248.out] at ho24 | (simp only [Int.reduceToNat] at ho24; rw [← Ny248.out] at ho24))
       have HO250 := rl w (rn ho24 HO243)
       replace HO243 := re HO243 ho24 hb
       replace HB := bs HB hb
       clear hb ho24
       refine hK.out _ _ trivial (fun hHeld => ?_)
       clear hK K
       refine nB ?_
       refine oa 4 39 (mb 13 1919) HT_ (fun K hK => ?_)
       refine Kd.R_append_rows_step (Kd.int .i64) (w0 := w) w.heap.size (by rfl) (.tmp 35) (.tmp 38) 28 3 (.int .i64 0) 8 rfl Tryz.underlying28 info3 rfl (by decide) (by omega) v242 y241 (l0.take (x5_1 : Int).toNat) _ _ _ (n1 v249) (fun _ => False) rfl rfl ?aO ?aR (fun _ _ h => h) (fun _ h => h.elim) ?aF ?aB ?aS ?aL ?_
       (case aR => (have hr_ := HR244.out; rw [show (l0.take (x5_1 : Int).toNat).length = x5_1.toNat from (by rw [List.length_take]; have h_ : (x5_1 : Int) ≤ (l0.length : Int) := dA; omega)] at hr_; (repeat (first | exact (Kd.C_below hr_ HB.out) | (with_reducible refine Kd.C_alloc ?_ _) | (with_reducible refine Kd.C_drewN ?_ _) | (with_reducible refine Kd.C_drew ?_))); done))
       (case aB => exact bA)
       (case aF => exact (fun k_ hk => Kd.fresh' (Kd.R_lt (rK HO250)) k_ hk))
       (case aO => exact (rm HO243 (fun _ hk => hk.2)))
       (case aS => exact (below_size bA))
       (case aL => have := LMc13.out; have hlx_ := (show (l0.take (x5_1 : Int).toNat).length = x5_1.toNat from (by rw [List.length_take]; have h_ : (x5_1 : Int) ≤ (l0.length : Int) := dA; omega)); omega)
       intro v246 w25 ho hb hg hat
       rw [← Ny245.out] at ho
       have n0_ := Aside0.mk (Kd.R_after (ok := (fun _ => True)) (rK HO250) hg hat)
       have n1_ := Aside0.mk (hb)
       have n2_ := Aside0.mk (ho)
       clear HO250
       clear HB
       clear HO243
       have HO250 := n0_
       have HB := n1_
       have HO247 := n2_
       clear n0_ n1_ n2_
       clear ho hb hg hat
       refine hK.out _ _ trivial (fun hHeld => ?_)
       clear hK K
       refine nB ?_
       exact mB (hCont (v242, v246, v249) _ ⟨(rK HO247), (rm HO250 (fun _ hk => hk.2)), bA⟩)
     ·
      skip
      refine Kd.R_lit_step (Kd.int .i64) _ 3 ?hg (N := 41) ?hd (xs := ([a1] : List Int)) (inner := [.int .i64 a1]) (ok := fun _ => True) (okp := fun _ => True) ?hr ?hp (fun _ hk => hk) trivial (Below.refl _ _) (Nat.le_refl _) (by simp) ?_; (case hd => rfl); (case hg => rfl); (case hr => first | (go_simp; done) | (go_simp; rfl)); (case hp => exact (Reps.one (show Kd.M (Kd.int .i64) _ _ _ a1 [.int .i64 a1] from rfl) (Reps.none _ _)))
      intro v249 w21 ho22 hb hg_ hnew_
      clear hg_ hnew_
      (first | rw [← Ny248.out] at ho22 | (simp only [Int.reduceToNat] at ho22; rw [← Ny248.out] at ho22))
      have HO250 := rl w ho22
      replace HB := bs HB hb
      clear hb ho22
      refine hK.out _ _ trivial (fun hHeld => ?_)
      clear hK K
      refine nB ?_
      refine oa 0 35 (mb 13 1903) HT_ (fun K hK => ?_)
      refine Kd.R_lit_step (Kd.int .i64) _ 3 ?hg (N := 35) ?hd (xs := ([] : List Int)) (inner := []) (ok := fun _ => True) (okp := fun _ => True) ?hr ?hp (fun _ hk => hk) trivial (Below.refl _ _) (Nat.le_refl _) (by simp) ?_; (case hd => rfl); (case hg => rfl); (case hr => first | (go_simp; done) | (go_simp; rfl)); (case hp => exact (Reps.none _ _))
      intro v242 w23 ho24 hb hg_ hnew_
      clear hg_ hnew_
      (first | rw [← Ny241.out] at ho24 | (simp only [Int.reduceToNat] at ho24; rw [← Ny241.out] at ho24))
      have HO243 := rl w (rn ho24 HO250)
      replace HO250 := re HO250 ho24 hb
      replace HB := bs HB hb
      clear hb ho24
      refine hK.out _ _ trivial (fun hHeld => ?_)
      clear hK K
      refine nB ?_
      refine oa 4 39 (mb 13 1919) HT_ (fun K hK => ?_)
      refine Kd.R_append_rows_step (Kd.int .i64) (w0 := w) w.heap.size (by rfl) (.tmp 35) (.tmp 38) 28 3 (.int .i64 0) 8 rfl Tryz.underlying28 info3 rfl (by decide) (by omega) v242 y241 (l0.take (x5_1 : Int).toNat) _ _ _ (n1 v249) (fun _ => False) rfl rfl ?aO ?aR (fun _ _ h => h) (fun _ h => h.elim) ?aF ?aB ?aS ?aL ?_
      (case aR => (have hr_ := HR244.out; rw [show (l0.take (x5_1 : Int).toNat).length = x5_1.toNat from (by rw [List.length_take]; have h_ : (x5_1 : Int) ≤ (l0.length : Int) := dA; omega)] at hr_; (repeat (first | exact (Kd.C_below hr_ HB.out) | (with_reducible refine Kd.C_alloc ?_ _) | (with_reducible refine Kd.C_drewN ?_ _) | (with_reducible refine Kd.C_drew ?_))); done))
      (case aB => exact bA)
      (case aF => exact (fun k_ hk => Kd.fresh' (Kd.R_lt (rK HO250)) k_ hk))
      (case aO => exact (rm HO243 (fun _ hk => hk.2)))
      (case aS => exact (below_size bA))
      (case aL => have := LMc13.out; have hlx_ := (show (l0.take (x5_1 : Int).toNat).length = x5_1.toNat from (by rw [List.length_take]; have h_ : (x5_1 : Int) ≤ (l0.length : Int) := dA; omega)); omega)
      intro v246 w25 ho hb hg hat
      rw [← Ny245.out] at ho
      have n0_ := Aside0.mk (Kd.R_after (ok := (fun _ => True)) (rK HO250) hg hat)
      have n1_ := Aside0.mk (hb)
      have n2_ := Aside0.mk (ho)
      clear HO250
      clear HB
      clear HO243
      have HO250 := n0_
      have HB := n1_
      have HO247 := n2_
      clear n0_ n1_ n2_
      clear ho hb hg hat
      refine hK.out _ _ trivial (fun hHeld => ?_)
      clear hK K
      refine nB ?_
      exact mB (hCont (v242, v246, v249) _ ⟨(rK HO247), (rm HO250 (fun _ hk => hk.2)), bA⟩)
    rintro ⟨v242, v246, v249⟩ w26 ⟨h0_, h1_, h2_⟩
    have n0_ : Aside0 (Kd.R (Kd.int .i64) 3 w26 w.heap.size (n1 v249) v246 y245) := ⟨h0_⟩
    have n1_ : Aside0 (Kd.R (Kd.int .i64) 3 w26 w.heap.size (n1 v246) v249 y248) := ⟨h1_⟩
    have n2_ : Aside0 (Below w.heap.size w w26) := ⟨h2_⟩
    clear HB
    clear h0_ h1_ h2_
    have HO247 := n0_
    have HO250 := n1_
    have HB := n2_
    clear n0_ n1_ n2_
    have hHeld := trivial
    obtain ⟨Ao28, co28, eo28⟩ := Kd.R_slice HO250.out
    (first | subst eo28 | (injection eo28 with f1_ f2_ f3_; have f4_ := f1_.symm; have f5_ := f3_.symm; clear f1_ f2_ f3_; subst f4_; subst f5_))
    refine norm_ (a' := ?_) ?_ ?_
    rotate_left
    ·
     simp only [putAll, Act.put, List.setIfInBounds_toArray, List.set_cons_zero, List.set_cons_succ]
     rfl
    refine oa 7 42 (mb 13 2047) HT_ (fun K hK => ?_)
    refine Kd.R_append_rows_step (Kd.int .i64) (w0 := w) w.heap.size (by rfl) (.tmp 39) (.tmp 41) 28 3 (.int .i64 0) 8 rfl Tryz.underlying28 info3 rfl (by decide) (by omega) v246 y245 y248 _ _ _ (n1 (.slice Ao28 y248.length co28)) (fun _ => False) rfl rfl ?aO ?aR (fun _ _ h => h) (fun _ h => h.elim) ?aF ?aB ?aS ?aL ?_
    (case aR => repeat (first | exact (Kd.R_reads' HO250.out).2.2 | (with_reducible refine Kd.C_alloc ?_ _) | (with_reducible refine Kd.C_drewN ?_ _) | (with_reducible refine Kd.C_drew ?_)))
    (case aB => exact bA)
    (case aF => exact (fun k_ hk => Kd.fresh' (Kd.R_lt (rK HO250)) k_ hk))
    (case aO => exact (rK HO247))
    (case aS => exact (below_size bA))
    (case aL => have := LMc14.out; omega)
    intro v252 w27 ho hb hg hat
    rw [← Ny251.out] at ho
    have n0_ := Aside0.mk (Kd.R_after (ok := (fun _ => True)) (rm HO250 (fun _ hk => ⟨trivial, hk⟩)) hg hat)
    have n1_ := Aside0.mk (hb)
    have n2_ := Aside0.mk (ho)
    clear HO250
    clear HB
    clear HO247
    have HO250 := n0_
    have HB := n1_
    have HO253 := n2_
    clear n0_ n1_ n2_
    clear ho hb hg hat
    refine hK.out _ _ trivial (fun hHeld => ?_)
    clear hK K
    refine nB ?_
    refine oa 11 46 (mb 13 4095) HT_ (fun K hK => ?_)
    refine Kd.R_append_rows_step (Kd.int .i64) (w0 := w) w.heap.size (by rfl) (.tmp 42) (.tmp 45) 28 3 (.int .i64 0) 8 rfl Tryz.underlying28 info3 rfl (by decide) (by omega) v252 y251 (l0.drop (x5_1 : Int).toNat) _ _ _ (n1 (.slice Ao28 y248.length co28)) (fun _ => False) rfl rfl ?aO ?aR (fun _ _ h => h) (fun _ h => h.elim) ?aF ?aB ?aS ?aL ?_
    (case aR => (have hr_ := HR254.out; rw [show (l0.drop (x5_1 : Int).toNat).length = (l0.length - x5_1.toNat) from List.length_drop] at hr_; (repeat (first | exact (Kd.C_below hr_ HB.out) | (with_reducible refine Kd.C_alloc ?_ _) | (with_reducible refine Kd.C_drewN ?_ _) | (with_reducible refine Kd.C_drew ?_))); done))
    (case aB => exact bA)
    (case aF => exact (fun k_ hk => Kd.fresh' (Kd.R_lt (rK HO250)) k_ hk))
    (case aO => exact (rK HO253))
    (case aS => exact (below_size bA))
    (case aL => have := LMc17.out; have hlx_ := (show (l0.drop (x5_1 : Int).toNat).length = (l0.length - x5_1.toNat) from List.length_drop); omega)
    intro v256 w29 ho hb hg hat
    rw [← Ny255.out] at ho
    have n0_ := Aside0.mk (Kd.R_after (ok := (fun _ => True)) (rK HO250) hg hat)
    have n1_ := Aside0.mk (hb)
    have n2_ := Aside0.mk (ho)
    clear HO250
    clear HB
    clear HO253
    have HO250 := n0_
    have HB := n1_
    have HO257 := n2_
    clear n0_ n1_ n2_
    clear ho hb hg hat
    refine hK.out _ _ trivial (fun hHeld => ?_)
    clear hK K
    refine nB ?_
    refine pa 12 4 (mb 13 8191) HT_ ?_
    refine eA HT_ ?_
    try go_wp2
    go_ret
    exact ⟨_, rA, rm HO257 (fun _ hk => trivial), bA⟩
   rw [if_neg c3] at H
   have c3b0 := decide_eq_false c3
   clear c3
   obtain ⟨y258, hy258⟩ : ∃ y_ : List Int, y_ = (([] : List Int)) := ⟨_, rfl⟩
   replace H : (if 0 ≤ x5_1 then (if x5_1 ≤ (l0.length : Int) then (if y258.length + (l0.take (x5_1 : Int).toNat).length < 17592186044416 then ((some (y258 ++ (l0.take (x5_1 : Int).toNat) : List Int)).bind fun y262 => ((some (([a1] : List Int) : List Int)).bind fun y265 => (if y262.length + y265.length < 17592186044416 then ((some (y262 ++ y265 : List Int)).bind fun y268 => (if y268.length + (l0.drop (x5_1 : Int).toNat).length < 17592186044416 then (some (y268 ++ (l0.drop (x5_1 : Int).toNat))) else (none))) else (none)))) else (none)) else (none)) else (none)) = some r := rH H hy258
   have Ny258 := Aside0.mk hy258
   clear hy258
   have c30 : 0 ≤ x5_1 := ifN H
   replace H := ifT H
   have c30b0 := eq_true c30
   have c30b1 := decide_eq_true c30
   clear c30
   have c31 : x5_1 ≤ (l0.length : Int) := ifN H
   replace H := ifT H
   have c31b0 := eq_true c31
   have c31b1 := decide_eq_true c31
   clear c31
   have c32 : y258.length + (l0.take (x5_1 : Int).toNat).length < 17592186044416 := ifN H
   replace H := ifT H
   have LMc32 := Aside0.mk c32
   clear c32
   obtain ⟨y262, hy262⟩ : ∃ y_ : List Int, y_ = (y258 ++ (l0.take (x5_1 : Int).toNat)) := ⟨_, rfl⟩
   replace H : ((some (([a1] : List Int) : List Int)).bind fun y265 => (if y262.length + y265.length < 17592186044416 then ((some (y262 ++ y265 : List Int)).bind fun y268 => (if y268.length + (l0.drop (x5_1 : Int).toNat).length < 17592186044416 then (some (y268 ++ (l0.drop (x5_1 : Int).toNat))) else (none))) else (none))) = some r := rH H hy262
   have Ny262 := Aside0.mk hy262
   clear hy262
   obtain ⟨y265, hy265⟩ : ∃ y_ : List Int, y_ = (([a1] : List Int)) := ⟨_, rfl⟩
   replace H : (if y262.length + y265.length < 17592186044416 then ((some (y262 ++ y265 : List Int)).bind fun y268 => (if y268.length + (l0.drop (x5_1 : Int).toNat).length < 17592186044416 then (some (y268 ++ (l0.drop (x5_1 : Int).toNat))) else (none))) else (none)) = some r := rH H hy265
   have Ny265 := Aside0.mk hy265
   clear hy265
   have c33 : y262.length + y265.length < 17592186044416 := ifN H
   replace H := ifT H
   have LMc33 := Aside0.mk c33
   clear c33
   obtain ⟨y268, hy268⟩ : ∃ y_ : List Int, y_ = (y262 ++ y265) := ⟨_, rfl⟩
   replace H : (if y268.length + (l0.drop (x5_1 : Int).toNat).length < 17592186044416 then (some (y268 ++ (l0.drop (x5_1 : Int).toNat))) else (none)) = some r := rH H hy268
   have Ny268 := Aside0.mk hy268
   clear hy268
   have c34b0 := eq_true (dA : 0 ≤ x5_1)
   have c35b0 := eq_true (dA : x5_1 ≤ (l0.length : Int))
   have c36 : y268.length + (l0.drop (x5_1 : Int).toNat).length < 17592186044416 := ifN H
   replace H := ifT H
   have LMc36 := Aside0.mk c36
   clear c36
   obtain ⟨y272, hy272⟩ : ∃ y_ : List Int, y_ = (y268 ++ (l0.drop (x5_1 : Int).toNat)) := ⟨_, rfl⟩
   replace H : (some y272) = some r := rH H hy272
   have Ny272 := Aside0.mk hy272
   clear hy272
   obtain rfl := Option.some.inj H
   try go_wp2
   have HBo := HB
   replace HB := db HB
   obtain ⟨i038, hi038, _, hsz38, _⟩ := info_parts info3
   obtain ⟨hcut38, hA38, hC38⟩ := print_take_of (P := Tryz.prog) (Value.int .i64) 0 28 3 .i64 Tryz.underlying28 hi038 hsz38 A0 c0 l0 x5_1 (dA) (dA) HC0.out
   have HR261 := Aside0.mk (Kd.C_of_reads (h1 := fun _ => rfl) (hA38 _ (Kd.reads_of_C HR0.out)))
   have HC261 := Aside0.mk hC38
   clear hA38 hC38 hi038 hsz38
   have HL261 := Aside0.mk (show (x5_1 : Int) ≤ (l0.length : Int) from (dA))
   obtain ⟨i039, hi039, _, hsz39, _⟩ := info_parts info3
   obtain ⟨A39, hcut39, hA39, hC39⟩ := print_drop_of (P := Tryz.prog) (Value.int .i64) 0 28 3 .i64 Tryz.underlying28 hi039 hsz39 A0 c0 l0 x5_1 (dA) (dA) HC0.out
   have HR271 := Aside0.mk (Kd.C_of_reads (h1 := fun _ => rfl) (hA39 _ (Kd.reads_of_C HR0.out)))
   have HC271 := Aside0.mk hC39
   clear hA39 hC39 hi039 hsz39
   refine sw (ds := []) 13 (mb 13 0) spec_l6Put.tab6 spec_l6Put.bits6 h0 (fun hHeld HT_ HW_ => ?_)
   generalize wr.drew = w37 at HB HR261 HR271 hHeld ⊢
   refine pa 1 36 (mb 13 2) HT_ ?_
   refine pa 2 37 (mb 13 6) HT_ ?_
   refine pa 3 38 (mb 13 14) HT_ ?_
   refine pa 5 40 (mb 13 46) HT_ ?_
   refine pa 8 43 (mb 13 302) HT_ ?_
   refine pa 9 44 (mb 13 814) HT_ ?_
   refine pa 10 45 (mb 13 1838) HT_ ?_
   refine join_ (σ := Value × Value × Value) 3 (mb 13 1919) (fun s_ => [(35, s_.1), (39, s_.2.1), (41, s_.2.2)]) (fun s_ w' => (Kd.R (Kd.int .i64) 3 w' w.heap.size (n1 s_.2.2) s_.2.1 y262) ∧ (Kd.R (Kd.int .i64) 3 w' w.heap.size (n1 s_.2.1) s_.2.2 y265) ∧ (Below w.heap.size w w')) ?_ ?_
   rotate_left
   ·
    intro hCont
    refine two_ (i := 0) (j := 6) (Ni := some 35) (Nj := some 41) (mb 13 1839) (mb 13 1902) rfl rfl rfl rfl (two_of HT_.out (by kernel_rfl)) (by decide) (by decide) (fun K hK => ?_) (fun K hK => ?_)
    ·
     skip
     refine Kd.R_lit_step (Kd.int .i64) _ 3 ?hg (N := 35) ?hd (xs := ([] : List Int)) (inner := []) (ok := fun _ => True) (okp := fun _ => True) ?hr ?hp (fun _ hk => hk) trivial (Below.refl _ _) (Nat.le_refl _) (by simp) ?_; (case hd => rfl); (case hg => rfl); (case hr => first | (go_simp; done) | (go_simp; rfl)); (case hp => exact (Reps.none _ _))
     intro v259 w40 ho41 hb hg_ hnew_
     clear hg_ hnew_
     (first | rw [← Ny258.out] at ho41 | (simp only [Int.reduceToNat] at ho41; rw [← Ny258.out] at ho41))
     have HO260 := rl w ho41
     replace HB := bs HB hb
     clear hb ho41
     refine hK.out _ _ trivial (fun hHeld => ?_)
     clear hK K
     refine nB ?_
     refine two_ (i := 4) (j := 6) (Ni := some 39) (Nj := some 41) (mb 13 1855) (mb 13 1903) rfl rfl rfl rfl (two_of HT_.out (by kernel_rfl)) (by decide) (by decide) (fun K hK => ?_) (fun K hK => ?_)
     ·
      skip
      refine Kd.R_append_rows_step (Kd.int .i64) (w0 := w) w.heap.size (by rfl) (.tmp 35) (.tmp 38) 28 3 (.int .i64 0) 8 rfl Tryz.underlying28 info3 rfl (by decide) (by omega) v259 y258 (l0.take (x5_1 : Int).toNat) _ _ _ (fun _ => True) (fun _ => False) rfl rfl ?aO ?aR (fun _ _ h => h) (fun _ h => h.elim) ?aF ?aB ?aS ?aL ?_
      (case aR => (have hr_ := HR261.out; rw [show (l0.take (x5_1 : Int).toNat).length = x5_1.toNat from (by rw [List.length_take]; have h_ : (x5_1 : Int) ≤ (l0.length : Int) := dA; omega)] at hr_; (repeat (first | exact (Kd.C_below hr_ HB.out) | (with_reducible refine Kd.C_alloc ?_ _) | (with_reducible refine Kd.C_drewN ?_ _) | (with_reducible refine Kd.C_drew ?_))); done))
      (case aB => exact bA)
      (case aF => exact (fun _ _ => trivial))
      (case aO => exact (rK HO260))
      (case aS => exact (below_size bA))
      (case aL => have := LMc32.out; have hlx_ := (show (l0.take (x5_1 : Int).toNat).length = x5_1.toNat from (by rw [List.length_take]; have h_ : (x5_1 : Int) ≤ (l0.length : Int) := dA; omega)); omega)
      intro v263 w42 ho hb hg hat
      rw [← Ny262.out] at ho
      have n0_ := Aside0.mk (hb)
      have n1_ := Aside0.mk (ho)
      clear HB
      clear HO260
      have HB := n0_
      have HO264 := n1_
      clear n0_ n1_
      clear ho hb hg hat
      refine hK.out _ _ trivial (fun hHeld => ?_)
      clear hK K
      refine nB ?_
      refine oa 6 41 (mb 13 1919) HT_ (fun K hK => ?_)
      refine Kd.R_lit_step (Kd.int .i64) _ 3 ?hg (N := 41) ?hd (xs := ([a1] : List Int)) (inner := [.int .i64 a1]) (ok := fun _ => True) (okp := fun _ => True) ?hr ?hp (fun _ hk => hk) trivial (Below.refl _ _) (Nat.le_refl _) (by simp) ?_; (case hd => rfl); (case hg => rfl); (case hr => first | (go_simp; done) | (go_simp; rfl)); (case hp => exact (Reps.one (show Kd.M (Kd.int .i64) _ _ _ a1 [.int .i64 a1] from rfl) (Reps.none _ _)))
      intro v266 w43 ho44 hb hg_ hnew_
      clear hg_ hnew_
      (first | rw [← Ny265.out] at ho44 | (simp only [Int.reduceToNat] at ho44; rw [← Ny265.out] at ho44))
      have HO267 := rl w (rn ho44 HO264)
      replace HO264 := re HO264 ho44 hb
      replace HB := bs HB hb
      clear hb ho44
      refine hK.out _ _ trivial (fun hHeld => ?_)
      clear hK K
      refine nB ?_
      exact mB (hCont (v259, v263, v266) _ ⟨(rm HO264 (fun _ hk => hk.2)), (rm HO267 (fun _ hk => hk.2)), bA⟩)
     ·
      skip
      refine Kd.R_lit_step (Kd.int .i64) _ 3 ?hg (N := 41) ?hd (xs := ([a1] : List Int)) (inner := [.int .i64 a1]) (ok := fun _ => True) (okp := fun _ => True) ?hr ?hp (fun _ hk => hk) trivial (Below.refl _ _) (Nat.le_refl _) (by simp) ?_; (case hd => rfl); (case hg => rfl); (case hr => first | (go_simp; done) | (go_simp; rfl)); (case hp => exact (Reps.one (show Kd.M (Kd.int .i64) _ _ _ a1 [.int .i64 a1] from rfl) (Reps.none _ _)))
      intro v266 w42 ho43 hb hg_ hnew_
      clear hg_ hnew_
      (first | rw [← Ny265.out] at ho43 | (simp only [Int.reduceToNat] at ho43; rw [← Ny265.out] at ho43))
      have HO267 := rl w (rn ho43 HO260)
      replace HO260 := re HO260 ho43 hb
      replace HB := bs HB hb
      clear hb ho43
      refine hK.out _ _ trivial (fun hHeld => ?_)
      clear hK K
      refine nB ?_
      refine oa 4 39 (mb 13 1919) HT_ (fun K hK => ?_)
      refine Kd.R_append_rows_step (Kd.int .i64) (w0 := w) w.heap.size (by rfl) (.tmp 35) (.tmp 38) 28 3 (.int .i64 0) 8 rfl Tryz.underlying28 info3 rfl (by decide) (by omega) v259 y258 (l0.take (x5_1 : Int).toNat) _ _ _ (n1 v266) (fun _ => False) rfl rfl ?aO ?aR (fun _ _ h => h) (fun _ h => h.elim) ?aF ?aB ?aS ?aL ?_
      (case aR => (have hr_ := HR261.out; rw [show (l0.take (x5_1 : Int).toNat).length = x5_1.toNat from (by rw [List.length_take]; have h_ : (x5_1 : Int) ≤ (l0.length : Int) := dA; omega)] at hr_; (repeat (first | exact (Kd.C_below hr_ HB.out) | (with_reducible refine Kd.C_alloc ?_ _) | (with_reducible refine Kd.C_drewN ?_ _) | (with_reducible refine Kd.C_drew ?_))); done))
      (case aB => exact bA)
      (case aF => exact (fun k_ hk => Kd.fresh' (Kd.R_lt (rK HO267)) k_ hk))
      (case aO => exact (rm HO260 (fun _ hk => hk.2)))
      (case aS => exact (below_size bA))
      (case aL => have := LMc32.out; have hlx_ := (show (l0.take (x5_1 : Int).toNat).length = x5_1.toNat from (by rw [List.length_take]; have h_ : (x5_1 : Int) ≤ (l0.length : Int) := dA; omega)); omega)
      intro v263 w44 ho hb hg hat
      rw [← Ny262.out] at ho
      have n0_ := Aside0.mk (Kd.R_after (ok := (fun _ => True)) (rK HO267) hg hat)
      have n1_ := Aside0.mk (hb)
      have n2_ := Aside0.mk (ho)
      clear HO267
      clear HB
      clear HO260
      have HO267 := n0_
      have HB := n1_
      have HO264 := n2_
      clear n0_ n1_ n2_
      clear ho hb hg hat
      refine hK.out _ _ trivial (fun hHeld => ?_)
      clear hK K
      refine nB ?_
      exact mB (hCont (v259, v263, v266) _ ⟨(rK HO264), (rm HO267 (fun _ hk => hk.2)), bA⟩)
    ·
     skip
     refine Kd.R_lit_step (Kd.int .i64) _ 3 ?hg (N := 41) ?hd (xs := ([a1] : List Int)) (inner := [.int .i64 a1]) (ok := fun _ => True) (okp := fun _ => True) ?hr ?hp (fun _ hk => hk) trivial (Below.refl _ _) (Nat.le_refl _) (by simp) ?_; (case hd => rfl); (case hg => rfl); (case hr => first | (go_simp; done) | (go_simp; rfl)); (case hp => exact (Reps.one (show Kd.M (Kd.int .i64) _ _ _ a1 [.int .i64 a1] from rfl) (Reps.none _ _)))
     intro v266 w40 ho41 hb hg_ hnew_
     clear hg_ hnew_
     (first | rw [← Ny265.out] at ho41 | (simp only [Int.reduceToNat] at ho41; rw [← Ny265.out] at ho41))
     have HO267 := rl w ho41
     replace HB := bs HB hb
     clear hb ho41
     refine hK.out _ _ trivial (fun hHeld => ?_)
     clear hK K
     refine nB ?_
     refine oa 0 35 (mb 13 1903) HT_ (fun K hK => ?_)
     refine Kd.R_lit_step (Kd.int .i64) _ 3 ?hg (N := 35) ?hd (xs := ([] : List Int)) (inner := []) (ok := fun _ => True) (okp := fun _ => True) ?hr ?hp (fun _ hk => hk) trivial (Below.refl _ _) (Nat.le_refl _) (by simp) ?_; (case hd => rfl); (case hg => rfl); (case hr => first | (go_simp; done) | (go_simp; rfl)); (case hp => exact (Reps.none _ _))
     intro v259 w42 ho43 hb hg_ hnew_
     clear hg_ hnew_
     (first | rw [← Ny258.out] at ho43 | (simp only [Int.reduceToNat] at ho43; rw [← Ny258.out] at ho43))
     have HO260 := rl w (rn ho43 HO267)
     replace HO267 := re HO267 ho43 hb
     replace HB := bs HB hb
     clear hb ho43
     refine hK.out _ _ trivial (fun hHeld => ?_)
     clear hK K
     refine nB ?_
     refine oa 4 39 (mb 13 1919) HT_ (fun K hK => ?_)
     refine Kd.R_append_rows_step (Kd.int .i64) (w0 := w) w.heap.size (by rfl) (.tmp 35) (.tmp 38) 28 3 (.int .i64 0) 8 rfl Tryz.underlying28 info3 rfl (by decide) (by omega) v259 y258 (l0.take (x5_1 : Int).toNat) _ _ _ (n1 v266) (fun _ => False) rfl rfl ?aO ?aR (fun _ _ h => h) (fun _ h => h.elim) ?aF ?aB ?aS ?aL ?_
     (case aR => (have hr_ := HR261.out; rw [show (l0.take (x5_1 : Int).toNat).length = x5_1.toNat from (by rw [List.length_take]; have h_ : (x5_1 : Int) ≤ (l0.length : Int) := dA; omega)] at hr_; (repeat (first | exact (Kd.C_below hr_ HB.out) | (with_reducible refine Kd.C_alloc ?_ _) | (with_reducible refine Kd.C_drewN ?_ _) | (with_reducible refine Kd.C_drew ?_))); done))
     (case aB => exact bA)
     (case aF => exact (fun k_ hk => Kd.fresh' (Kd.R_lt (rK HO267)) k_ hk))
     (case aO => exact (rm HO260 (fun _ hk => hk.2)))
     (case aS => exact (below_size bA))
     (case aL => have := LMc32.out; have hlx_ := (show (l0.take (x5_1 : Int).toNat).length = x5_1.toNat from (by rw [List.length_take]; have h_ : (x5_1 : Int) ≤ (l0.length : Int) := dA; omega)); omega)
     intro v263 w44 ho hb hg hat
     rw [← Ny262.out] at ho
     have n0_ := Aside0.mk (Kd.R_after (ok := (fun _ => True)) (rK HO267) hg hat)
     have n1_ := Aside0.mk (hb)
     have n2_ := Aside0.mk (ho)
     clear HO267
     clear HB
     clear HO260
     have HO267 := n0_
     have HB := n1_
     have HO264 := n2_
     clear n0_ n1_ n2_
     clear ho hb hg hat
     refine hK.out _ _ trivial (fun hHeld => ?_)
     clear hK K
     refine nB ?_
     exact mB (hCont (v259, v263, v266) _ ⟨(rK HO264), (rm HO267 (fun _ hk => hk.2)), bA⟩)
   rintro ⟨v259, v263, v266⟩ w45 ⟨h0_, h1_, h2_⟩
   have n0_ : Aside0 (Kd.R (Kd.int .i64) 3 w45 w.heap.size (n1 v266) v263 y262) := ⟨h0_⟩
   have n1_ : Aside0 (Kd.R (Kd.int .i64) 3 w45 w.heap.size (n1 v263) v266 y265) := ⟨h1_⟩
   have n2_ : Aside0 (Below w.heap.size w w45) := ⟨h2_⟩
   clear HB
   clear h0_ h1_ h2_
   have HO264 := n0_
   have HO267 := n1_
   have HB := n2_
   clear n0_ n1_ n2_
   have hHeld := trivial
   obtain ⟨Ao47, co47, eo47⟩ := Kd.R_slice HO267.out
   (first | subst eo47 | (injection eo47 with f1_ f2_ f3_; have f4_ := f1_.symm; have f5_ := f3_.symm; clear f1_ f2_ f3_; subst f4_; subst f5_))
   refine norm_ (a' := ?_) ?_ ?_
   rotate_left
   ·
    simp only [putAll, Act.put, List.setIfInBounds_toArray, List.set_cons_zero, List.set_cons_succ]
    rfl
   refine oa 7 42 (mb 13 2047) HT_ (fun K hK => ?_)
   refine Kd.R_append_rows_step (Kd.int .i64) (w0 := w) w.heap.size (by rfl) (.tmp 39) (.tmp 41) 28 3 (.int .i64 0) 8 rfl Tryz.underlying28 info3 rfl (by decide) (by omega) v263 y262 y265 _ _ _ (n1 (.slice Ao47 y265.length co47)) (fun _ => False) rfl rfl ?aO ?aR (fun _ _ h => h) (fun _ h => h.elim) ?aF ?aB ?aS ?aL ?_
   (case aR => repeat (first | exact (Kd.R_reads' HO267.out).2.2 | (with_reducible refine Kd.C_alloc ?_ _) | (with_reducible refine Kd.C_drewN ?_ _) | (with_reducible refine Kd.C_drew ?_)))
   (case aB => exact bA)
   (case aF => exact (fun k_ hk => Kd.fresh' (Kd.R_lt (rK HO267)) k_ hk))
   (case aO => exact (rK HO264))
   (case aS => exact (below_size bA))
   (case aL => have := LMc33.out; omega)
   intro v269 w46 ho hb hg hat
   rw [← Ny268.out] at ho
   have n0_ := Aside0.mk (Kd.R_after (ok := (fun _ => True)) (rm HO267 (fun _ hk => ⟨trivial, hk⟩)) hg hat)
   have n1_ := Aside0.mk (hb)
   have n2_ := Aside0.mk (ho)
   clear HO267
   clear HB
   clear HO264
   have HO267 := n0_
   have HB := n1_
   have HO270 := n2_
   clear n0_ n1_ n2_
   clear ho hb hg hat
   refine hK.out _ _ trivial (fun hHeld => ?_)
   clear hK K
   refine nB ?_
   refine oa 11 46 (mb 13 4095) HT_ (fun K hK => ?_)
   refine Kd.R_append_rows_step (Kd.int .i64) (w0 := w) w.heap.size (by rfl) (.tmp 42) (.tmp 45) 28 3 (.int .i64 0) 8 rfl Tryz.underlying28 info3 rfl (by decide) (by omega) v269 y268 (l0.drop (x5_1 : Int).toNat) _ _ _ (n1 (.slice Ao47 y265.length co47)) (fun _ => False) rfl rfl ?aO ?aR (fun _ _ h => h) (fun _ h => h.elim) ?aF ?aB ?aS ?aL ?_
   (case aR => (have hr_ := HR271.out; rw [show (l0.drop (x5_1 : Int).toNat).length = (l0.length - x5_1.toNat) from List.length_drop] at hr_; (repeat (first | exact (Kd.C_below hr_ HB.out) | (with_reducible refine Kd.C_alloc ?_ _) | (with_reducible refine Kd.C_drewN ?_ _) | (with_reducible refine Kd.C_drew ?_))); done))
   (case aB => exact bA)
   (case aF => exact (fun k_ hk => Kd.fresh' (Kd.R_lt (rK HO267)) k_ hk))
   (case aO => exact (rK HO270))
   (case aS => exact (below_size bA))
   (case aL => have := LMc36.out; have hlx_ := (show (l0.drop (x5_1 : Int).toNat).length = (l0.length - x5_1.toNat) from List.length_drop); omega)
   intro v273 w48 ho hb hg hat
   rw [← Ny272.out] at ho
   have n0_ := Aside0.mk (Kd.R_after (ok := (fun _ => True)) (rK HO267) hg hat)
   have n1_ := Aside0.mk (hb)
   have n2_ := Aside0.mk (ho)
   clear HO267
   clear HB
   clear HO270
   have HO267 := n0_
   have HB := n1_
   have HO274 := n2_
   clear n0_ n1_ n2_
   clear ho hb hg hat
   refine hK.out _ _ trivial (fun hHeld => ?_)
   clear hK K
   refine nB ?_
   refine pa 12 4 (mb 13 8191) HT_ ?_
   refine eA HT_ ?_
   try go_wp2
   go_ret
   exact ⟨_, rA, rm HO274 (fun _ hk => trivial), bA⟩

/-! ### spec_WaitingAt: function 8 -/
def spec_WaitingAt.l0 : Nat → List (S69) → List (S72) → List (S65) → Int → List Int → Int → Option (List Int)
 | 0, _, _, _, _, _, _ => none
 | k + 1, x0, x1, x2, x3, x9, x10 => if x10 < (x2.length : Int) then (if 0 ≤ x10 then (if ((rd_T65 x2 x10).f1) ≤ x3 then ((spec_NextGreen.f k x0 x1 ((rd_T65 x2 x10).f0) ((rd_T65 x2 x10).f1)).bind fun t281 => (if t281 > x3 then ((spec_l6Put.f k x9 ((rd_T65 x2 x10).f0)).bind fun t283 => (spec_WaitingAt.l0 k x0 x1 x2 x3 t283 (wrap64 (x10 + 1)))) else (spec_WaitingAt.l0 k x0 x1 x2 x3 x9 (wrap64 (x10 + 1))))) else (spec_WaitingAt.l0 k x0 x1 x2 x3 x9 (wrap64 (x10 + 1)))) else (none)) else (some x9)
def spec_WaitingAt.f (k : Nat) (l0 : List (S69)) (l1 : List (S72)) (l2 : List (S65)) (a3 : Int) : Option (List Int) := spec_WaitingAt.l0 k l0 l1 l2 a3 (([] : List Int)) 0
theorem spec_WaitingAt.mono_l : ∀ k, (∀ y0 y1 y2 y3 y4 y5, LeO (spec_WaitingAt.l0 k y0 y1 y2 y3 y4 y5) (spec_WaitingAt.l0 (k + 1) y0 y1 y2 y3 y4 y5))
 | 0 => fun _ _ _ _ _ _ r h => by simp [spec_WaitingAt.l0] at h
 | k + 1 => by
  have ih0 := spec_WaitingAt.mono_l k
  ·
   intro y0 y1 y2 y3 y4 y5
   unfold spec_WaitingAt.l0
   exact mz3 ih0 spec_NextGreen.mono spec_l6Put.mono
theorem spec_WaitingAt.mono : ∀ a0 a1 a2 a3 k, LeO (spec_WaitingAt.f k a0 a1 a2 a3) (spec_WaitingAt.f (k + 1) a0 a1 a2 a3) := by
 intro a0 a1 a2 a3 k
 have ih0 := spec_WaitingAt.mono_l k
 unfold spec_WaitingAt.f
 exact mz3 ih0 spec_NextGreen.mono spec_l6Put.mono
def spec_WaitingAt.T5 : Bool × List (List Nat × List Nat) := (true, [([], []), ([], []), ([0, 1], [0, 1]), ([2], [2]), ([3], [3]), ([], []), ([4, 5], [4, 5]), ([6], [6]), ([7], [7]), ([7], [7]), ([7], [7]), ([7], [7]), ([10, 11, 7], [7, 10, 11]), ([12, 7], [7, 12]), ([13, 7], [7, 13]), ([7], [7]), ([7], [7]), ([15, 16, 7], [7, 15, 16]), ([17, 7], [7, 17]), ([18, 7], [7, 18]), ([8, 9, 14, 19, 7, 7], [7, 8, 9, 14, 19]), ([7], [7]), ([20, 21, 7], [7, 20, 21]), ([7, 22], [7, 22])])
def spec_WaitingAt.B5 : List Nat := [0, 0, 3, 7, 15, 0, 63, 127, 255, 255, 255, 255, 3327, 7423, 15615, 255, 255, 98559, 229631, 491775, 1048575, 255, 4194303, 8388607]
theorem spec_WaitingAt.tab5 : rtab .any (opsOf Tryz.f8 5) = spec_WaitingAt.T5 := by kernel_rfl
theorem spec_WaitingAt.bits5 : waitsOk spec_WaitingAt.T5.2 spec_WaitingAt.B5 = true := by kernel_rfl
set_option maxHeartbeats 8000000 in
set_option maxRecDepth 100000 in
theorem spec_WaitingAt.calls (k : Nat) (A0 : Option Addr) (c0 : Nat) (l0 : List (S69)) (A1 : Option Addr) (c1 : Nat) (l1 : List (S72)) (A2 : Option Addr) (c2 : Nat) (l2 : List (S65)) (a3 : Int) (r : List Int) (w : World) (hr0 : Kd.C k69 w A0 l0.length l0) (hc0 : l0.length ≤ c0) (hr1 : Kd.C k72 w A1 l1.length l1) (hc1 : l1.length ≤ c1) (hr2 : Kd.C k65 w A2 l2.length l2) (hc2 : l2.length ≤ c2) (h : spec_WaitingAt.f k l0 l1 l2 a3 = some r) :
  Calls Tryz.prog 8 #[.slice A0 l0.length c0, .slice A1 l1.length c1, .slice A2 l2.length c2, .int .i64 a3] w fun e w' => ∃ v0_ : Value, e = .returned (v0_) ∧ Kd.R (Kd.int .i64) 3 w' w.heap.size (fun _ => True) v0_ r ∧ Below w.heap.size w w' := by
 have HR0 := Aside0.mk hr0
 have HC0 := Aside0.mk hc0
 clear hr0 hc0
 have HR1 := Aside0.mk hr1
 have HC1 := Aside0.mk hc1
 clear hr1 hc1
 have HR2 := Aside0.mk hr2
 have HC2 := Aside0.mk hc2
 clear hr2 hc2
 have HB := Aside0.mk (Below.refl w.heap.size w)
 have H : (spec_WaitingAt.l0 k l0 l1 l2 a3 (([] : List Int)) 0) = some r := h
 clear h
 obtain ⟨y275, hy275⟩ : ∃ y_ : List Int, y_ = (([] : List Int)) := ⟨_, rfl⟩
 replace H : (spec_WaitingAt.l0 k l0 l1 l2 a3 y275 0) = some r := rH H hy275
 have Ny275 := Aside0.mk hy275
 clear hy275
 have H' := Aside0.mk H
 clear H
 go_enter Tryz.func8, Tryz.ntmps8
 go_wp2_with (first | ((with_reducible refine gate_dst (N := 11) rfl ?_); refine Kd.R_lit (Kd.int .i64) _ 3 ?hg (N := 11) ?hd (xs := ([] : List Int)) (inner := []) (ok := fun _ => True) (okp := fun _ => True) ?hr ?hp (fun _ hk => hk) trivial (Below.refl _ _) (Nat.le_refl _) (by simp) ?_; (case hd => rfl); (case hg => rfl); (case hr => first | (go_simp; done) | (go_simp; rfl)); (case hp => exact (Reps.none _ _)); intro v276 w5 ho6 hb hg_ hnew_; clear hg_ hnew_; (first | rw [← Ny275.out] at ho6 | (simp only [Int.reduceToNat] at ho6; rw [← Ny275.out] at ho6)); have HO277 := rl w ho6; replace HB := bs HB hb; clear hb ho6))
 go_loopg [9, 10] k (fun kq v9 v10 w' => ∃ (x9_1 : List Int) (x10_1 : Int), v10 = .int .i64 x10_1 ∧ Aside0 (spec_WaitingAt.l0 kq l0 l1 l2 a3 x9_1 x10_1 = some r) ∧ Aside0 (kq ≤ k) ∧ Aside0 (Kd.R (Kd.int .i64) 3 w' w.heap.size (fun _ => True) v9 x9_1) ∧ Aside0 (Below w.heap.size w w'))
 case atStart => exact ⟨(y275), (0), rS, H', ⟨Nat.le_refl _⟩, ⟨rK HO277⟩, ⟨bA⟩⟩
 case round =>
  clear H'
  obtain ⟨x9_1, x10_1, rfl, HA, HK1, HO_9, HB⟩ := hrel
  cases gk with
  | zero => exact absurd HA.out (by simp [spec_WaitingAt.l0])
  | succ k1 =>
   have H := HA.out
   clear HA
   simp only [spec_WaitingAt.l0] at H
   by_cases c7 : x10_1 < (l2.length : Int)
   ·
    rw [if_pos c7] at H
    have c7b0 := decide_eq_true c7
    clear c7
    have c8 : 0 ≤ x10_1 := ifN H
    replace H := ifT H
    have c8b0 := decide_eq_true c8
    clear c8
    by_cases c9 : ((rd_T65 l2 x10_1).f1) ≤ a3
    ·
     rw [if_pos c9] at H
     have c9b0 := decide_eq_true c9
     clear c9
     obtain ⟨t281, A10, H⟩ := bindE H
     try dsimp only at H
     by_cases c11 : t281 > a3
     ·
      rw [if_pos c11] at H
      have c11b0 := decide_eq_true c11
      clear c11
      obtain ⟨t283, A12, H⟩ := bindE H
      try dsimp only at H
      have H' := Aside0.mk H
      clear H
      try go_wp2
      replace HO_9 := dr HO_9
      have HBo := HB
      replace HB := db HB
      obtain ⟨p278, q278⟩ : 0 ≤ (x10_1 : Int) ∧ x10_1 < (l2.length : Int) := ⟨dA, dA⟩
      obtain ⟨ad278, e278, hx278_0, hx278_1⟩ := at_T65 HR2.out x10_1 p278 q278
      have hw278_1 := hx278_1
      have hw278_0 := hx278_0
      cases e278
      replace hx278_0 := hC HB hx278_0
      replace hx278_1 := hC HB hx278_1
      obtain ⟨p278, q278⟩ := eT p278 q278
      obtain ⟨p279, q279⟩ : 0 ≤ (x10_1 : Int) ∧ x10_1 < (l2.length : Int) := ⟨dA, dA⟩
      obtain ⟨ad279, e279, hx279_0, hx279_1⟩ := at_T65 HR2.out x10_1 p279 q279
      have hw279_1 := hx279_1
      have hw279_0 := hx279_0
      obtain rfl : ad278 = ad279 := (by injection e279)
      replace hx279_0 := hC HB hx279_0
      replace hx279_1 := hC HB hx279_1
      obtain ⟨p279, q279⟩ := eT p279 q279
      obtain ⟨p280, q280⟩ : 0 ≤ (x10_1 : Int) ∧ x10_1 < (l2.length : Int) := ⟨dA, dA⟩
      obtain ⟨ad280, e280, hx280_0, hx280_1⟩ := at_T65 HR2.out x10_1 p280 q280
      have hw280_1 := hx280_1
      have hw280_0 := hx280_0
      obtain rfl : ad278 = ad280 := (by injection e280)
      replace hx280_0 := hC HB hx280_0
      replace hx280_1 := hC HB hx280_1
      obtain ⟨p280, q280⟩ := eT p280 q280
      refine sw (ds := []) 24 (mb 24 0) spec_WaitingAt.tab5 spec_WaitingAt.bits5 (h1c (hC HB hw278_0) (h1c (hC HB hw278_1) (h1c (hC HB hw279_0) (h1c (hC HB hw279_1) (h1c (hC HB hw280_0) (h1 (hC HB hw280_1))))))) (fun hHeld HT_ HW_ => ?_)
      generalize wr.drew = w13 at HO_9 HB hx278_0 hx278_1 hx279_0 hx279_1 hx280_0 hx280_1 hHeld ⊢
      refine pa 0 18 (mb 24 1) HT_ ?_
      refine pa 1 19 (mb 24 3) HT_ ?_
      refine pa 2 20 (mb 24 7) HT_ ?_
      refine pa 3 21 (mb 24 15) HT_ ?_
      refine pa 5 23 (mb 24 47) HT_ ?_
      refine ta6 4 22 (mb 24 63) HT_ HW_ hHeld ?_
      refine pa 6 24 (mb 24 127) HT_ ?_
      refine pa 7 25 (mb 24 255) HT_ ?_
      refine pa 8 26 (mb 24 511) HT_ ?_
      refine pa 9 27 (mb 24 1023) HT_ ?_
      refine pa 10 28 (mb 24 2047) HT_ ?_
      refine pa 11 29 (mb 24 4095) HT_ ?_
      refine pa 12 30 (mb 24 8191) HT_ ?_
      refine pa 13 31 (mb 24 16383) HT_ ?_
      refine pa 15 33 (mb 24 49151) HT_ ?_
      refine pa 16 34 (mb 24 114687) HT_ ?_
      refine pa 17 35 (mb 24 245759) HT_ ?_
      refine pa 18 36 (mb 24 507903) HT_ ?_
      refine pa 21 39 (mb 24 2605055) HT_ ?_
      refine ta6 14 32 (mb 24 2621439) HT_ HW_ hHeld ?_
      refine ta6 19 37 (mb 24 3145727) HT_ HW_ hHeld ?_
      refine oa 20 38 (mb 24 4194303) HT_ (fun K hK => ?_)
      refine gA Tryz.func35 #[.slice A0 l0.length c0, .slice A1 l1.length c1, .int .i64 ((rd_T65 l2 x10_1).f0), .int .i64 ((rd_T65 l2 x10_1).f1)] ?_
      with_reducible refine (spec_NextGreen.calls k1 _ _ l0 _ _ l1 ((rd_T65 l2 x10_1).f0) ((rd_T65 l2 x10_1).f1) t281 _ ?side1 ?side2 ?side3 ?side4 A10.out).mono ?_
      (case side1 => exact cB HR0)
      (case side2 => exact HC0.out)
      (case side3 => exact cB HR1)
      (case side4 => exact HC1.out)
      rintro e w14 ⟨rfl, hb⟩
      refine ⟨_, rfl, ?_⟩
      replace HO_9 := rb HO_9 hb
      replace HB := bs HB hb
      (try clear hb)
      (try clear hb2)
      (try clear hk)
      (try clear hi)
      refine hK.out _ _ ⟨(hC HB hw278_0), (hC HB hw278_1), (hC HB hw279_0), (hC HB hw279_1), (hC HB hw280_0), (hC HB hw280_1)⟩ (fun hHeld => ?_)
      clear hK K
      refine nB ?_
      refine pa 22 40 (mb 24 8388607) HT_ ?_
      refine pa 23 41 (mb 24 16777215) HT_ ?_
      refine eA HT_ ?_
      obtain ⟨p282, q282⟩ : 0 ≤ (x10_1 : Int) ∧ x10_1 < (l2.length : Int) := ⟨dA, dA⟩
      obtain ⟨ad282, e282, hx282_0, hx282_1⟩ := at_T65 (Kd.C_below HR2.out HB.out) x10_1 p282 q282
      obtain rfl : ad278 = ad282 := (by injection e282)
      obtain ⟨p282, q282⟩ := eT p282 q282
      obtain ⟨Ao15, co15, eo15⟩ := Kd.R_slice HO_9.out
      subst eo15
      try go_wp2_with (first | ((with_reducible refine gate_callee (f := 36) rfl ?_); refine gL (some 48) Tryz.func36 #[.slice Ao15 x9_1.length co15, .int .i64 ((rd_T65 l2 x10_1).f0)] ?_; (with_reducible refine (spec_l6Put.calls k1 _ _ x9_1 ((rd_T65 l2 x10_1).f0) t283 _ ?_ ?_ A12.out).mono ?_); exact cO ⟨(Kd.R_reads' HO_9.out).2.2⟩; exact (Kd.R_reads' HO_9.out).2.1; rintro e w16 ⟨v284, rfl, ho0, hb⟩; refine ⟨_, rfl, ?_⟩; have HO285 := rl w (rn ho0 HO_9); replace HO_9 := re HO_9 ho0 hb; replace HB := bs HB hb; (try clear hb); (try clear ho0)))
      go_roundg k1
      case measure => have := HK1.out; omega
      case rel => exact ⟨(t283), (wrap64 (x10_1 + 1)), rS, H', ⟨by have := HK1.out; omega⟩, ⟨rm HO285 (fun _ hk => trivial)⟩, ⟨bA⟩⟩
     rw [if_neg c11] at H
     have c11b0 := decide_eq_false c11
     clear c11
     have H' := Aside0.mk H
     clear H
     try go_wp2
     replace HO_9 := dr HO_9
     have HBo := HB
     replace HB := db HB
     obtain ⟨p278, q278⟩ : 0 ≤ (x10_1 : Int) ∧ x10_1 < (l2.length : Int) := ⟨dA, dA⟩
     obtain ⟨ad278, e278, hx278_0, hx278_1⟩ := at_T65 HR2.out x10_1 p278 q278
     have hw278_1 := hx278_1
     have hw278_0 := hx278_0
     cases e278
     replace hx278_0 := hC HB hx278_0
     replace hx278_1 := hC HB hx278_1
     obtain ⟨p278, q278⟩ := eT p278 q278
     obtain ⟨p279, q279⟩ : 0 ≤ (x10_1 : Int) ∧ x10_1 < (l2.length : Int) := ⟨dA, dA⟩
     obtain ⟨ad279, e279, hx279_0, hx279_1⟩ := at_T65 HR2.out x10_1 p279 q279
     have hw279_1 := hx279_1
     have hw279_0 := hx279_0
     obtain rfl : ad278 = ad279 := (by injection e279)
     replace hx279_0 := hC HB hx279_0
     replace hx279_1 := hC HB hx279_1
     obtain ⟨p279, q279⟩ := eT p279 q279
     obtain ⟨p280, q280⟩ : 0 ≤ (x10_1 : Int) ∧ x10_1 < (l2.length : Int) := ⟨dA, dA⟩
     obtain ⟨ad280, e280, hx280_0, hx280_1⟩ := at_T65 HR2.out x10_1 p280 q280
     have hw280_1 := hx280_1
     have hw280_0 := hx280_0
     obtain rfl : ad278 = ad280 := (by injection e280)
     replace hx280_0 := hC HB hx280_0
     replace hx280_1 := hC HB hx280_1
     obtain ⟨p280, q280⟩ := eT p280 q280
     refine sw (ds := []) 24 (mb 24 0) spec_WaitingAt.tab5 spec_WaitingAt.bits5 (h1c (hC HB hw278_0) (h1c (hC HB hw278_1) (h1c (hC HB hw279_0) (h1c (hC HB hw279_1) (h1c (hC HB hw280_0) (h1 (hC HB hw280_1))))))) (fun hHeld HT_ HW_ => ?_)
     generalize wr.drew = w17 at HO_9 HB hx278_0 hx278_1 hx279_0 hx279_1 hx280_0 hx280_1 hHeld ⊢
     refine pa 0 18 (mb 24 1) HT_ ?_
     refine pa 1 19 (mb 24 3) HT_ ?_
     refine pa 2 20 (mb 24 7) HT_ ?_
     refine pa 3 21 (mb 24 15) HT_ ?_
     refine pa 5 23 (mb 24 47) HT_ ?_
     refine ta6 4 22 (mb 24 63) HT_ HW_ hHeld ?_
     refine pa 6 24 (mb 24 127) HT_ ?_
     refine pa 7 25 (mb 24 255) HT_ ?_
     refine pa 8 26 (mb 24 511) HT_ ?_
     refine pa 9 27 (mb 24 1023) HT_ ?_
     refine pa 10 28 (mb 24 2047) HT_ ?_
     refine pa 11 29 (mb 24 4095) HT_ ?_
     refine pa 12 30 (mb 24 8191) HT_ ?_
     refine pa 13 31 (mb 24 16383) HT_ ?_
     refine pa 15 33 (mb 24 49151) HT_ ?_
     refine pa 16 34 (mb 24 114687) HT_ ?_
     refine pa 17 35 (mb 24 245759) HT_ ?_
     refine pa 18 36 (mb 24 507903) HT_ ?_
     refine pa 21 39 (mb 24 2605055) HT_ ?_
     refine ta6 14 32 (mb 24 2621439) HT_ HW_ hHeld ?_
     refine ta6 19 37 (mb 24 3145727) HT_ HW_ hHeld ?_
     refine oa 20 38 (mb 24 4194303) HT_ (fun K hK => ?_)
     refine gA Tryz.func35 #[.slice A0 l0.length c0, .slice A1 l1.length c1, .int .i64 ((rd_T65 l2 x10_1).f0), .int .i64 ((rd_T65 l2 x10_1).f1)] ?_
     with_reducible refine (spec_NextGreen.calls k1 _ _ l0 _ _ l1 ((rd_T65 l2 x10_1).f0) ((rd_T65 l2 x10_1).f1) t281 _ ?side1 ?side2 ?side3 ?side4 A10.out).mono ?_
     (case side1 => exact cB HR0)
     (case side2 => exact HC0.out)
     (case side3 => exact cB HR1)
     (case side4 => exact HC1.out)
     rintro e w18 ⟨rfl, hb⟩
     refine ⟨_, rfl, ?_⟩
     replace HO_9 := rb HO_9 hb
     replace HB := bs HB hb
     (try clear hb)
     (try clear hb2)
     (try clear hk)
     (try clear hi)
     refine hK.out _ _ ⟨(hC HB hw278_0), (hC HB hw278_1), (hC HB hw279_0), (hC HB hw279_1), (hC HB hw280_0), (hC HB hw280_1)⟩ (fun hHeld => ?_)
     clear hK K
     refine nB ?_
     refine pa 22 40 (mb 24 8388607) HT_ ?_
     refine pa 23 41 (mb 24 16777215) HT_ ?_
     refine eA HT_ ?_
     try go_wp2
     go_roundg k1
     case measure => have := HK1.out; omega
     case rel => exact ⟨(x9_1), (wrap64 (x10_1 + 1)), rS, H', ⟨by have := HK1.out; omega⟩, ⟨rK HO_9⟩, ⟨bA⟩⟩
    rw [if_neg c9] at H
    have c9b0 := decide_eq_false c9
    clear c9
    have H' := Aside0.mk H
    clear H
    try go_wp2
    replace HO_9 := dr HO_9
    have HBo := HB
    replace HB := db HB
    obtain ⟨p278, q278⟩ : 0 ≤ (x10_1 : Int) ∧ x10_1 < (l2.length : Int) := ⟨dA, dA⟩
    obtain ⟨ad278, e278, hx278_0, hx278_1⟩ := at_T65 HR2.out x10_1 p278 q278
    have hw278_1 := hx278_1
    have hw278_0 := hx278_0
    cases e278
    replace hx278_0 := hC HB hx278_0
    replace hx278_1 := hC HB hx278_1
    obtain ⟨p278, q278⟩ := eT p278 q278
    refine sw (ds := []) 24 (mb 24 0) spec_WaitingAt.tab5 spec_WaitingAt.bits5 (h1c (hC HB hw278_0) (h1 (hC HB hw278_1))) (fun hHeld HT_ HW_ => ?_)
    generalize wr.drew = w19 at HO_9 HB hx278_0 hx278_1 hHeld ⊢
    refine pa 0 18 (mb 24 1) HT_ ?_
    refine pa 1 19 (mb 24 3) HT_ ?_
    refine pa 2 20 (mb 24 7) HT_ ?_
    refine pa 3 21 (mb 24 15) HT_ ?_
    refine pa 5 23 (mb 24 47) HT_ ?_
    refine ta2 4 22 (mb 24 63) HT_ HW_ hHeld ?_
    refine pa 6 24 (mb 24 127) HT_ ?_
    refine pa 7 25 (mb 24 255) HT_ ?_
    refine pu 8 26 (mb 24 511) HT_ ?_
    refine pu 9 27 (mb 24 1023) HT_ ?_
    refine pu 10 28 (mb 24 2047) HT_ ?_
    refine pu 11 29 (mb 24 4095) HT_ ?_
    refine pu 12 30 (mb 24 8191) HT_ ?_
    refine pu 13 31 (mb 24 16383) HT_ ?_
    refine pu 14 32 (mb 24 32767) HT_ ?_
    refine pu 15 33 (mb 24 65535) HT_ ?_
    refine pu 16 34 (mb 24 131071) HT_ ?_
    refine pu 17 35 (mb 24 262143) HT_ ?_
    refine pu 18 36 (mb 24 524287) HT_ ?_
    refine pu 19 37 (mb 24 1048575) HT_ ?_
    refine pu 20 38 (mb 24 2097151) HT_ ?_
    refine pu 21 39 (mb 24 4194303) HT_ ?_
    refine pu 22 40 (mb 24 8388607) HT_ ?_
    refine pa 23 41 (mb 24 16777215) HT_ ?_
    refine eA HT_ ?_
    try go_wp2
    go_roundg k1
    case measure => have := HK1.out; omega
    case rel => exact ⟨(x9_1), (wrap64 (x10_1 + 1)), rS, H', ⟨by have := HK1.out; omega⟩, ⟨rK HO_9⟩, ⟨bA⟩⟩
   rw [if_neg c7] at H
   have c7b0 := decide_eq_false c7
   clear c7
   obtain rfl := Option.some.inj H
   go_wp2
   go_ret
   exact ⟨_, rA, rK HO_9, bA⟩

/-! ### laws_toPath: function 37 -/
def laws_toPath.f (a0_0 : Int) (a0_1 : Int) (a0_2 : Int) (a0_3 : Int) : Option (Int × Int × Int × Int) := some (a0_0, a0_1, a0_2, a0_3)
set_option maxHeartbeats 8000000 in
set_option maxRecDepth 100000 in
theorem laws_toPath.calls (a0_0 : Int) (a0_1 : Int) (a0_2 : Int) (a0_3 : Int) (r1 : Int) (r2 : Int) (r3 : Int) (r4 : Int) (w : World) (h : laws_toPath.f a0_0 a0_1 a0_2 a0_3 = some (r1, r2, r3, r4)) :
  Calls Tryz.prog 37 #[.agg #[.int .i64 a0_0, .int .i64 a0_1, .int .i64 a0_2, .int .i64 a0_3]] w fun e w' => e = .returned (.agg #[.int .i64 r1, .int .i64 r2, .int .i64 r3, .int .i64 r4]) ∧ Below w.heap.size w w' := by
 have hu71 := Tryz.underlying71
 have hu69 := Tryz.underlying69
 have HB := Aside0.mk (Below.refl w.heap.size w)
 have H : (some (a0_0, a0_1, a0_2, a0_3)) = some (r1, r2, r3, r4) := h
 clear h
 simp only [Option.some.injEq, Prod.mk.injEq] at H
 obtain ⟨rfl, rfl, rfl, rfl⟩ := H
 go_enter Tryz.func37, Tryz.ntmps37
 go_wp2_with (first | ((with_reducible refine gate_dst (N := 1) rfl ?_); refine bE (N := 1) (cs := #[.int .i64 a0_0, .int .i64 a0_1, .int .i64 a0_2, .int .i64 a0_3]) (t := 71) ?_; intro gb286 hg w2 hbox hb; have BK286 := Aside0.mk (hbox); have GW286 := gw w hg; have GE286 := gw w hg; replace HB := bs HB hb; clear hb hbox hg) | ((with_reducible refine gate_dst (N := 2) rfl ?_); refine bE (N := 2) (cs := #[.int .i64 0, .int .i64 0, .int .i64 0, .int .i64 0]) (t := 69) ?_; intro gb287 hg w3 hbox hb; have BK287 := Aside0.mk (hbox); have GW287 := gw w hg; have GE287 := gw w hg; replace HB := bs HB hb; have NB286_287 := nl BK286 hg; have NB287_286 := nr BK286 hg; replace BK286 := kb BK286 hb; clear hb hbox hg) | ((with_reducible refine gate_dst (N := 3) rfl ?_); refine bE (N := 3) (cs := #[.int .i64 0, .int .i64 0, .int .i64 0, .int .i64 0]) (t := 69) ?_; intro gb288 hg w4 hbox hb; have BK288 := Aside0.mk (hbox); have GW288 := gw w hg; have GE288 := gw w hg; replace HB := bs HB hb; have NB286_288 := nl BK286 hg; have NB288_286 := nr BK286 hg; replace BK286 := kb BK286 hb; have NB287_288 := nl BK287 hg; have NB288_287 := nr BK287 hg; replace BK287 := kb BK287 hb; clear hb hbox hg; have hnb5 := NB286_287.out; have hnc5 := NB287_286.out; have hnb6 := NB286_288.out; have hnc6 := NB288_286.out; obtain ⟨_, _, _, _, _, _, _, _⟩ := blkc4 BK286; have hnb8 := NB288_287.out; have hnc8 := NB287_288.out; obtain ⟨_, _, _, _, _, _, _, _⟩ := blkc4 BK288; obtain ⟨_, _, _, _, _, _, _, _⟩ := blkc4 BK287))
 refine bodyPost_ret (results_cell_row rfl _ _ gb287 69 #[.int .i64 a0_0, .int .i64 a0_1, .int .i64 a0_2, .int .i64 a0_3] (0, 0) _ rfl (kP BK287 NB287_288) Tryz.underlying69 rfl (by kernel_rfl)) rfl ?_
 exact ⟨rA, bG⟩

/-! ### laws_toPathS: function 9 -/
def laws_toPathS.l0 : Nat → List (S71) → List (S69) → Int → Option ((List (S69)))
 | 0, _, _, _ => none
 | k + 1, x0, x3, x4 => if x4 < (x0.length : Int) then (if 0 ≤ x4 then ((laws_toPath.f ((rd_T71 x0 x4).f0) ((rd_T71 x0 x4).f1) ((rd_T71 x0 x4).f2) ((rd_T71 x0 x4).f3)).bind fun bt293 => (if x4 < (x3.length : Int) then (laws_toPathS.l0 k x0 (x3.set (x4 : Int).toNat (⟨bt293.1, bt293.2.1, bt293.2.2.1, bt293.2.2.2⟩ : S69)) (wrap64 (x4 + 1))) else (none))) else (none)) else (some x3)
def laws_toPathS.f (k : Nat) (l0 : List (S71)) : Option ((List (S69))) := if 0 ≤ (l0.length : Int) then (if ((l0.length : Int) : Int).toNat ≤ 8796093022208 then (laws_toPathS.l0 k l0 (List.replicate ((l0.length : Int) : Int).toNat z69) 0) else (none)) else (none)
theorem laws_toPathS.mono_l : ∀ k, (∀ y0 y1 y2, LeO (laws_toPathS.l0 k y0 y1 y2) (laws_toPathS.l0 (k + 1) y0 y1 y2))
 | 0 => fun _ _ _ r h => by simp [laws_toPathS.l0] at h
 | k + 1 => by
  have ih0 := laws_toPathS.mono_l k
  ·
   intro y0 y1 y2
   unfold laws_toPathS.l0
   exact mz1 ih0
theorem laws_toPathS.mono : ∀ a0 k, LeO (laws_toPathS.f k a0) (laws_toPathS.f (k + 1) a0) := by
 intro a0 k
 have ih0 := laws_toPathS.mono_l k
 unfold laws_toPathS.f
 exact mz1 ih0
set_option maxHeartbeats 8000000 in
set_option maxRecDepth 100000 in
theorem laws_toPathS.calls (k : Nat) (A0 : Option Addr) (c0 : Nat) (l0 : List (S71)) (r : List (S69)) (w : World) (hr0 : Kd.C k71 w A0 l0.length l0) (hc0 : l0.length ≤ c0) (h : laws_toPathS.f k l0 = some r) :
  Calls Tryz.prog 9 #[.slice A0 l0.length c0] w fun e w' => ∃ v0_ : Value, e = .returned (v0_) ∧ Kd.R k69 69 w' w.heap.size (fun _ => True) v0_ r ∧ Below w.heap.size w w' := by
 have hu71 := Tryz.underlying71
 have hu69 := Tryz.underlying69
 have HR0 := Aside0.mk hr0
 have HC0 := Aside0.mk hc0
 clear hr0 hc0
 have HB := Aside0.mk (Below.refl w.heap.size w)
 have H : (if 0 ≤ (l0.length : Int) then (if ((l0.length : Int) : Int).toNat ≤ 8796093022208 then (laws_toPathS.l0 k l0 (List.replicate ((l0.length : Int) : Int).toNat z69) 0) else (none)) else (none)) = some r := h
 clear h
 have c2 : 0 ≤ (l0.length : Int) := ifN H
 replace H := ifT H
 have c2b0 := eq_true c2
 have c2b1 := decide_eq_true c2
 clear c2
 have c3 : ((l0.length : Int) : Int).toNat ≤ 8796093022208 := ifN H
 replace H := ifT H
 have c3b0 := eq_true c3
 have c3b1 := decide_eq_true c3
 clear c3
 obtain ⟨y289, hy289⟩ : ∃ y_ : List (S69), y_ = (List.replicate ((l0.length : Int) : Int).toNat z69) := ⟨_, rfl⟩
 replace H : (laws_toPathS.l0 k l0 y289 0) = some r := rH H hy289
 have Ny289 := Aside0.mk hy289
 clear hy289
 have H' := Aside0.mk H
 clear H
 go_enter Tryz.func9, Tryz.ntmps9
 go_wp2_with (first | ((with_reducible refine gate_dst (N := 7) rfl ?_); refine Kd.R_make k69 _ 69 rfl (N := 7) rfl 30 _ _ rfl (l0.length : Int) rfl rfl Tryz.underlying30 (.agg #[(.int .i64 0), (.int .i64 0), (.int .i64 0), (.int .i64 0)]) 32 info69 rfl (by decide) (by omega) z69 (ok := fun _ => True) (okp := fun _ => True) (k69_mkM _ _ _ z69 ) (fun _ hk => hk) trivial (dA) (Nat.le_trans (Nat.mul_le_mul_right _ (dA : (l0.length : Int).toNat ≤ 8796093022208)) (by omega)) (Below.refl _ _) (Nat.le_refl _) ?_; intro v290 w4 ho5 hb hg_ hnew_; clear hg_ hnew_; (first | rw [← Ny289.out] at ho5 | (simp only [Int.reduceToNat] at ho5; rw [← Ny289.out] at ho5)); have HO291 := rl w ho5; replace HB := bs HB hb; clear hb ho5))
 go_loopg [4] k (fun kq v4 w' => ∃ (x3_1 : List (S69)) (x4_1 : Int), v4 = .int .i64 x4_1 ∧ Aside0 (laws_toPathS.l0 kq l0 x3_1 x4_1 = some r) ∧ Aside0 (kq ≤ k) ∧ Aside0 (Kd.R k69 69 w' w.heap.size (fun _ => True) v290 x3_1) ∧ Aside0 (Below w.heap.size w w'))
 case atStart => exact ⟨(y289), (0), rS, H', ⟨Nat.le_refl _⟩, ⟨rK HO291⟩, ⟨bA⟩⟩
 case round =>
  clear H'
  obtain ⟨x3_1, x4_1, rfl, HA, HK1, HO_3, HB⟩ := hrel
  cases gk with
  | zero => exact absurd HA.out (by simp [laws_toPathS.l0])
  | succ k1 =>
   have H := HA.out
   clear HA
   simp only [laws_toPathS.l0] at H
   by_cases c6 : x4_1 < (l0.length : Int)
   ·
    rw [if_pos c6] at H
    have c6b0 := decide_eq_true c6
    clear c6
    have c7 : 0 ≤ x4_1 := ifN H
    replace H := ifT H
    have c7b0 := decide_eq_true c7
    clear c7
    obtain ⟨⟨t293, t294, t295, t296⟩, A8, H⟩ := bindE H
    try dsimp only at H
    have c9 : x4_1 < (x3_1.length : Int) := ifN H
    replace H := ifT H
    have c9b0 := decide_eq_true c9
    clear c9
    obtain ⟨y297, hy297⟩ : ∃ y_ : List (S69), y_ = (x3_1.set (x4_1 : Int).toNat (⟨t293, t294, t295, t296⟩ : S69)) := ⟨_, rfl⟩
    replace H : (laws_toPathS.l0 k1 l0 y297 (wrap64 (x4_1 + 1))) = some r := rH H hy297
    have Ny297 := Aside0.mk hy297
    clear hy297
    have H' := Aside0.mk H
    clear H
    obtain ⟨p292, q292⟩ : 0 ≤ (x4_1 : Int) ∧ x4_1 < (l0.length : Int) := ⟨dA, dA⟩
    obtain ⟨ad292, e292, hx292_0, hx292_1, hx292_2, hx292_3⟩ := at_T71 (Kd.C_below HR0.out HB.out) x4_1 p292 q292
    cases e292
    obtain ⟨p292, q292⟩ := eT p292 q292
    go_wp2_with (first | ((with_reducible refine gate_callee (f := 37) rfl ?_); refine gL (some 20) Tryz.func37 #[.agg #[.int .i64 ((rd_T71 l0 x4_1).f0), .int .i64 ((rd_T71 l0 x4_1).f1), .int .i64 ((rd_T71 l0 x4_1).f2), .int .i64 ((rd_T71 l0 x4_1).f3)]] ?_; (with_reducible refine (laws_toPath.calls ((rd_T71 l0 x4_1).f0) ((rd_T71 l0 x4_1).f1) ((rd_T71 l0 x4_1).f2) ((rd_T71 l0 x4_1).f3) t293 t294 t295 t296 _ A8.out).mono ?_); rintro e w11 ⟨rfl, hb⟩; refine ⟨_, rfl, ?_⟩; replace HO_3 := rb HO_3 hb; replace HB := bs HB hb; (try clear hb); have p10 : 0 ≤ (x4_1 : Int) := dA; have q10 : (x4_1 : Int) < ((x3_1.length : Int) : Int) := dA; obtain ⟨go10, co10, eo10, gb10, gl10, cl10, HG10⟩ := Kd.R_form HO_3.out (by omega); (first | cases eo10 | (injection eo10 with ea_ en_ ec_; (first | subst ea_ | (injection ea_ with ea_; subst ea_)); subst ec_; clear en_)); have GB10 := Aside0.mk gb10; have GG10 := Aside0.mk HG10; clear gb10 gl10 HG10; obtain ⟨ce10, hcl10, hM10, hcc10, hfr10⟩ := Kd.R_elem HO_3.out z69 (x4_1 : Int) p10 q10; obtain rfl := k69_openM hM10; have hx10_0 : w11.cell? ⟨go10, (x4_1 : Int).toNat * 4, none⟩ = some (.int .i64 ((rd_T69 x3_1 x4_1).f0)) := hcc10 0 _ rfl; have hx10_1 : w11.cell? ⟨go10, (x4_1 : Int).toNat * 4 + 1, none⟩ = some (.int .i64 ((rd_T69 x3_1 x4_1).f1)) := hcc10 1 _ rfl; have hx10_2 : w11.cell? ⟨go10, (x4_1 : Int).toNat * 4 + 2, none⟩ = some (.int .i64 ((rd_T69 x3_1 x4_1).f2)) := hcc10 2 _ rfl; have hx10_3 : w11.cell? ⟨go10, (x4_1 : Int).toNat * 4 + 3, none⟩ = some (.int .i64 ((rd_T69 x3_1 x4_1).f3)) := hcc10 3 _ rfl; have hf10_0 : w11.frozen? ⟨go10, (x4_1 : Int).toNat * 4, none⟩ = false := hfr10 0; have hf10_1 : w11.frozen? ⟨go10, (x4_1 : Int).toNat * 4 + 1, none⟩ = false := hfr10 1; have hf10_2 : w11.frozen? ⟨go10, (x4_1 : Int).toNat * 4 + 2, none⟩ = false := hfr10 2; have hf10_3 : w11.frozen? ⟨go10, (x4_1 : Int).toNat * 4 + 3, none⟩ = false := hfr10 3; clear hcl10 hcc10 hfr10 hM10; replace p10 := eq_true p10; replace q10 := eq_true q10; have HX12 := Aside0.mk (show Kd.R k69 69 w11 w.heap.size (fun _ => True) (.slice (some ⟨go10, 0, none⟩) x3_1.length co10) x3_1 from (rK HO_3)); obtain ⟨ce12, hcl12, hM12, hcc12, hfr12⟩ := Kd.R_elem HX12.out z69 (x4_1 : Int) (dA) (by have h_ : (x4_1 : Int) < ((x3_1.length : Int) : Int) := dA; first | exact h_ | (have e_ := (Kd.R_reads' HO_3.out).1; omega) | simpa using h_); obtain rfl := k69_openM hM12; have HP12 := Kd.R_seg HX12.out (x4_1 : Int) (dA) (by have h_ : (x4_1 : Int) < ((x3_1.length : Int) : Int) := dA; first | exact h_ | (have e_ := (Kd.R_reads' HO_3.out).1; omega) | simpa using h_) (seg := [.int .i64 t293, .int .i64 t294, .int .i64 t295, .int .i64 t296]) (j := 0) hcl12 hcc12 (show 4 ≤ 4 from by decide) (x' := (⟨t293, t294, t295, t296⟩ : S69)) (k69_mkM _ _ _ (⟨t293, t294, t295, t296⟩ : S69) ) (fun _ hk => hk); have hx12_0 := hcc12 0 _ rfl; (try simp only [show (k69).sz = 4 from rfl, Nat.mul_one, Nat.add_zero] at hx12_0); have hf12_0 := hfr12 0; (try simp only [show (k69).sz = 4 from rfl, Nat.mul_one, Nat.add_zero] at hf12_0); have hx12_1 := hcc12 1 _ rfl; (try simp only [show (k69).sz = 4 from rfl, Nat.mul_one, Nat.add_zero] at hx12_1); have hf12_1 := hfr12 1; (try simp only [show (k69).sz = 4 from rfl, Nat.mul_one, Nat.add_zero] at hf12_1); have hx12_2 := hcc12 2 _ rfl; (try simp only [show (k69).sz = 4 from rfl, Nat.mul_one, Nat.add_zero] at hx12_2); have hf12_2 := hfr12 2; (try simp only [show (k69).sz = 4 from rfl, Nat.mul_one, Nat.add_zero] at hf12_2); have hx12_3 := hcc12 3 _ rfl; (try simp only [show (k69).sz = 4 from rfl, Nat.mul_one, Nat.add_zero] at hx12_3); have hf12_3 := hfr12 3; (try simp only [show (k69).sz = 4 from rfl, Nat.mul_one, Nat.add_zero] at hf12_3); clear hcl12 hcc12 hfr12 hM12) | ((with_reducible refine gate_store (t := 69) (p := 21) rfl ?_); refine store_event (t := 69) (p := 21) (v := ?vo_w13) (w1 := ((((w11.setCell ⟨go10, (x4_1 : Int).toNat * 4, none⟩ (.int .i64 t293)).setCell ⟨go10, (x4_1 : Int).toNat * 4 + 1, none⟩ (.int .i64 t294)).setCell ⟨go10, (x4_1 : Int).toNat * 4 + 2, none⟩ (.int .i64 t295)).setCell ⟨go10, (x4_1 : Int).toNat * 4 + 3, none⟩ (.int .i64 t296))) ?hg ?ho ?hn ?hr ?_; (case ho => rfl); (case hg => rfl); (case hn => rfl); (case hr => first | (go_simp; done) | (go_simp; rfl)); intro w13 hw; have hg : w11.grownBy w13 (some go10) := (by rw [hw]; exact HP12.2); have hp_ : Kd.R k69 69 w13 w.heap.size (fun _ => True) (.slice (some ⟨go10, 0, none⟩) x3_1.length co10) y297 := (by rw [hw, Ny297.out]; exact HP12.1); clear HP12; have n0_ := Aside0.mk (hp_); have n1_ := Aside0.mk ((by rw [hw]; exact below_set (below_set (below_set (below_set (HB.out) GB10.out) GB10.out) GB10.out) GB10.out : Below w.heap.size w w13)); clear HO_3; clear HB; have HO_3 := n0_; have HB := n1_; clear n0_ n1_; clear hg hw hp_))
    go_roundg k1
    case measure => have := HK1.out; omega
    case rel => exact ⟨(y297), (wrap64 (x4_1 + 1)), rS, H', ⟨by have := HK1.out; omega⟩, ⟨rK HO_3⟩, ⟨bA⟩⟩
   rw [if_neg c6] at H
   have c6b0 := decide_eq_false c6
   clear c6
   obtain rfl := Option.some.inj H
   go_wp2
   go_ret
   exact ⟨_, rA, rK HO_3, bA⟩

/-! ### laws_toIntS: function 57 -/
def laws_toIntS.l0 : Nat → List Int → List Int → Int → Option (List Int)
 | 0, _, _, _ => none
 | k + 1, x0, x3, x4 => if x4 < (x0.length : Int) then (if 0 ≤ x4 then (if x4 < (x3.length : Int) then (laws_toIntS.l0 k x0 (x3.set (x4 : Int).toNat (rd x0 x4)) (wrap64 (x4 + 1))) else (none)) else (none)) else (some x3)
def laws_toIntS.f (k : Nat) (l0 : List Int) : Option (List Int) := if 0 ≤ (l0.length : Int) then (if ((l0.length : Int) : Int).toNat ≤ 35184372088832 then (laws_toIntS.l0 k l0 (List.replicate ((l0.length : Int) : Int).toNat 0) 0) else (none)) else (none)
theorem laws_toIntS.mono_l : ∀ k, (∀ y0 y1 y2, LeO (laws_toIntS.l0 k y0 y1 y2) (laws_toIntS.l0 (k + 1) y0 y1 y2))
 | 0 => fun _ _ _ r h => by simp [laws_toIntS.l0] at h
 | k + 1 => by
  have ih0 := laws_toIntS.mono_l k
  ·
   intro y0 y1 y2
   unfold laws_toIntS.l0
   exact mz1 ih0
theorem laws_toIntS.mono : ∀ a0 k, LeO (laws_toIntS.f k a0) (laws_toIntS.f (k + 1) a0) := by
 intro a0 k
 have ih0 := laws_toIntS.mono_l k
 unfold laws_toIntS.f
 exact mz1 ih0
set_option maxHeartbeats 8000000 in
set_option maxRecDepth 100000 in
theorem laws_toIntS.calls (k : Nat) (A0 : Option Addr) (c0 : Nat) (l0 : List Int) (r : List Int) (w : World) (hr0 : Kd.C (Kd.int .i64) w A0 l0.length l0) (hc0 : l0.length ≤ c0) (h : laws_toIntS.f k l0 = some r) :
  Calls Tryz.prog 57 #[.slice A0 l0.length c0] w fun e w' => ∃ v0_ : Value, e = .returned (v0_) ∧ Kd.R (Kd.int .i64) 3 w' w.heap.size (fun _ => True) v0_ r ∧ Below w.heap.size w w' := by
 have HR0 := Aside0.mk hr0
 have HC0 := Aside0.mk hc0
 clear hr0 hc0
 have HB := Aside0.mk (Below.refl w.heap.size w)
 have H : (if 0 ≤ (l0.length : Int) then (if ((l0.length : Int) : Int).toNat ≤ 35184372088832 then (laws_toIntS.l0 k l0 (List.replicate ((l0.length : Int) : Int).toNat 0) 0) else (none)) else (none)) = some r := h
 clear h
 have c2 : 0 ≤ (l0.length : Int) := ifN H
 replace H := ifT H
 have c2b0 := eq_true c2
 have c2b1 := decide_eq_true c2
 clear c2
 have c3 : ((l0.length : Int) : Int).toNat ≤ 35184372088832 := ifN H
 replace H := ifT H
 have c3b0 := eq_true c3
 have c3b1 := decide_eq_true c3
 clear c3
 obtain ⟨y298, hy298⟩ : ∃ y_ : List Int, y_ = (List.replicate ((l0.length : Int) : Int).toNat 0) := ⟨_, rfl⟩
 replace H : (laws_toIntS.l0 k l0 y298 0) = some r := rH H hy298
 have Ny298 := Aside0.mk hy298
 clear hy298
 have H' := Aside0.mk H
 clear H
 go_enter Tryz.func57, Tryz.ntmps57
 go_wp2_with (first | ((with_reducible refine gate_dst (N := 7) rfl ?_); refine Kd.R_make (Kd.int .i64) _ 3 rfl (N := 7) rfl 28 _ _ rfl (l0.length : Int) rfl rfl Tryz.underlying28 (.int .i64 0) 8 info3 rfl (by decide) (by omega) 0 (ok := fun _ => True) (okp := fun _ => True) rfl (fun _ hk => hk) trivial (dA) (Nat.le_trans (Nat.mul_le_mul_right _ (dA : (l0.length : Int).toNat ≤ 35184372088832)) (by omega)) (Below.refl _ _) (Nat.le_refl _) ?_; intro v299 w4 ho5 hb hg_ hnew_; clear hg_ hnew_; (first | rw [← Ny298.out] at ho5 | (simp only [Int.reduceToNat] at ho5; rw [← Ny298.out] at ho5)); have HO300 := rl w ho5; replace HB := bs HB hb; clear hb ho5))
 go_loopg [4] k (fun kq v4 w' => ∃ (x3_1 : List Int) (x4_1 : Int), v4 = .int .i64 x4_1 ∧ Aside0 (laws_toIntS.l0 kq l0 x3_1 x4_1 = some r) ∧ Aside0 (kq ≤ k) ∧ Aside0 (Kd.R (Kd.int .i64) 3 w' w.heap.size (fun _ => True) v299 x3_1) ∧ Aside0 (Below w.heap.size w w'))
 case atStart => exact ⟨(y298), (0), rS, H', ⟨Nat.le_refl _⟩, ⟨rK HO300⟩, ⟨bA⟩⟩
 case round =>
  clear H'
  obtain ⟨x3_1, x4_1, rfl, HA, HK1, HO_3, HB⟩ := hrel
  cases gk with
  | zero => exact absurd HA.out (by simp [laws_toIntS.l0])
  | succ k1 =>
   have H := HA.out
   clear HA
   simp only [laws_toIntS.l0] at H
   by_cases c6 : x4_1 < (l0.length : Int)
   ·
    rw [if_pos c6] at H
    have c6b0 := decide_eq_true c6
    clear c6
    have c7 : 0 ≤ x4_1 := ifN H
    replace H := ifT H
    have c7b0 := decide_eq_true c7
    clear c7
    have c8 : x4_1 < (x3_1.length : Int) := ifN H
    replace H := ifT H
    have c8b0 := decide_eq_true c8
    clear c8
    obtain ⟨y302, hy302⟩ : ∃ y_ : List Int, y_ = (x3_1.set (x4_1 : Int).toNat (rd l0 x4_1)) := ⟨_, rfl⟩
    replace H : (laws_toIntS.l0 k1 l0 y302 (wrap64 (x4_1 + 1))) = some r := rH H hy302
    have Ny302 := Aside0.mk hy302
    clear hy302
    have H' := Aside0.mk H
    clear H
    obtain ⟨p301, q301⟩ : 0 ≤ (x4_1 : Int) ∧ x4_1 < (l0.length : Int) := ⟨dA, dA⟩
    obtain ⟨ad301, e301, hx301_0⟩ := Kd.at_int (Kd.C_below HR0.out HB.out) x4_1 p301 q301
    cases e301
    obtain ⟨p301, q301⟩ := eT p301 q301
    obtain ⟨p9, q9⟩ : 0 ≤ (x4_1 : Int) ∧ (x4_1 : Int) < ((x3_1.length : Int) : Int) := ⟨dA, dA⟩
    obtain ⟨go9, co9, eo9, gb9, gl9, cl9, HG9⟩ := Kd.R_form HO_3.out (by omega)
    (first | cases eo9 | (injection eo9 with ea_ en_ ec_; (first | subst ea_ | (injection ea_ with ea_; subst ea_)); subst ec_; clear en_))
    have GB9 := Aside0.mk gb9
    have GG9 := Aside0.mk HG9
    clear gb9 gl9 HG9
    obtain ⟨hx9_0, hf9_0⟩ := Kd.R_celln 0 HO_3.out (x4_1 : Int) p9 q9
    obtain ⟨p9, q9⟩ := eT p9 q9
    have HP10 := Kd.R_putg HO_3.out (x4_1 : Int) (rd l0 x4_1)
    go_wp2_with (first | ((with_reducible refine gate_store (t := 3) (p := 20) rfl ?_); refine store_event (t := 3) (p := 20) (v := ?vo_w11) (w1 := (wr.setCell ⟨go9, (x4_1 : Int).toNat, none⟩ (.int .i64 (rd l0 x4_1)))) ?hg ?ho ?hn ?hr ?_; (case ho => rfl); (case hg => rfl); (case hn => rfl); (case hr => first | (go_simp; done) | (go_simp; rfl)); intro w11 hw; have hg : wr.grownBy w11 (some go9) := (by rw [hw]; exact HP10.2); have hp_ : Kd.R (Kd.int .i64) 3 w11 w.heap.size (fun _ => True) (.slice (some ⟨go9, 0, none⟩) x3_1.length co9) y302 := (by rw [hw, Ny302.out]; exact HP10.1); clear HP10; have n0_ := Aside0.mk (hp_); have n1_ := Aside0.mk ((by rw [hw]; exact below_set (HB.out) GB9.out : Below w.heap.size w w11)); clear HO_3; clear HB; have HO_3 := n0_; have HB := n1_; clear n0_ n1_; clear hg hw hp_))
    go_roundg k1
    case measure => have := HK1.out; omega
    case rel => exact ⟨(y302), (wrap64 (x4_1 + 1)), rS, H', ⟨by have := HK1.out; omega⟩, ⟨rK HO_3⟩, ⟨bA⟩⟩
   rw [if_neg c6] at H
   have c6b0 := decide_eq_false c6
   clear c6
   obtain rfl := Option.some.inj H
   go_wp2
   go_ret
   exact ⟨_, rA, rK HO_3, bA⟩

/-! ### laws_toPart: function 38 -/
def laws_toPart.f (k : Nat) (l0_0 : List Int) (a0_1 : Int) : Option (List Int × Int) := (laws_toIntS.f k l0_0).bind fun t306 => (some (t306, a0_1))
theorem laws_toPart.mono : ∀ a0 a1 k, LeO (laws_toPart.f k a0 a1) (laws_toPart.f (k + 1) a0 a1) := by
 intro a0 a1 k
 unfold laws_toPart.f
 exact mz1 laws_toIntS.mono
set_option maxHeartbeats 8000000 in
set_option maxRecDepth 100000 in
theorem laws_toPart.calls (k : Nat) (A0_0 : Option Addr) (c0_0 : Nat) (l0_0 : List Int) (a0_1 : Int) (r1 : List Int) (r2 : Int) (w : World) (hr0_0 : Kd.C (Kd.int .i64) w A0_0 l0_0.length l0_0) (hc0_0 : l0_0.length ≤ c0_0) (h : laws_toPart.f k l0_0 a0_1 = some (r1, r2)) :
  Calls Tryz.prog 38 #[.agg #[.slice A0_0 l0_0.length c0_0, .int .i64 a0_1]] w fun e w' => ∃ v0_ : Value, e = .returned (.agg #[v0_, .int .i64 r2]) ∧ Kd.R (Kd.int .i64) 3 w' w.heap.size (fun _ => True) v0_ r1 ∧ Below w.heap.size w w' := by
 have hu63 := Tryz.underlying63
 have hu72 := Tryz.underlying72
 have HR0_0 := Aside0.mk hr0_0
 have HC0_0 := Aside0.mk hc0_0
 clear hr0_0 hc0_0
 have HB := Aside0.mk (Below.refl w.heap.size w)
 have H : ((laws_toIntS.f k l0_0).bind fun t306 => (some (t306, a0_1))) = some (r1, r2) := h
 clear h
 obtain ⟨t306, A2, H⟩ := bindE H
 try dsimp only at H
 simp only [Option.some.injEq, Prod.mk.injEq] at H
 obtain ⟨rfl, rfl⟩ := H
 go_enter Tryz.func38, Tryz.ntmps38
 go_wp2_with (first | ((with_reducible refine gate_dst (N := 1) rfl ?_); refine bE (N := 1) (cs := #[.slice A0_0 l0_0.length c0_0, .int .i64 a0_1]) (t := 63) ?_; intro gb303 hg w3 hbox hb; have BK303 := Aside0.mk (hbox); have GW303 := gw w hg; have GE303 := gw w hg; replace HB := bs HB hb; clear hb hbox hg) | ((with_reducible refine gate_dst (N := 2) rfl ?_); refine bE (N := 2) (cs := #[.slice none 0 0, .int .i64 0]) (t := 72) ?_; intro gb304 hg w4 hbox hb; have BK304 := Aside0.mk (hbox); have GW304 := gw w hg; have GE304 := gw w hg; replace HB := bs HB hb; have NB303_304 := nl BK303 hg; have NB304_303 := nr BK303 hg; replace BK303 := kb BK303 hb; clear hb hbox hg) | ((with_reducible refine gate_dst (N := 3) rfl ?_); refine bE (N := 3) (cs := #[.slice none 0 0, .int .i64 0]) (t := 72) ?_; intro gb305 hg w5 hbox hb; have BK305 := Aside0.mk (hbox); have GW305 := gw w hg; have GE305 := gw w hg; replace HB := bs HB hb; have NB303_305 := nl BK303 hg; have NB305_303 := nr BK303 hg; replace BK303 := kb BK303 hb; have NB304_305 := nl BK304 hg; have NB305_304 := nr BK304 hg; replace BK304 := kb BK304 hb; clear hb hbox hg; have hnb6 := NB303_304.out; have hnc6 := NB304_303.out; have hnb7 := NB303_305.out; have hnc7 := NB305_303.out; obtain ⟨_, _, _, _⟩ := blkc2 BK303) | ((with_reducible refine gate_callee (f := 57) rfl ?_); refine gL (some 6) Tryz.func57 #[.slice A0_0 l0_0.length c0_0] ?_; (with_reducible refine (laws_toIntS.calls k _ _ l0_0 t306 _ ?_ ?_ A2.out).mono ?_); exact cB HR0_0; exact HC0_0.out; rintro e w9 ⟨v307, rfl, ho0, hb⟩; refine ⟨_, rfl, ?_⟩; have HO308 := rl w ho0; replace BK303 := kb BK303 hb; replace BK304 := kb BK304 hb; replace BK305 := kb BK305 hb; replace HB := bs HB hb; (try clear hb); (try clear ho0); obtain ⟨Ao10, co10, eo10⟩ := Kd.R_slice HO308.out; subst eo10; have hnb11 := NB305_304.out; have hnc11 := NB304_305.out; obtain ⟨_, _, _, _⟩ := blkc2 BK305; obtain ⟨_, _, _, _⟩ := blkc2 BK303; obtain ⟨_, _, _, _⟩ := blkc2 BK304))
 refine bodyPost_ret (results_cell_row rfl _ _ gb304 72 #[.slice Ao10 t306.length co10, .int .i64 a0_1] (0, 0) _ rfl (kP BK304 NB304_305) Tryz.underlying72 rfl (by kernel_rfl)) rfl ?_
 exact ⟨_, rA, by (with_reducible repeat (first | apply Kd.R_alloc | apply Kd.R_drewN | apply Kd.R_drew)); exact Kd.R_mono (Kd.R_far (p := ⟨gb304, 1, none⟩) (Kd.R_far (p := ⟨gb304, 0, none⟩) (Kd.R_far (p := ⟨gb305, 1, none⟩) (Kd.R_far (p := ⟨gb305, 0, none⟩) (Kd.R_types (Kd.R_types HO308.out BK305.out (by decide)) BK304.out (by decide)) (fun _ hk => hk.1.2) (.slice Ao10 t306.length co10)) (fun _ hk => hk.1.2) (.int .i64 a0_1)) (fun _ hk => hk.2) (.slice Ao10 t306.length co10)) (fun _ hk => hk.2) (.int .i64 a0_1)) (fun _ hk => trivial), bG⟩

/-! ### laws_toPartS: function 10 -/
def laws_toPartS.l0 : Nat → List (S63) → List (S72) → Int → Option ((List (S72)))
 | 0, _, _, _ => none
 | k + 1, x0, x3, x4 => if x4 < (x0.length : Int) then (if 0 ≤ x4 then ((laws_toPart.f k ((rd_T63 x0 x4).f0) ((rd_T63 x0 x4).f1)).bind fun bt313 => (if x4 < (x3.length : Int) then (laws_toPartS.l0 k x0 (x3.set (x4 : Int).toNat (⟨bt313.1, bt313.2⟩ : S72)) (wrap64 (x4 + 1))) else (none))) else (none)) else (some x3)
def laws_toPartS.f (k : Nat) (l0 : List (S63)) : Option ((List (S72))) := if 0 ≤ (l0.length : Int) then (if ((l0.length : Int) : Int).toNat ≤ 8796093022208 then (laws_toPartS.l0 k l0 (List.replicate ((l0.length : Int) : Int).toNat z72) 0) else (none)) else (none)
theorem laws_toPartS.mono_l : ∀ k, (∀ y0 y1 y2, LeO (laws_toPartS.l0 k y0 y1 y2) (laws_toPartS.l0 (k + 1) y0 y1 y2))
 | 0 => fun _ _ _ r h => by simp [laws_toPartS.l0] at h
 | k + 1 => by
  have ih0 := laws_toPartS.mono_l k
  ·
   intro y0 y1 y2
   unfold laws_toPartS.l0
   exact mz2 ih0 laws_toPart.mono
theorem laws_toPartS.mono : ∀ a0 k, LeO (laws_toPartS.f k a0) (laws_toPartS.f (k + 1) a0) := by
 intro a0 k
 have ih0 := laws_toPartS.mono_l k
 unfold laws_toPartS.f
 exact mz2 ih0 laws_toPart.mono
set_option maxHeartbeats 8000000 in
set_option maxRecDepth 100000 in
theorem laws_toPartS.calls (k : Nat) (A0 : Option Addr) (c0 : Nat) (l0 : List (S63)) (r : List (S72)) (w : World) (hr0 : Kd.C k63 w A0 l0.length l0) (hc0 : l0.length ≤ c0) (h : laws_toPartS.f k l0 = some r) :
  Calls Tryz.prog 10 #[.slice A0 l0.length c0] w fun e w' => ∃ v0_ : Value, e = .returned (v0_) ∧ Kd.S k72 72 w' w.heap.size (fun _ => True) v0_ r ∧ Below w.heap.size w w' := by
 have hu63 := Tryz.underlying63
 have hu72 := Tryz.underlying72
 have HR0 := Aside0.mk hr0
 have HC0 := Aside0.mk hc0
 clear hr0 hc0
 have HB := Aside0.mk (Below.refl w.heap.size w)
 have H : (if 0 ≤ (l0.length : Int) then (if ((l0.length : Int) : Int).toNat ≤ 8796093022208 then (laws_toPartS.l0 k l0 (List.replicate ((l0.length : Int) : Int).toNat z72) 0) else (none)) else (none)) = some r := h
 clear h
 have c2 : 0 ≤ (l0.length : Int) := ifN H
 replace H := ifT H
 have c2b0 := eq_true c2
 have c2b1 := decide_eq_true c2
 clear c2
 have c3 : ((l0.length : Int) : Int).toNat ≤ 8796093022208 := ifN H
 replace H := ifT H
 have c3b0 := eq_true c3
 have c3b1 := decide_eq_true c3
 clear c3
 obtain ⟨y309, hy309⟩ : ∃ y_ : List (S72), y_ = (List.replicate ((l0.length : Int) : Int).toNat z72) := ⟨_, rfl⟩
 replace H : (laws_toPartS.l0 k l0 y309 0) = some r := rH H hy309
 have Ny309 := Aside0.mk hy309
 clear hy309
 have H' := Aside0.mk H
 clear H
 go_enter Tryz.func10, Tryz.ntmps10
 go_wp2_with (first | ((with_reducible refine gate_dst (N := 7) rfl ?_); refine Kd.S_make k72 _ 72 rfl (N := 7) rfl 32 _ _ rfl (l0.length : Int) rfl rfl Tryz.underlying32 (.agg #[(.slice none 0 0), (.int .i64 0)]) 32 info72 rfl (by decide) (by omega) z72 (ok := fun _ => True) (okp := fun _ => True) (k72_mkM _ _ _ z72 (Kd.R_nil _ _ _ _ _)) (fun _ hk => hk) trivial (dA) (Nat.le_trans (Nat.mul_le_mul_right _ (dA : (l0.length : Int).toNat ≤ 8796093022208)) (by omega)) (Below.refl _ _) (Nat.le_refl _) ?_; intro v310 w4 ho5 hb hg_ hnew_; clear hg_ hnew_; (first | rw [← Ny309.out] at ho5 | (simp only [Int.reduceToNat] at ho5; rw [← Ny309.out] at ho5)); have HO311 := sl w ho5; replace HB := bs HB hb; clear hb ho5))
 go_loopg [4] k (fun kq v4 w' => ∃ (x3_1 : List (S72)) (x4_1 : Int), v4 = .int .i64 x4_1 ∧ Aside0 (laws_toPartS.l0 kq l0 x3_1 x4_1 = some r) ∧ Aside0 (kq ≤ k) ∧ Aside0 (Kd.S k72 72 w' w.heap.size (fun _ => True) v310 x3_1) ∧ Aside0 (Below w.heap.size w w'))
 case atStart => exact ⟨(y309), (0), rS, H', ⟨Nat.le_refl _⟩, ⟨sK HO311⟩, ⟨bA⟩⟩
 case round =>
  clear H'
  obtain ⟨x3_1, x4_1, rfl, HA, HK1, HO_3, HB⟩ := hrel
  cases gk with
  | zero => exact absurd HA.out (by simp [laws_toPartS.l0])
  | succ k1 =>
   have H := HA.out
   clear HA
   simp only [laws_toPartS.l0] at H
   by_cases c6 : x4_1 < (l0.length : Int)
   ·
    rw [if_pos c6] at H
    have c6b0 := decide_eq_true c6
    clear c6
    have c7 : 0 ≤ x4_1 := ifN H
    replace H := ifT H
    have c7b0 := decide_eq_true c7
    clear c7
    obtain ⟨⟨t313, t316⟩, A8, H⟩ := bindE H
    try dsimp only at H
    have c9 : x4_1 < (x3_1.length : Int) := ifN H
    replace H := ifT H
    have c9b0 := decide_eq_true c9
    clear c9
    obtain ⟨y317, hy317⟩ : ∃ y_ : List (S72), y_ = (x3_1.set (x4_1 : Int).toNat (⟨t313, t316⟩ : S72)) := ⟨_, rfl⟩
    replace H : (laws_toPartS.l0 k1 l0 y317 (wrap64 (x4_1 + 1))) = some r := rH H hy317
    have Ny317 := Aside0.mk hy317
    clear hy317
    have H' := Aside0.mk H
    clear H
    obtain ⟨p312, q312⟩ : 0 ≤ (x4_1 : Int) ∧ x4_1 < (l0.length : Int) := ⟨dA, dA⟩
    obtain ⟨ad312, A312_0, c312_0, e312, hx312_0, hx312_1, hl312_0, hi312_0⟩ := at_T63 HR0.out x4_1 p312 q312
    cases e312
    replace hx312_0 := hC HB hx312_0
    replace hx312_1 := hC HB hx312_1
    have HR312_0 := Aside0.mk hi312_0
    have HC312_0 := Aside0.mk hl312_0
    clear hi312_0 hl312_0
    obtain ⟨p312, q312⟩ := eT p312 q312
    go_wp2_with (first | ((with_reducible refine gate_callee (f := 38) rfl ?_); refine gL (some 20) Tryz.func38 #[.agg #[.slice A312_0 ((rd_T63 l0 x4_1).f0).length c312_0, .int .i64 ((rd_T63 l0 x4_1).f1)]] ?_; (with_reducible refine (laws_toPart.calls k1 _ _ ((rd_T63 l0 x4_1).f0) ((rd_T63 l0 x4_1).f1) t313 t316 _ ?_ ?_ A8.out).mono ?_); exact cB HR312_0; exact HC312_0.out; rintro e w11 ⟨v314, rfl, ho0, hb⟩; refine ⟨_, rfl, ?_⟩; replace HO_3 := se HO_3 ho0 hb; have HO315 := rl w ho0; replace HB := bs HB hb; (try clear hb); (try clear ho0); have p10 : 0 ≤ (x4_1 : Int) := dA; have q10 : (x4_1 : Int) < ((x3_1.length : Int) : Int) := dA; obtain ⟨go10, co10, eo10, gb10, gl10, cl10, HG10⟩ := Kd.S_form HO_3.out (by omega); (first | cases eo10 | (injection eo10 with ea_ en_ ec_; (first | subst ea_ | (injection ea_ with ea_; subst ea_)); subst ec_; clear en_)); have GB10 := Aside0.mk gb10; have GG10 := Aside0.mk HG10; clear gb10 gl10 HG10; obtain ⟨_, ce10, hcl10, hM10, hcc10, hfr10, _, _⟩ := Kd.S_elem HO_3.out z72 (x4_1 : Int) p10 q10; obtain ⟨ve10_0, rfl, ge10_0⟩ := k72_openM hM10; have hx10_0 : w11.cell? ⟨go10, (x4_1 : Int).toNat * 2, none⟩ = some (ve10_0) := hcc10 0 _ rfl; have hx10_1 : w11.cell? ⟨go10, (x4_1 : Int).toNat * 2 + 1, none⟩ = some (.int .i64 ((rd_T72 x3_1 x4_1).f1)) := hcc10 1 _ rfl; have hf10_0 : w11.frozen? ⟨go10, (x4_1 : Int).toNat * 2, none⟩ = false := hfr10 0; have hf10_1 : w11.frozen? ⟨go10, (x4_1 : Int).toNat * 2 + 1, none⟩ = false := hfr10 1; clear hcl10 hcc10 hfr10 hM10; replace p10 := eq_true p10; replace q10 := eq_true q10; obtain ⟨Ao12, co12, eo12⟩ := Kd.R_slice HO315.out; subst eo12; have n_ := Aside0.mk (Kd.S_mono (ok' := (n1 (.slice Ao12 t313.length co12))) HO_3.out (fun k_ hk => hk.2)); clear HO_3; have HO_3 := n_; clear n_; have HX13 := Aside0.mk (show Kd.S k72 72 w11 w.heap.size (fun k_ => ((fun _ => True)) k_ ∧ ¬ ((fun k_ => some k_ = (.slice Ao12 t313.length co12 : Value).ownBlock)) k_) (.slice (some ⟨go10, 0, none⟩) x3_1.length co10) x3_1 from (sm HO_3 (fun k_ hk => ⟨trivial, fun e_ => hk e_⟩))); obtain ⟨oki13, ce13, hcl13, hM13, hcc13, hfr13, hoki13, hH13⟩ := Kd.S_elem HX13.out z72 (x4_1 : Int) (dA) (by have h_ : (x4_1 : Int) < ((x3_1.length : Int) : Int) := dA; first | exact h_ | (have e_ := (Kd.S_reads' HO_3.out).1; omega) | simpa using h_); obtain ⟨ve13_0, rfl, ge13_0⟩ := k72_openM hM13; have HP13 := Kd.S_seg hH13 (dA) (by have h_ : (x4_1 : Int) < ((x3_1.length : Int) : Int) := dA; first | exact h_ | (have e_ := (Kd.S_reads' HO_3.out).1; omega) | simpa using h_) (seg := [.slice Ao12 t313.length co12, .int .i64 t316]) (j := 0) (show 2 ≤ 2 from by decide) (x' := (⟨t313, t316⟩ : S72)) (k72_mkM _ _ _ (⟨t313, t316⟩ : S72) (Kd.R_mono (Kd.R_tight rfl (Kd.R_mono (ok' := fun k_ => ((fun _ => True)) k_ ∧ k_ ≠ go10) (Kd.R_apart' (HO315.out) (Kd.S_typed HO_3.out) (by decide)) (fun k_ hk => ⟨trivial, fun e_ => (hk.2) (by rw [e_]; rfl)⟩))) (fun _ h_ => Or.inr (h_)))) (fun _ hk => hk) (fun k_ hk_ => ((Kd.R_mono (ok' := fun k_ => ((fun _ => True)) k_ ∧ k_ ≠ go10) (Kd.R_apart' (HO315.out) (Kd.S_typed HO_3.out) (by decide)) (fun k_ hk => ⟨trivial, fun e_ => (hk.2) (by rw [e_]; rfl)⟩))).1 k_ hk_.symm); have hx13_0 := hcc13 0 _ rfl; (try simp only [show (k72).sz = 2 from rfl, Nat.mul_one, Nat.add_zero] at hx13_0); have hf13_0 := hfr13 0; (try simp only [show (k72).sz = 2 from rfl, Nat.mul_one, Nat.add_zero] at hf13_0); have hx13_1 := hcc13 1 _ rfl; (try simp only [show (k72).sz = 2 from rfl, Nat.mul_one, Nat.add_zero] at hx13_1); have hf13_1 := hfr13 1; (try simp only [show (k72).sz = 2 from rfl, Nat.mul_one, Nat.add_zero] at hf13_1); clear hcl13 hcc13 hfr13 hM13 hoki13 hH13) | ((with_reducible refine gate_store (t := 72) (p := 21) rfl ?_); refine store_event (t := 72) (p := 21) (v := ?vo_w14) (w1 := ((w11.setCell ⟨go10, (x4_1 : Int).toNat * 2, none⟩ (.slice Ao12 t313.length co12)).setCell ⟨go10, (x4_1 : Int).toNat * 2 + 1, none⟩ (.int .i64 t316))) ?hg ?ho ?hn ?hr ?_; (case ho => rfl); (case hg => rfl); (case hn => rfl); (case hr => first | (go_simp; done) | (go_simp; rfl)); intro w14 hw; have hg : w11.grownBy w14 (some go10) := (by rw [hw]; exact HP13.2); have hp_ : Kd.S k72 72 w14 w.heap.size (fun _ => True) (.slice (some ⟨go10, 0, none⟩) x3_1.length co10) y317 := (by rw [hw, Ny317.out]; exact HP13.1); clear HP13; have n0_ := Aside0.mk (hp_); have n1_ := Aside0.mk ((by rw [hw]; exact below_set (below_set (HB.out) GB10.out) GB10.out : Below w.heap.size w w14)); clear HO_3; clear HB; clear HO315; have HO_3 := n0_; have HB := n1_; clear n0_ n1_; clear hg hw hp_))
    go_roundg k1
    case measure => have := HK1.out; omega
    case rel => exact ⟨(y317), (wrap64 (x4_1 + 1)), rS, H', ⟨by have := HK1.out; omega⟩, ⟨sK HO_3⟩, ⟨bA⟩⟩
   rw [if_neg c6] at H
   have c6b0 := decide_eq_false c6
   clear c6
   obtain rfl := Option.some.inj H
   go_wp2
   go_ret
   exact ⟨_, rA, sK HO_3, bA⟩

/-! ### laws_toCall: function 39 -/
def laws_toCall.f (a0_0 : Int) (a0_1 : Int) : Option (Int × Int) := some (a0_0, a0_1)
set_option maxHeartbeats 8000000 in
set_option maxRecDepth 100000 in
theorem laws_toCall.calls (a0_0 : Int) (a0_1 : Int) (r1 : Int) (r2 : Int) (w : World) (h : laws_toCall.f a0_0 a0_1 = some (r1, r2)) :
  Calls Tryz.prog 39 #[.agg #[.int .i64 a0_0, .int .i64 a0_1]] w fun e w' => e = .returned (.agg #[.int .i64 r1, .int .i64 r2]) ∧ Below w.heap.size w w' := by
 have hu75 := Tryz.underlying75
 have hu65 := Tryz.underlying65
 have HB := Aside0.mk (Below.refl w.heap.size w)
 have H : (some (a0_0, a0_1)) = some (r1, r2) := h
 clear h
 simp only [Option.some.injEq, Prod.mk.injEq] at H
 obtain ⟨rfl, rfl⟩ := H
 go_enter Tryz.func39, Tryz.ntmps39
 go_wp2_with (first | ((with_reducible refine gate_dst (N := 1) rfl ?_); refine bE (N := 1) (cs := #[.int .i64 a0_0, .int .i64 a0_1]) (t := 75) ?_; intro gb318 hg w2 hbox hb; have BK318 := Aside0.mk (hbox); have GW318 := gw w hg; have GE318 := gw w hg; replace HB := bs HB hb; clear hb hbox hg) | ((with_reducible refine gate_dst (N := 2) rfl ?_); refine bE (N := 2) (cs := #[.int .i64 0, .int .i64 0]) (t := 65) ?_; intro gb319 hg w3 hbox hb; have BK319 := Aside0.mk (hbox); have GW319 := gw w hg; have GE319 := gw w hg; replace HB := bs HB hb; have NB318_319 := nl BK318 hg; have NB319_318 := nr BK318 hg; replace BK318 := kb BK318 hb; clear hb hbox hg) | ((with_reducible refine gate_dst (N := 3) rfl ?_); refine bE (N := 3) (cs := #[.int .i64 0, .int .i64 0]) (t := 65) ?_; intro gb320 hg w4 hbox hb; have BK320 := Aside0.mk (hbox); have GW320 := gw w hg; have GE320 := gw w hg; replace HB := bs HB hb; have NB318_320 := nl BK318 hg; have NB320_318 := nr BK318 hg; replace BK318 := kb BK318 hb; have NB319_320 := nl BK319 hg; have NB320_319 := nr BK319 hg; replace BK319 := kb BK319 hb; clear hb hbox hg; have hnb5 := NB318_319.out; have hnc5 := NB319_318.out; have hnb6 := NB318_320.out; have hnc6 := NB320_318.out; obtain ⟨_, _, _, _⟩ := blkc2 BK318; have hnb8 := NB320_319.out; have hnc8 := NB319_320.out; obtain ⟨_, _, _, _⟩ := blkc2 BK320; obtain ⟨_, _, _, _⟩ := blkc2 BK319))
 refine bodyPost_ret (results_cell_row rfl _ _ gb319 65 #[.int .i64 a0_0, .int .i64 a0_1] (0, 0) _ rfl (kP BK319 NB319_320) Tryz.underlying65 rfl (by kernel_rfl)) rfl ?_
 exact ⟨rA, bG⟩

/-! ### laws_toCallS: function 11 -/
def laws_toCallS.l0 : Nat → List (S75) → List (S65) → Int → Option ((List (S65)))
 | 0, _, _, _ => none
 | k + 1, x0, x3, x4 => if x4 < (x0.length : Int) then (if 0 ≤ x4 then ((laws_toCall.f ((rd_T75 x0 x4).f0) ((rd_T75 x0 x4).f1)).bind fun bt325 => (if x4 < (x3.length : Int) then (laws_toCallS.l0 k x0 (x3.set (x4 : Int).toNat (⟨bt325.1, bt325.2⟩ : S65)) (wrap64 (x4 + 1))) else (none))) else (none)) else (some x3)
def laws_toCallS.f (k : Nat) (l0 : List (S75)) : Option ((List (S65))) := if 0 ≤ (l0.length : Int) then (if ((l0.length : Int) : Int).toNat ≤ 17592186044416 then (laws_toCallS.l0 k l0 (List.replicate ((l0.length : Int) : Int).toNat z65) 0) else (none)) else (none)
theorem laws_toCallS.mono_l : ∀ k, (∀ y0 y1 y2, LeO (laws_toCallS.l0 k y0 y1 y2) (laws_toCallS.l0 (k + 1) y0 y1 y2))
 | 0 => fun _ _ _ r h => by simp [laws_toCallS.l0] at h
 | k + 1 => by
  have ih0 := laws_toCallS.mono_l k
  ·
   intro y0 y1 y2
   unfold laws_toCallS.l0
   exact mz1 ih0
theorem laws_toCallS.mono : ∀ a0 k, LeO (laws_toCallS.f k a0) (laws_toCallS.f (k + 1) a0) := by
 intro a0 k
 have ih0 := laws_toCallS.mono_l k
 unfold laws_toCallS.f
 exact mz1 ih0
set_option maxHeartbeats 8000000 in
set_option maxRecDepth 100000 in
theorem laws_toCallS.calls (k : Nat) (A0 : Option Addr) (c0 : Nat) (l0 : List (S75)) (r : List (S65)) (w : World) (hr0 : Kd.C k75 w A0 l0.length l0) (hc0 : l0.length ≤ c0) (h : laws_toCallS.f k l0 = some r) :
  Calls Tryz.prog 11 #[.slice A0 l0.length c0] w fun e w' => ∃ v0_ : Value, e = .returned (v0_) ∧ Kd.R k65 65 w' w.heap.size (fun _ => True) v0_ r ∧ Below w.heap.size w w' := by
 have hu75 := Tryz.underlying75
 have hu65 := Tryz.underlying65
 have HR0 := Aside0.mk hr0
 have HC0 := Aside0.mk hc0
 clear hr0 hc0
 have HB := Aside0.mk (Below.refl w.heap.size w)
 have H : (if 0 ≤ (l0.length : Int) then (if ((l0.length : Int) : Int).toNat ≤ 17592186044416 then (laws_toCallS.l0 k l0 (List.replicate ((l0.length : Int) : Int).toNat z65) 0) else (none)) else (none)) = some r := h
 clear h
 have c2 : 0 ≤ (l0.length : Int) := ifN H
 replace H := ifT H
 have c2b0 := eq_true c2
 have c2b1 := decide_eq_true c2
 clear c2
 have c3 : ((l0.length : Int) : Int).toNat ≤ 17592186044416 := ifN H
 replace H := ifT H
 have c3b0 := eq_true c3
 have c3b1 := decide_eq_true c3
 clear c3
 obtain ⟨y321, hy321⟩ : ∃ y_ : List (S65), y_ = (List.replicate ((l0.length : Int) : Int).toNat z65) := ⟨_, rfl⟩
 replace H : (laws_toCallS.l0 k l0 y321 0) = some r := rH H hy321
 have Ny321 := Aside0.mk hy321
 clear hy321
 have H' := Aside0.mk H
 clear H
 go_enter Tryz.func11, Tryz.ntmps11
 go_wp2_with (first | ((with_reducible refine gate_dst (N := 7) rfl ?_); refine Kd.R_make k65 _ 65 rfl (N := 7) rfl 34 _ _ rfl (l0.length : Int) rfl rfl Tryz.underlying34 (.agg #[(.int .i64 0), (.int .i64 0)]) 16 info65 rfl (by decide) (by omega) z65 (ok := fun _ => True) (okp := fun _ => True) (k65_mkM _ _ _ z65 ) (fun _ hk => hk) trivial (dA) (Nat.le_trans (Nat.mul_le_mul_right _ (dA : (l0.length : Int).toNat ≤ 17592186044416)) (by omega)) (Below.refl _ _) (Nat.le_refl _) ?_; intro v322 w4 ho5 hb hg_ hnew_; clear hg_ hnew_; (first | rw [← Ny321.out] at ho5 | (simp only [Int.reduceToNat] at ho5; rw [← Ny321.out] at ho5)); have HO323 := rl w ho5; replace HB := bs HB hb; clear hb ho5))
 go_loopg [4] k (fun kq v4 w' => ∃ (x3_1 : List (S65)) (x4_1 : Int), v4 = .int .i64 x4_1 ∧ Aside0 (laws_toCallS.l0 kq l0 x3_1 x4_1 = some r) ∧ Aside0 (kq ≤ k) ∧ Aside0 (Kd.R k65 65 w' w.heap.size (fun _ => True) v322 x3_1) ∧ Aside0 (Below w.heap.size w w'))
 case atStart => exact ⟨(y321), (0), rS, H', ⟨Nat.le_refl _⟩, ⟨rK HO323⟩, ⟨bA⟩⟩
 case round =>
  clear H'
  obtain ⟨x3_1, x4_1, rfl, HA, HK1, HO_3, HB⟩ := hrel
  cases gk with
  | zero => exact absurd HA.out (by simp [laws_toCallS.l0])
  | succ k1 =>
   have H := HA.out
   clear HA
   simp only [laws_toCallS.l0] at H
   by_cases c6 : x4_1 < (l0.length : Int)
   ·
    rw [if_pos c6] at H
    have c6b0 := decide_eq_true c6
    clear c6
    have c7 : 0 ≤ x4_1 := ifN H
    replace H := ifT H
    have c7b0 := decide_eq_true c7
    clear c7
    obtain ⟨⟨t325, t326⟩, A8, H⟩ := bindE H
    try dsimp only at H
    have c9 : x4_1 < (x3_1.length : Int) := ifN H
    replace H := ifT H
    have c9b0 := decide_eq_true c9
    clear c9
    obtain ⟨y327, hy327⟩ : ∃ y_ : List (S65), y_ = (x3_1.set (x4_1 : Int).toNat (⟨t325, t326⟩ : S65)) := ⟨_, rfl⟩
    replace H : (laws_toCallS.l0 k1 l0 y327 (wrap64 (x4_1 + 1))) = some r := rH H hy327
    have Ny327 := Aside0.mk hy327
    clear hy327
    have H' := Aside0.mk H
    clear H
    obtain ⟨p324, q324⟩ : 0 ≤ (x4_1 : Int) ∧ x4_1 < (l0.length : Int) := ⟨dA, dA⟩
    obtain ⟨ad324, e324, hx324_0, hx324_1⟩ := at_T75 (Kd.C_below HR0.out HB.out) x4_1 p324 q324
    cases e324
    obtain ⟨p324, q324⟩ := eT p324 q324
    go_wp2_with (first | ((with_reducible refine gate_callee (f := 39) rfl ?_); refine gL (some 20) Tryz.func39 #[.agg #[.int .i64 ((rd_T75 l0 x4_1).f0), .int .i64 ((rd_T75 l0 x4_1).f1)]] ?_; (with_reducible refine (laws_toCall.calls ((rd_T75 l0 x4_1).f0) ((rd_T75 l0 x4_1).f1) t325 t326 _ A8.out).mono ?_); rintro e w11 ⟨rfl, hb⟩; refine ⟨_, rfl, ?_⟩; replace HO_3 := rb HO_3 hb; replace HB := bs HB hb; (try clear hb); have p10 : 0 ≤ (x4_1 : Int) := dA; have q10 : (x4_1 : Int) < ((x3_1.length : Int) : Int) := dA; obtain ⟨go10, co10, eo10, gb10, gl10, cl10, HG10⟩ := Kd.R_form HO_3.out (by omega); (first | cases eo10 | (injection eo10 with ea_ en_ ec_; (first | subst ea_ | (injection ea_ with ea_; subst ea_)); subst ec_; clear en_)); have GB10 := Aside0.mk gb10; have GG10 := Aside0.mk HG10; clear gb10 gl10 HG10; obtain ⟨ce10, hcl10, hM10, hcc10, hfr10⟩ := Kd.R_elem HO_3.out z65 (x4_1 : Int) p10 q10; obtain rfl := k65_openM hM10; have hx10_0 : w11.cell? ⟨go10, (x4_1 : Int).toNat * 2, none⟩ = some (.int .i64 ((rd_T65 x3_1 x4_1).f0)) := hcc10 0 _ rfl; have hx10_1 : w11.cell? ⟨go10, (x4_1 : Int).toNat * 2 + 1, none⟩ = some (.int .i64 ((rd_T65 x3_1 x4_1).f1)) := hcc10 1 _ rfl; have hf10_0 : w11.frozen? ⟨go10, (x4_1 : Int).toNat * 2, none⟩ = false := hfr10 0; have hf10_1 : w11.frozen? ⟨go10, (x4_1 : Int).toNat * 2 + 1, none⟩ = false := hfr10 1; clear hcl10 hcc10 hfr10 hM10; replace p10 := eq_true p10; replace q10 := eq_true q10; have HX12 := Aside0.mk (show Kd.R k65 65 w11 w.heap.size (fun _ => True) (.slice (some ⟨go10, 0, none⟩) x3_1.length co10) x3_1 from (rK HO_3)); obtain ⟨ce12, hcl12, hM12, hcc12, hfr12⟩ := Kd.R_elem HX12.out z65 (x4_1 : Int) (dA) (by have h_ : (x4_1 : Int) < ((x3_1.length : Int) : Int) := dA; first | exact h_ | (have e_ := (Kd.R_reads' HO_3.out).1; omega) | simpa using h_); obtain rfl := k65_openM hM12; have HP12 := Kd.R_seg HX12.out (x4_1 : Int) (dA) (by have h_ : (x4_1 : Int) < ((x3_1.length : Int) : Int) := dA; first | exact h_ | (have e_ := (Kd.R_reads' HO_3.out).1; omega) | simpa using h_) (seg := [.int .i64 t325, .int .i64 t326]) (j := 0) hcl12 hcc12 (show 2 ≤ 2 from by decide) (x' := (⟨t325, t326⟩ : S65)) (k65_mkM _ _ _ (⟨t325, t326⟩ : S65) ) (fun _ hk => hk); have hx12_0 := hcc12 0 _ rfl; (try simp only [show (k65).sz = 2 from rfl, Nat.mul_one, Nat.add_zero] at hx12_0); have hf12_0 := hfr12 0; (try simp only [show (k65).sz = 2 from rfl, Nat.mul_one, Nat.add_zero] at hf12_0); have hx12_1 := hcc12 1 _ rfl; (try simp only [show (k65).sz = 2 from rfl, Nat.mul_one, Nat.add_zero] at hx12_1); have hf12_1 := hfr12 1; (try simp only [show (k65).sz = 2 from rfl, Nat.mul_one, Nat.add_zero] at hf12_1); clear hcl12 hcc12 hfr12 hM12) | ((with_reducible refine gate_store (t := 65) (p := 21) rfl ?_); refine store_event (t := 65) (p := 21) (v := ?vo_w13) (w1 := ((w11.setCell ⟨go10, (x4_1 : Int).toNat * 2, none⟩ (.int .i64 t325)).setCell ⟨go10, (x4_1 : Int).toNat * 2 + 1, none⟩ (.int .i64 t326))) ?hg ?ho ?hn ?hr ?_; (case ho => rfl); (case hg => rfl); (case hn => rfl); (case hr => first | (go_simp; done) | (go_simp; rfl)); intro w13 hw; have hg : w11.grownBy w13 (some go10) := (by rw [hw]; exact HP12.2); have hp_ : Kd.R k65 65 w13 w.heap.size (fun _ => True) (.slice (some ⟨go10, 0, none⟩) x3_1.length co10) y327 := (by rw [hw, Ny327.out]; exact HP12.1); clear HP12; have n0_ := Aside0.mk (hp_); have n1_ := Aside0.mk ((by rw [hw]; exact below_set (below_set (HB.out) GB10.out) GB10.out : Below w.heap.size w w13)); clear HO_3; clear HB; have HO_3 := n0_; have HB := n1_; clear n0_ n1_; clear hg hw hp_))
    go_roundg k1
    case measure => have := HK1.out; omega
    case rel => exact ⟨(y327), (wrap64 (x4_1 + 1)), rS, H', ⟨by have := HK1.out; omega⟩, ⟨rK HO_3⟩, ⟨bA⟩⟩
   rw [if_neg c6] at H
   have c6b0 := decide_eq_false c6
   clear c6
   obtain rfl := Option.some.inj H
   go_wp2
   go_ret
   exact ⟨_, rA, rK HO_3, bA⟩

/-! ### impl_InRange: function 80 -/
def impl_InRange.f (a0 : Int) (a1 : Int) (a2 : Int) : Option (Bool) := if a1 ≤ a0 then (some (decide (a0 ≤ a2))) else (some false)
set_option maxHeartbeats 8000000 in
set_option maxRecDepth 100000 in
theorem impl_InRange.calls (a0 : Int) (a1 : Int) (a2 : Int) (r : Bool) (w : World) (h : impl_InRange.f a0 a1 a2 = some r) :
  Calls Tryz.prog 80 #[.int .i64 a0, .int .i64 a1, .int .i64 a2] w fun e w' => e = .returned (.bool r) ∧ Drawn0 w w' := by
 have H : (if a1 ≤ a0 then (some (decide (a0 ≤ a2))) else (some false)) = some r := h
 clear h
 by_cases c4 : a1 ≤ a0
 ·
  rw [if_pos c4] at H
  have c4b0 := decide_eq_true c4
  clear c4
  obtain rfl := Option.some.inj H
  go_enter Tryz.func80, Tryz.ntmps80
  go_wp2
  go_ret
  exact ⟨rS, dD⟩
 rw [if_neg c4] at H
 have c4b0 := decide_eq_false c4
 clear c4
 obtain rfl := Option.some.inj H
 go_enter Tryz.func80, Tryz.ntmps80
 go_wp2
 go_ret
 exact ⟨rS, dD⟩

/-! ### impl_FindPath: function 83 -/
def impl_FindPath.q (id : Int) (x : S69) : Bool := decide (x.f0 = id)
set_option maxHeartbeats 400000 in
set_option maxRecDepth 100000 in
theorem impl_FindPath.clo (id : Int) (g : Nat) (x : S69) (w : World) (hc : w.cell? ⟨g, 0, none⟩ = some (.int .i64 id)) :
  Calls Tryz.prog 116 #[.agg #[.int .i64 x.f0, .int .i64 x.f1, .int .i64 x.f2, .int .i64 x.f3], .pointer (some ⟨g, 0, none⟩)] w fun e w' => e = .returned (.bool (impl_FindPath.q id x)) ∧ Below w.heap.size w w' := by
 have hu := Tryz.underlying69
 have hg : g < w.heap.size := World.block_lt_of_cell? w _ hc
 go_enter Tryz.func116, Tryz.ntmps116
 go_wp2
 go_ret
 exact ⟨by unfold impl_FindPath.q; first | rfl | simp, (Below.refl _ _).alloc (Nat.le_refl _) _⟩
def impl_FindPath.ix (id : Int) : List S69 → Int → Int
 | [], _ => -1
 | x :: l, i => if impl_FindPath.q id x = true then i else impl_FindPath.ix id l (i + 1)
theorem impl_FindPath.ix_hit (id : Int) : ∀ (l : List S69) (i : Int) (m : Nat) (hm : m < l.length), (∀ j (hj : j < m), impl_FindPath.q id (l[j]'(by omega)) = false) → impl_FindPath.q id l[m] = true → impl_FindPath.ix id l i = i + m
 | [], i, m, hm, _, _ => absurd hm (by simp)
 | p :: l, i, 0, hm, _, h => by
  unfold impl_FindPath.ix
  rw [if_pos (show impl_FindPath.q id p = true from h)]
  simp
 | p :: l, i, m + 1, hm, hne, h => by
  unfold impl_FindPath.ix
  have h2 : impl_FindPath.q id p = false := hne 0 (by omega)
  rw [if_neg (by rw [h2]; decide), impl_FindPath.ix_hit id l (i + 1) m (by simpa using hm) (fun j hj => hne (j + 1) (by omega)) h]
  omega
theorem impl_FindPath.ix_miss (id : Int) : ∀ (l : List S69) (i : Int), (∀ j (hj : j < l.length), impl_FindPath.q id l[j] = false) → impl_FindPath.ix id l i = -1
 | [], i, _ => rfl
 | p :: l, i, h => by
  unfold impl_FindPath.ix
  have h2 : impl_FindPath.q id p = false := h 0 (by simp)
  rw [if_neg (by rw [h2]; decide), impl_FindPath.ix_miss id l (i + 1) (fun j hj => h (j + 1) (by simpa using hj))]
theorem impl_FindPath.rd_ (l : List S69) (j : Nat) (hj : j < l.length) : rd_T69 l (j : Int) = l[j] := by
 unfold rd_T69; simp [List.getD_eq_getElem?_getD, List.getElem?_eq_getElem hj]
set_option maxHeartbeats 4000000 in
set_option maxRecDepth 100000 in
theorem impl_FindPath.idx (id : Int) (g : Nat) (A0 : Option Addr) (c0 : Nat) (l0 : List S69) (w : World) (hr0 : Kd.C k69 w A0 l0.length l0) (hc0 : l0.length ≤ c0) (hc : w.cell? ⟨g, 0, none⟩ = some (.int .i64 id)) :
  Calls Tryz.prog 115 #[.slice A0 l0.length c0, .func (.func 116) #[] #[.pointer (some ⟨g, 0, none⟩)]] w fun e w' => e = .returned (.int .i64 (impl_FindPath.ix id l0 0)) ∧ Below w.heap.size w w' := by
 have hu := Tryz.underlying69
 have HC := Aside0.mk hc
 clear hc
 have HR0 := Aside0.mk hr0
 have HC0 := Aside0.mk hc0
 have hlen : l0.length ≤ 9223372036854775807 := hr0.2.1
 clear hr0 hc0
 have HB := Aside0.mk (Below.refl w.heap.size w)
 go_enter Tryz.func115, Tryz.ntmps115
 go_wp2
 go_loopg [5, 8] l0.length (fun gg v5 v8 w' => ∃ kk : Nat, v8 = .int .i64 kk ∧ Aside0 (kk ≤ l0.length) ∧ Aside0 (l0.length - kk ≤ gg) ∧ Aside0 (Below w.heap.size w w') ∧ Aside0 (∀ j (hj : j < kk) (hl : j < l0.length), impl_FindPath.q id l0[j] = false))
 case atStart => exact ⟨0, rfl, ⟨Nat.zero_le _⟩, ⟨by omega⟩, HB, ⟨fun j hj => absurd hj (Nat.not_lt_zero _)⟩⟩
 case round =>
  clear HB
  obtain ⟨kk, rfl, hk, hg, HB, HA⟩ := hrel
  by_cases hlt : kk < l0.length
  ·
   have hltz : decide ((kk : Int) < (l0.length : Int)) = true := decide_eq_true (by omega)
   have hltn : decide (kk < l0.length) = true := decide_eq_true hlt
   have p0 : (0 : Int) ≤ (kk : Int) := by omega
   have q0 : (kk : Int) < (l0.length : Int) := by omega
   have HE := Aside0.mk (impl_FindPath.rd_ l0 kk hlt)
   obtain ⟨ad, e1, hx0, hx1, hx2, hx3⟩ := at_T69 HR0.out (kk : Int) p0 q0
   cases e1
   rw [Int.toNat_natCast] at hx0 hx1 hx2 hx3
   replace hx0 := hC HB hx0
   replace hx1 := hC HB hx1
   replace hx2 := hC HB hx2
   replace hx3 := hC HB hx3
   replace p0 := eq_true p0
   replace q0 := eq_true q0
   have hcl := fun (w' : World) (hb : Below w.heap.size w w') => impl_FindPath.clo id g (rd_T69 l0 (kk : Int)) w' ((hb.cell (World.block_lt_of_cell? w _ HC.out)).trans HC.out)
   cases hq : impl_FindPath.q id (rd_T69 l0 (kk : Int)) with
   | true =>
    rw [hq] at hcl
    have HCL := Aside0.mk hcl
    have HQ := Aside0.mk hq
    clear hcl hq
    go_wp2_with (go_at_call 116; refine (HCL.out _ HB.out).mono ?_; rintro e w1 ⟨rfl, hb1⟩)
    go_ret
    refine ⟨?_, below_step HB.out hb1⟩
    have hq := HQ.out
    rw [HE.out] at hq
    rw [impl_FindPath.ix_hit id l0 0 kk hlt (fun j hj => HA.out j hj (by omega)) hq, Int.zero_add]
    rfl
   | false =>
    rw [hq] at hcl
    have HCL := Aside0.mk hcl
    have HQ := Aside0.mk hq
    clear hcl hq
    go_wp2_with (go_at_call 116; refine (HCL.out _ HB.out).mono ?_; rintro e w1 ⟨rfl, hb1⟩)
    go_roundg (l0.length - (kk + 1))
    case measure => have := hg.out; omega
    case rel =>
     refine ⟨kk + 1, by go_num, ⟨by omega⟩, ⟨by omega⟩, ⟨below_step HB.out hb1⟩, ⟨fun j hj hl => ?_⟩⟩
     rcases Nat.lt_or_ge j kk with h3 | h3
     ·
      exact HA.out j h3 hl
     ·
      have h4 : j = kk := by omega
      subst h4
      rw [← HE.out]
      exact HQ.out
  ·
   have hge : decide ((kk : Int) < (l0.length : Int)) = false := decide_eq_false (by omega)
   have hgen : decide (kk < l0.length) = false := decide_eq_false hlt
   go_wp2
   go_ret
   refine ⟨?_, HB.out⟩
   rw [impl_FindPath.ix_miss id l0 0 (fun j hj => HA.out j (by omega) hj)]
   rfl

def impl_FindPath.f (l0 : List S69) (a1 : Int) : Option Int := some (impl_FindPath.ix a1 l0 0)
set_option maxHeartbeats 400000 in
set_option maxRecDepth 100000 in
theorem impl_FindPath.calls (A0 : Option Addr) (c0 : Nat) (l0 : List S69) (a1 : Int) (r : Int) (w : World) (hr0 : Kd.C k69 w A0 l0.length l0) (hc0 : l0.length ≤ c0) (h : impl_FindPath.f l0 a1 = some r) :
  Calls Tryz.prog 83 #[.slice A0 l0.length c0, .int .i64 a1] w fun e w' => e = .returned (.int .i64 r) ∧ Below w.heap.size w w' := by
 obtain rfl := Option.some.inj h
 have HR0 := Aside0.mk hr0
 have HC0 := Aside0.mk hc0
 clear hr0 hc0 h
 go_enter Tryz.func83, Tryz.ntmps83
 go_wp2_with (go_at_call 115; refine (impl_FindPath.idx a1 w.heap.size A0 c0 l0 _ ?s1 HC0.out ?s2).mono ?_; (case s1 => exact Kd.C_alloc HR0.out _); (case s2 => simp); rintro e w1 ⟨rfl, hb1⟩)
 go_ret
 exact ⟨rfl, below_step (below_alloc (Below.refl _ _) _) hb1⟩

/-! ### impl_IsPath: function 114 -/
def impl_IsPath.f (a0_0 : Int) (a0_1 : Int) (a0_2 : Int) (a0_3 : Int) : Option (Bool) := (impl_InRange.f a0_0 1 20).bind fun t329 => (if t329 = true then ((impl_InRange.f a0_1 1 3).bind fun t330 => (if t330 = true then ((impl_InRange.f a0_2 0 3).bind fun t331 => (if t331 = true then ((impl_InRange.f a0_3 0 3).bind fun t332 => (if t332 = true then (some ((a0_2 == a0_3) == (a0_1 == 2))) else (some false))) else (some false))) else (some false))) else (some false))
set_option maxHeartbeats 8000000 in
set_option maxRecDepth 100000 in
theorem impl_IsPath.calls (a0_0 : Int) (a0_1 : Int) (a0_2 : Int) (a0_3 : Int) (r : Bool) (w : World) (h : impl_IsPath.f a0_0 a0_1 a0_2 a0_3 = some r) :
  Calls Tryz.prog 114 #[.agg #[.int .i64 a0_0, .int .i64 a0_1, .int .i64 a0_2, .int .i64 a0_3]] w fun e w' => e = .returned (.bool r) ∧ Below w.heap.size w w' := by
 have hu69 := Tryz.underlying69
 have HB := Aside0.mk (Below.refl w.heap.size w)
 have H : ((impl_InRange.f a0_0 1 20).bind fun t329 => (if t329 = true then ((impl_InRange.f a0_1 1 3).bind fun t330 => (if t330 = true then ((impl_InRange.f a0_2 0 3).bind fun t331 => (if t331 = true then ((impl_InRange.f a0_3 0 3).bind fun t332 => (if t332 = true then (some ((a0_2 == a0_3) == (a0_1 == 2))) else (some false))) else (some false))) else (some false))) else (some false))) = some r := h
 clear h
 obtain ⟨t329, A2, H⟩ := bindE H
 try dsimp only at H
 by_cases c3 : t329 = true
 ·
  subst c3
  have H1 : ((impl_InRange.f a0_1 1 3).bind fun t330 => (if t330 = true then ((impl_InRange.f a0_2 0 3).bind fun t331 => (if t331 = true then ((impl_InRange.f a0_3 0 3).bind fun t332 => (if t332 = true then (some ((a0_2 == a0_3) == (a0_1 == 2))) else (some false))) else (some false))) else (some false))) = some r := by rw [if_pos rfl] at H; exact H
  clear H
  have H := H1
  clear H1
  obtain ⟨t330, A4, H⟩ := bindE H
  try dsimp only at H
  by_cases c5 : t330 = true
  ·
   subst c5
   have H1 : ((impl_InRange.f a0_2 0 3).bind fun t331 => (if t331 = true then ((impl_InRange.f a0_3 0 3).bind fun t332 => (if t332 = true then (some ((a0_2 == a0_3) == (a0_1 == 2))) else (some false))) else (some false))) = some r := by rw [if_pos rfl] at H; exact H
   clear H
   have H := H1
   clear H1
   obtain ⟨t331, A6, H⟩ := bindE H
   try dsimp only at H
   by_cases c7 : t331 = true
   ·
    subst c7
    have H1 : ((impl_InRange.f a0_3 0 3).bind fun t332 => (if t332 = true then (some ((a0_2 == a0_3) == (a0_1 == 2))) else (some false))) = some r := by rw [if_pos rfl] at H; exact H
    clear H
    have H := H1
    clear H1
    obtain ⟨t332, A8, H⟩ := bindE H
    try dsimp only at H
    by_cases c9 : t332 = true
    ·
     subst c9
     have H1 : (some ((a0_2 == a0_3) == (a0_1 == 2))) = some r := by rw [if_pos rfl] at H; exact H
     clear H
     have H := H1
     clear H1
     obtain rfl := Option.some.inj H
     go_enter Tryz.func114, Tryz.ntmps114
     go_wp2_with (first | ((with_reducible refine gate_dst (N := 1) rfl ?_); refine bE (N := 1) (cs := #[.int .i64 a0_0, .int .i64 a0_1, .int .i64 a0_2, .int .i64 a0_3]) (t := 69) ?_; intro gb328 hg w10 hbox hb; have BK328 := Aside0.mk (hbox); have GW328 := gw w hg; have GE328 := gw w hg; replace HB := bs HB hb; clear hb hbox hg; obtain ⟨_, _, _, _, _, _, _, _⟩ := blkc4 BK328) | ((with_reducible refine gate_callee (f := 80) rfl ?_); refine gL (some 5) Tryz.func80 #[.int .i64 a0_0, .int .i64 1, .int .i64 20] ?_; (with_reducible refine (impl_InRange.calls a0_0 1 20 true _ A2.out).mono ?_); rintro e w' ⟨rfl, ⟨nd, rfl⟩⟩; refine ⟨_, rfl, ?_⟩) | (go_at_call 80; (with_reducible refine (impl_InRange.calls a0_1 1 3 true _ A4.out).mono ?_); rintro e w' ⟨rfl, ⟨nd, rfl⟩⟩) | (go_at_call 80; (with_reducible refine (impl_InRange.calls a0_2 0 3 true _ A6.out).mono ?_); rintro e w' ⟨rfl, ⟨nd, rfl⟩⟩) | (go_at_call 80; (with_reducible refine (impl_InRange.calls a0_3 0 3 true _ A8.out).mono ?_); rintro e w' ⟨rfl, ⟨nd, rfl⟩⟩))
     go_ret
     exact ⟨rA, bG⟩
    replace c9 := Bool.eq_false_iff.mpr c9
    subst c9
    have H1 : (some false) = some r := by rw [if_neg (show ¬ (false = true) by decide)] at H; exact H
    clear H
    have H := H1
    clear H1
    obtain rfl := Option.some.inj H
    go_enter Tryz.func114, Tryz.ntmps114
    go_wp2_with (first | ((with_reducible refine gate_dst (N := 1) rfl ?_); refine bE (N := 1) (cs := #[.int .i64 a0_0, .int .i64 a0_1, .int .i64 a0_2, .int .i64 a0_3]) (t := 69) ?_; intro gb328 hg w12 hbox hb; have BK328 := Aside0.mk (hbox); have GW328 := gw w hg; have GE328 := gw w hg; replace HB := bs HB hb; clear hb hbox hg; obtain ⟨_, _, _, _, _, _, _, _⟩ := blkc4 BK328) | ((with_reducible refine gate_callee (f := 80) rfl ?_); refine gL (some 5) Tryz.func80 #[.int .i64 a0_0, .int .i64 1, .int .i64 20] ?_; (with_reducible refine (impl_InRange.calls a0_0 1 20 true _ A2.out).mono ?_); rintro e w' ⟨rfl, ⟨nd, rfl⟩⟩; refine ⟨_, rfl, ?_⟩) | (go_at_call 80; (with_reducible refine (impl_InRange.calls a0_1 1 3 true _ A4.out).mono ?_); rintro e w' ⟨rfl, ⟨nd, rfl⟩⟩) | (go_at_call 80; (with_reducible refine (impl_InRange.calls a0_2 0 3 true _ A6.out).mono ?_); rintro e w' ⟨rfl, ⟨nd, rfl⟩⟩) | (go_at_call 80; (with_reducible refine (impl_InRange.calls a0_3 0 3 false _ A8.out).mono ?_); rintro e w' ⟨rfl, ⟨nd, rfl⟩⟩))
    go_ret
    exact ⟨rA, bG⟩
   replace c7 := Bool.eq_false_iff.mpr c7
   subst c7
   have H1 : (some false) = some r := by rw [if_neg (show ¬ (false = true) by decide)] at H; exact H
   clear H
   have H := H1
   clear H1
   obtain rfl := Option.some.inj H
   go_enter Tryz.func114, Tryz.ntmps114
   go_wp2_with (first | ((with_reducible refine gate_dst (N := 1) rfl ?_); refine bE (N := 1) (cs := #[.int .i64 a0_0, .int .i64 a0_1, .int .i64 a0_2, .int .i64 a0_3]) (t := 69) ?_; intro gb328 hg w14 hbox hb; have BK328 := Aside0.mk (hbox); have GW328 := gw w hg; have GE328 := gw w hg; replace HB := bs HB hb; clear hb hbox hg; obtain ⟨_, _, _, _, _, _, _, _⟩ := blkc4 BK328) | ((with_reducible refine gate_callee (f := 80) rfl ?_); refine gL (some 5) Tryz.func80 #[.int .i64 a0_0, .int .i64 1, .int .i64 20] ?_; (with_reducible refine (impl_InRange.calls a0_0 1 20 true _ A2.out).mono ?_); rintro e w' ⟨rfl, ⟨nd, rfl⟩⟩; refine ⟨_, rfl, ?_⟩) | (go_at_call 80; (with_reducible refine (impl_InRange.calls a0_1 1 3 true _ A4.out).mono ?_); rintro e w' ⟨rfl, ⟨nd, rfl⟩⟩) | (go_at_call 80; (with_reducible refine (impl_InRange.calls a0_2 0 3 false _ A6.out).mono ?_); rintro e w' ⟨rfl, ⟨nd, rfl⟩⟩))
   go_ret
   exact ⟨rA, bG⟩
  replace c5 := Bool.eq_false_iff.mpr c5
  subst c5
  have H1 : (some false) = some r := by rw [if_neg (show ¬ (false = true) by decide)] at H; exact H
  clear H
  have H := H1
  clear H1
  obtain rfl := Option.some.inj H
  go_enter Tryz.func114, Tryz.ntmps114
  go_wp2_with (first | ((with_reducible refine gate_dst (N := 1) rfl ?_); refine bE (N := 1) (cs := #[.int .i64 a0_0, .int .i64 a0_1, .int .i64 a0_2, .int .i64 a0_3]) (t := 69) ?_; intro gb328 hg w16 hbox hb; have BK328 := Aside0.mk (hbox); have GW328 := gw w hg; have GE328 := gw w hg; replace HB := bs HB hb; clear hb hbox hg; obtain ⟨_, _, _, _, _, _, _, _⟩ := blkc4 BK328) | ((with_reducible refine gate_callee (f := 80) rfl ?_); refine gL (some 5) Tryz.func80 #[.int .i64 a0_0, .int .i64 1, .int .i64 20] ?_; (with_reducible refine (impl_InRange.calls a0_0 1 20 true _ A2.out).mono ?_); rintro e w' ⟨rfl, ⟨nd, rfl⟩⟩; refine ⟨_, rfl, ?_⟩) | (go_at_call 80; (with_reducible refine (impl_InRange.calls a0_1 1 3 false _ A4.out).mono ?_); rintro e w' ⟨rfl, ⟨nd, rfl⟩⟩))
  go_ret
  exact ⟨rA, bG⟩
 replace c3 := Bool.eq_false_iff.mpr c3
 subst c3
 have H1 : (some false) = some r := by rw [if_neg (show ¬ (false = true) by decide)] at H; exact H
 clear H
 have H := H1
 clear H1
 obtain rfl := Option.some.inj H
 go_enter Tryz.func114, Tryz.ntmps114
 go_wp2_with (first | ((with_reducible refine gate_dst (N := 1) rfl ?_); refine bE (N := 1) (cs := #[.int .i64 a0_0, .int .i64 a0_1, .int .i64 a0_2, .int .i64 a0_3]) (t := 69) ?_; intro gb328 hg w18 hbox hb; have BK328 := Aside0.mk (hbox); have GW328 := gw w hg; have GE328 := gw w hg; replace HB := bs HB hb; clear hb hbox hg; obtain ⟨_, _, _, _, _, _, _, _⟩ := blkc4 BK328) | ((with_reducible refine gate_callee (f := 80) rfl ?_); refine gL (some 5) Tryz.func80 #[.int .i64 a0_0, .int .i64 1, .int .i64 20] ?_; (with_reducible refine (impl_InRange.calls a0_0 1 20 false _ A2.out).mono ?_); rintro e w' ⟨rfl, ⟨nd, rfl⟩⟩; refine ⟨_, rfl, ?_⟩))
 go_ret
 exact ⟨rA, bG⟩

/-! ### impl_ArePaths: function 82 -/
def impl_ArePaths.l0 : Nat → List (S69) → List (S69) → Int → Int → Option (Bool)
 | 0, _, _, _, _ => none
 | k + 1, x0, x8, x9, x10 => if x10 < x9 then (if 0 ≤ x10 then (if x10 < (x8.length : Int) then ((impl_IsPath.f ((rd_T69 x8 x10).f0) ((rd_T69 x8 x10).f1) ((rd_T69 x8 x10).f2) ((rd_T69 x8 x10).f3)).bind fun t335 => (if t335 = true then (if x10 > 0 then (if 0 ≤ (wrap64 (x10 - 1)) then (if (wrap64 (x10 - 1)) < (x0.length : Int) then (if ((rd_T69 x8 x10).f0) ≤ ((rd_T69 x0 (wrap64 (x10 - 1))).f0) then (some false) else (impl_ArePaths.l0 k x0 x8 x9 (wrap64 (x10 + 1)))) else (none)) else (none)) else (impl_ArePaths.l0 k x0 x8 x9 (wrap64 (x10 + 1)))) else (some false))) else (none)) else (none)) else (some true)
def impl_ArePaths.f (k : Nat) (l0 : List (S69)) : Option (Bool) := if (l0.length : Int) > 12 then (some false) else (impl_ArePaths.l0 k l0 l0 (l0.length : Int) 0)
theorem impl_ArePaths.mono_l : ∀ k, (∀ y0 y1 y2 y3, LeO (impl_ArePaths.l0 k y0 y1 y2 y3) (impl_ArePaths.l0 (k + 1) y0 y1 y2 y3))
 | 0 => fun _ _ _ _ r h => by simp [impl_ArePaths.l0] at h
 | k + 1 => by
  have ih0 := impl_ArePaths.mono_l k
  ·
   intro y0 y1 y2 y3
   unfold impl_ArePaths.l0
   exact mz1 ih0
theorem impl_ArePaths.mono : ∀ a0 k, LeO (impl_ArePaths.f k a0) (impl_ArePaths.f (k + 1) a0) := by
 intro a0 k
 have ih0 := impl_ArePaths.mono_l k
 unfold impl_ArePaths.f
 exact mz1 ih0
def impl_ArePaths.T6 : Bool × List (List Nat × List Nat) := (true, [([], []), ([0], [0]), ([1], [1]), ([2, 1], [2]), ([3], [3]), ([4, 3], [3, 4]), ([5, 3, 3], [3, 5]), ([6], [6]), ([7, 6], [6, 7]), ([6], [6]), ([6], [6]), ([10, 6], [6, 10]), ([9, 11, 6], [6, 9, 11]), ([12, 6], [6, 12]), ([13, 6], [6, 13]), ([8, 14, 6], [6, 8, 14]), ([6, 15, 3], [3, 6, 15]), ([3, 16], [3, 16])])
def impl_ArePaths.B6 : List Nat := [0, 1, 3, 7, 15, 31, 63, 127, 255, 127, 127, 1151, 3711, 7807, 15999, 32767, 65535, 131071]
theorem impl_ArePaths.tab6 : rtab .any (opsOf Tryz.f82 6) = impl_ArePaths.T6 := by kernel_rfl
theorem impl_ArePaths.bits6 : waitsOk impl_ArePaths.T6.2 impl_ArePaths.B6 = true := by kernel_rfl
set_option maxHeartbeats 8000000 in
set_option maxRecDepth 100000 in
theorem impl_ArePaths.calls (k : Nat) (A0 : Option Addr) (c0 : Nat) (l0 : List (S69)) (r : Bool) (w : World) (hr0 : Kd.C k69 w A0 l0.length l0) (hc0 : l0.length ≤ c0) (h : impl_ArePaths.f k l0 = some r) :
  Calls Tryz.prog 82 #[.slice A0 l0.length c0] w fun e w' => e = .returned (.bool r) ∧ Below w.heap.size w w' := by
 have hu69 := Tryz.underlying69
 have HR0 := Aside0.mk hr0
 have HC0 := Aside0.mk hc0
 clear hr0 hc0
 have HB := Aside0.mk (Below.refl w.heap.size w)
 have H : (if (l0.length : Int) > 12 then (some false) else (impl_ArePaths.l0 k l0 l0 (l0.length : Int) 0)) = some r := h
 clear h
 by_cases c2 : (l0.length : Int) > 12
 ·
  rw [if_pos c2] at H
  have c2b0 := decide_eq_true c2
  have c2b1 : decide (12 < l0.length) = true := decide_eq_true (by omega)
  clear c2
  obtain rfl := Option.some.inj H
  go_enter Tryz.func82, Tryz.ntmps82
  go_wp2
  go_ret
  exact ⟨rA, bA⟩
 rw [if_neg c2] at H
 have c2b0 := decide_eq_false c2
 have c2b1 : decide (12 < l0.length) = false := decide_eq_false (by omega)
 clear c2
 have H' := Aside0.mk H
 clear H
 go_enter Tryz.func82, Tryz.ntmps82
 go_wp2
 go_loopg [10] k (fun kq v10 w' => ∃ (x10_1 : Int), v10 = .int .i64 x10_1 ∧ Aside0 (impl_ArePaths.l0 kq l0 l0 (l0.length : Int) x10_1 = some r) ∧ Aside0 (kq ≤ k) ∧ Aside0 (Below w.heap.size w w'))
 case atStart => exact ⟨(0), rS, H', ⟨Nat.le_refl _⟩, ⟨bA⟩⟩
 case round =>
  clear H'
  obtain ⟨x10_1, rfl, HA, HK1, HB⟩ := hrel
  cases gk with
  | zero => exact absurd HA.out (by simp [impl_ArePaths.l0])
  | succ k1 =>
   have H := HA.out
   clear HA
   simp only [impl_ArePaths.l0] at H
   by_cases c3 : x10_1 < (l0.length : Int)
   ·
    rw [if_pos c3] at H
    have c3b0 := decide_eq_true c3
    clear c3
    have c4 : 0 ≤ x10_1 := ifN H
    replace H := ifT H
    have c4b0 := decide_eq_true c4
    clear c4
    have c5 : x10_1 < (l0.length : Int) := ifN H
    replace H := ifT H
    have c5b0 := decide_eq_true c5
    clear c5
    obtain ⟨t335, A6, H⟩ := bindE H
    try dsimp only at H
    by_cases c7 : t335 = true
    ·
     subst c7
     have H1 : (if x10_1 > 0 then (if 0 ≤ (wrap64 (x10_1 - 1)) then (if (wrap64 (x10_1 - 1)) < (l0.length : Int) then (if ((rd_T69 l0 x10_1).f0) ≤ ((rd_T69 l0 (wrap64 (x10_1 - 1))).f0) then (some false) else (impl_ArePaths.l0 k1 l0 l0 (l0.length : Int) (wrap64 (x10_1 + 1)))) else (none)) else (none)) else (impl_ArePaths.l0 k1 l0 l0 (l0.length : Int) (wrap64 (x10_1 + 1)))) = some r := by rw [if_pos rfl] at H; exact H
     clear H
     have H := H1
     clear H1
     by_cases c8 : x10_1 > 0
     ·
      rw [if_pos c8] at H
      have c8b0 := decide_eq_true c8
      clear c8
      obtain ⟨ji9, hji9⟩ : ∃ j_ : Int, (wrap64 (x10_1 - 1)) = j_ := ⟨_, rfl⟩
      replace H : (if 0 ≤ (ji9) then (if (ji9) < (l0.length : Int) then (if ((rd_T69 l0 x10_1).f0) ≤ ((rd_T69 l0 (ji9)).f0) then (some false) else (impl_ArePaths.l0 k1 l0 l0 (l0.length : Int) (wrap64 (x10_1 + 1)))) else (none)) else (none)) = some r := by first | (rw [hji9] at H; exact H) | (simp only [hji9] at H ⊢; exact H)
      (try rw [hji9] at A6)
      have hji9w : (IntKind.i64.wrap (x10_1 - 1)) = ji9 := (i64_w _).trans hji9
      have c10 : 0 ≤ (ji9) := ifN H
      replace H := ifT H
      have c10b0 := decide_eq_true c10
      clear c10
      have c11 : (ji9) < (l0.length : Int) := ifN H
      replace H := ifT H
      have c11b0 := decide_eq_true c11
      clear c11
      by_cases c12 : ((rd_T69 l0 x10_1).f0) ≤ ((rd_T69 l0 (ji9)).f0)
      ·
       rw [if_pos c12] at H
       have c12b0 := decide_eq_true c12
       clear c12
       obtain rfl := Option.some.inj H
       obtain ⟨p333, q333⟩ : 0 ≤ (x10_1 : Int) ∧ x10_1 < (l0.length : Int) := ⟨dA, dA⟩
       obtain ⟨ad333, e333, hx333_0, hx333_1, hx333_2, hx333_3⟩ := at_T69 (Kd.C_below HR0.out HB.out) x10_1 p333 q333
       cases e333
       obtain ⟨p333, q333⟩ := eT p333 q333
       try go_wp2_with (first | ((with_reducible refine gate_dst (N := 4) rfl ?_); refine bE (N := 4) (cs := #[.int .i64 0, .int .i64 0, .int .i64 0, .int .i64 0]) (t := 69) ?_; intro gb334 hg w13 hbox hb; have BK334 := Aside0.mk (hbox); have GW334 := gw w hg; have GE334 := gw w hg; replace HB := bs HB hb; clear hb hbox hg; obtain ⟨_, _, _, _, _, _, _, _⟩ := blkc4 BK334))
       have n0_ : Aside0 (((((w13.setCell ⟨gb334, 0, none⟩ (.int .i64 ((rd_T69 l0 x10_1).f0))).setCell ⟨gb334, 1, none⟩ (.int .i64 ((rd_T69 l0 x10_1).f1))).setCell ⟨gb334, 2, none⟩ (.int .i64 ((rd_T69 l0 x10_1).f2))).setCell ⟨gb334, 3, none⟩ (.int .i64 ((rd_T69 l0 x10_1).f3))).heap[gb334]? = some (.cells #[.int .i64 ((rd_T69 l0 x10_1).f0), .int .i64 ((rd_T69 l0 x10_1).f1), .int .i64 ((rd_T69 l0 x10_1).f2), .int .i64 ((rd_T69 l0 x10_1).f3)] 69 (0, 0))) := ⟨kp BK334⟩
       have n1_ : Aside0 (Below w.heap.size w ((((w13.setCell ⟨gb334, 0, none⟩ (.int .i64 ((rd_T69 l0 x10_1).f0))).setCell ⟨gb334, 1, none⟩ (.int .i64 ((rd_T69 l0 x10_1).f1))).setCell ⟨gb334, 2, none⟩ (.int .i64 ((rd_T69 l0 x10_1).f2))).setCell ⟨gb334, 3, none⟩ (.int .i64 ((rd_T69 l0 x10_1).f3)))) := ⟨bG⟩
       (try clear BK334)
       (try clear HB)
       generalize ((((w13.setCell ⟨gb334, 0, none⟩ (.int .i64 ((rd_T69 l0 x10_1).f0))).setCell ⟨gb334, 1, none⟩ (.int .i64 ((rd_T69 l0 x10_1).f1))).setCell ⟨gb334, 2, none⟩ (.int .i64 ((rd_T69 l0 x10_1).f2))).setCell ⟨gb334, 3, none⟩ (.int .i64 ((rd_T69 l0 x10_1).f3))) = w15 at n0_ n1_ ⊢
       have BK334 := n0_
       have HB := n1_
       clear n0_ n1_
       replace BK334 := dk BK334
       have HBo := HB
       replace HB := db HB
       obtain ⟨p336, q336⟩ : 0 ≤ ((ji9) : Int) ∧ (ji9) < (l0.length : Int) := ⟨dA, dA⟩
       obtain ⟨ad336, e336, hx336_0, hx336_1, hx336_2, hx336_3⟩ := at_T69 HR0.out (ji9) p336 q336
       have hw336_3 := hx336_3
       have hw336_2 := hx336_2
       have hw336_1 := hx336_1
       have hw336_0 := hx336_0
       obtain rfl : ad333 = ad336 := (by injection e336)
       replace hx336_0 := hC HB hx336_0
       replace hx336_1 := hC HB hx336_1
       replace hx336_2 := hC HB hx336_2
       replace hx336_3 := hC HB hx336_3
       obtain ⟨p336, q336⟩ := eT p336 q336
       refine sw (ds := []) 18 (mb 18 0) impl_ArePaths.tab6 impl_ArePaths.bits6 (h4c BK334 (h1c (hC HB hw336_0) (h1c (hC HB hw336_1) (h1c (hC HB hw336_2) (h1 (hC HB hw336_3)))))) (fun hHeld HT_ HW_ => ?_)
       generalize w15.drew = w16 at BK334 HB hx336_0 hx336_1 hx336_2 hx336_3 hHeld ⊢
       refine ta8 0 15 (mb 18 1) HT_ HW_ hHeld ?_
       refine oa 1 16 (mb 18 3) HT_ (fun K hK => ?_)
       refine gA Tryz.func114 #[.agg #[.int .i64 ((rd_T69 l0 x10_1).f0), .int .i64 ((rd_T69 l0 x10_1).f1), .int .i64 ((rd_T69 l0 x10_1).f2), .int .i64 ((rd_T69 l0 x10_1).f3)]] ?_
       with_reducible refine (impl_IsPath.calls ((rd_T69 l0 x10_1).f0) ((rd_T69 l0 x10_1).f1) ((rd_T69 l0 x10_1).f2) ((rd_T69 l0 x10_1).f3) true _ A6.out).mono ?_
       rintro e w17 ⟨rfl, hb⟩
       refine ⟨_, rfl, ?_⟩
       replace BK334 := kb BK334 hb
       replace HB := bs HB hb
       (try clear hb)
       (try clear hb2)
       (try clear hk)
       (try clear hi)
       refine hK.out _ _ (cm4 BK334 ⟨(hC HB hw336_0), (hC HB hw336_1), (hC HB hw336_2), (hC HB hw336_3)⟩) (fun hHeld => ?_)
       clear hK K
       refine nB ?_
       refine pa 2 17 (mb 18 7) HT_ ?_
       refine pa 3 18 (mb 18 15) HT_ ?_
       refine pa 4 19 (mb 18 31) HT_ ?_
       refine pa 5 20 (mb 18 63) HT_ ?_
       refine pa 6 21 (mb 18 127) HT_ ?_
       refine pa 7 22 (mb 18 255) HT_ ?_
       refine pa 9 24 (mb 18 767) HT_ ?_
       refine pa 10 25 (mb 18 1791) HT_ ?_
       refine pa 11 26 (mb 18 3839) HT_ ?_
       refine pa 12 27 (mb 18 7935) HT_ ?_
       refine pa 13 28 (mb 18 16127) HT_ ?_
       refine ta8 8 23 (mb 18 16383) HT_ HW_ hHeld ?_
       refine ta8 14 29 (mb 18 32767) HT_ HW_ hHeld ?_
       refine pa 15 30 (mb 18 65535) HT_ ?_
       refine pa 16 31 (mb 18 131071) HT_ ?_
       refine pa 17 32 (mb 18 262143) HT_ ?_
       refine eA HT_ ?_
       try go_wp2
       go_ret
       exact ⟨by first | rfl | (simp [errW_none, errW_some] <;> rfl) | (simp only [← hji9]; first | rfl | (simp [errW_none, errW_some] <;> rfl)) | (simp [*, errW_none, errW_some] <;> rfl), bG⟩
      rw [if_neg c12] at H
      have c12b0 := decide_eq_false c12
      clear c12
      have H' := Aside0.mk H
      clear H
      obtain ⟨p333, q333⟩ : 0 ≤ (x10_1 : Int) ∧ x10_1 < (l0.length : Int) := ⟨dA, dA⟩
      obtain ⟨ad333, e333, hx333_0, hx333_1, hx333_2, hx333_3⟩ := at_T69 (Kd.C_below HR0.out HB.out) x10_1 p333 q333
      cases e333
      obtain ⟨p333, q333⟩ := eT p333 q333
      try go_wp2_with (first | ((with_reducible refine gate_dst (N := 4) rfl ?_); refine bE (N := 4) (cs := #[.int .i64 0, .int .i64 0, .int .i64 0, .int .i64 0]) (t := 69) ?_; intro gb334 hg w18 hbox hb; have BK334 := Aside0.mk (hbox); have GW334 := gw w hg; have GE334 := gw w hg; replace HB := bs HB hb; clear hb hbox hg; obtain ⟨_, _, _, _, _, _, _, _⟩ := blkc4 BK334))
      have n0_ : Aside0 (((((w18.setCell ⟨gb334, 0, none⟩ (.int .i64 ((rd_T69 l0 x10_1).f0))).setCell ⟨gb334, 1, none⟩ (.int .i64 ((rd_T69 l0 x10_1).f1))).setCell ⟨gb334, 2, none⟩ (.int .i64 ((rd_T69 l0 x10_1).f2))).setCell ⟨gb334, 3, none⟩ (.int .i64 ((rd_T69 l0 x10_1).f3))).heap[gb334]? = some (.cells #[.int .i64 ((rd_T69 l0 x10_1).f0), .int .i64 ((rd_T69 l0 x10_1).f1), .int .i64 ((rd_T69 l0 x10_1).f2), .int .i64 ((rd_T69 l0 x10_1).f3)] 69 (0, 0))) := ⟨kp BK334⟩
      have n1_ : Aside0 (Below w.heap.size w ((((w18.setCell ⟨gb334, 0, none⟩ (.int .i64 ((rd_T69 l0 x10_1).f0))).setCell ⟨gb334, 1, none⟩ (.int .i64 ((rd_T69 l0 x10_1).f1))).setCell ⟨gb334, 2, none⟩ (.int .i64 ((rd_T69 l0 x10_1).f2))).setCell ⟨gb334, 3, none⟩ (.int .i64 ((rd_T69 l0 x10_1).f3)))) := ⟨bG⟩
      (try clear BK334)
      (try clear HB)
      generalize ((((w18.setCell ⟨gb334, 0, none⟩ (.int .i64 ((rd_T69 l0 x10_1).f0))).setCell ⟨gb334, 1, none⟩ (.int .i64 ((rd_T69 l0 x10_1).f1))).setCell ⟨gb334, 2, none⟩ (.int .i64 ((rd_T69 l0 x10_1).f2))).setCell ⟨gb334, 3, none⟩ (.int .i64 ((rd_T69 l0 x10_1).f3))) = w20 at n0_ n1_ ⊢
      have BK334 := n0_
      have HB := n1_
      clear n0_ n1_
      replace BK334 := dk BK334
      have HBo := HB
      replace HB := db HB
      obtain ⟨p336, q336⟩ : 0 ≤ ((ji9) : Int) ∧ (ji9) < (l0.length : Int) := ⟨dA, dA⟩
      obtain ⟨ad336, e336, hx336_0, hx336_1, hx336_2, hx336_3⟩ := at_T69 HR0.out (ji9) p336 q336
      have hw336_3 := hx336_3
      have hw336_2 := hx336_2
      have hw336_1 := hx336_1
      have hw336_0 := hx336_0
      obtain rfl : ad333 = ad336 := (by injection e336)
      replace hx336_0 := hC HB hx336_0
      replace hx336_1 := hC HB hx336_1
      replace hx336_2 := hC HB hx336_2
      replace hx336_3 := hC HB hx336_3
      obtain ⟨p336, q336⟩ := eT p336 q336
      refine sw (ds := []) 18 (mb 18 0) impl_ArePaths.tab6 impl_ArePaths.bits6 (h4c BK334 (h1c (hC HB hw336_0) (h1c (hC HB hw336_1) (h1c (hC HB hw336_2) (h1 (hC HB hw336_3)))))) (fun hHeld HT_ HW_ => ?_)
      generalize w20.drew = w21 at BK334 HB hx336_0 hx336_1 hx336_2 hx336_3 hHeld ⊢
      refine ta8 0 15 (mb 18 1) HT_ HW_ hHeld ?_
      refine oa 1 16 (mb 18 3) HT_ (fun K hK => ?_)
      refine gA Tryz.func114 #[.agg #[.int .i64 ((rd_T69 l0 x10_1).f0), .int .i64 ((rd_T69 l0 x10_1).f1), .int .i64 ((rd_T69 l0 x10_1).f2), .int .i64 ((rd_T69 l0 x10_1).f3)]] ?_
      with_reducible refine (impl_IsPath.calls ((rd_T69 l0 x10_1).f0) ((rd_T69 l0 x10_1).f1) ((rd_T69 l0 x10_1).f2) ((rd_T69 l0 x10_1).f3) true _ A6.out).mono ?_
      rintro e w22 ⟨rfl, hb⟩
      refine ⟨_, rfl, ?_⟩
      replace BK334 := kb BK334 hb
      replace HB := bs HB hb
      (try clear hb)
      (try clear hb2)
      (try clear hk)
      (try clear hi)
      refine hK.out _ _ (cm4 BK334 ⟨(hC HB hw336_0), (hC HB hw336_1), (hC HB hw336_2), (hC HB hw336_3)⟩) (fun hHeld => ?_)
      clear hK K
      refine nB ?_
      refine pa 2 17 (mb 18 7) HT_ ?_
      refine pa 3 18 (mb 18 15) HT_ ?_
      refine pa 4 19 (mb 18 31) HT_ ?_
      refine pa 5 20 (mb 18 63) HT_ ?_
      refine pa 6 21 (mb 18 127) HT_ ?_
      refine pa 7 22 (mb 18 255) HT_ ?_
      refine pa 9 24 (mb 18 767) HT_ ?_
      refine pa 10 25 (mb 18 1791) HT_ ?_
      refine pa 11 26 (mb 18 3839) HT_ ?_
      refine pa 12 27 (mb 18 7935) HT_ ?_
      refine pa 13 28 (mb 18 16127) HT_ ?_
      refine ta8 8 23 (mb 18 16383) HT_ HW_ hHeld ?_
      refine ta8 14 29 (mb 18 32767) HT_ HW_ hHeld ?_
      refine pa 15 30 (mb 18 65535) HT_ ?_
      refine pa 16 31 (mb 18 131071) HT_ ?_
      refine pa 17 32 (mb 18 262143) HT_ ?_
      refine eA HT_ ?_
      try go_wp2
      go_roundg k1
      case measure => have := HK1.out; omega
      case rel => exact ⟨(wrap64 (x10_1 + 1)), rS, H', ⟨by have := HK1.out; omega⟩, ⟨bG⟩⟩
     rw [if_neg c8] at H
     have c8b0 := decide_eq_false c8
     clear c8
     have H' := Aside0.mk H
     clear H
     obtain ⟨p333, q333⟩ : 0 ≤ (x10_1 : Int) ∧ x10_1 < (l0.length : Int) := ⟨dA, dA⟩
     obtain ⟨ad333, e333, hx333_0, hx333_1, hx333_2, hx333_3⟩ := at_T69 (Kd.C_below HR0.out HB.out) x10_1 p333 q333
     cases e333
     obtain ⟨p333, q333⟩ := eT p333 q333
     try go_wp2_with (first | ((with_reducible refine gate_dst (N := 4) rfl ?_); refine bE (N := 4) (cs := #[.int .i64 0, .int .i64 0, .int .i64 0, .int .i64 0]) (t := 69) ?_; intro gb334 hg w23 hbox hb; have BK334 := Aside0.mk (hbox); have GW334 := gw w hg; have GE334 := gw w hg; replace HB := bs HB hb; clear hb hbox hg; obtain ⟨_, _, _, _, _, _, _, _⟩ := blkc4 BK334))
     have n0_ : Aside0 (((((w23.setCell ⟨gb334, 0, none⟩ (.int .i64 ((rd_T69 l0 x10_1).f0))).setCell ⟨gb334, 1, none⟩ (.int .i64 ((rd_T69 l0 x10_1).f1))).setCell ⟨gb334, 2, none⟩ (.int .i64 ((rd_T69 l0 x10_1).f2))).setCell ⟨gb334, 3, none⟩ (.int .i64 ((rd_T69 l0 x10_1).f3))).heap[gb334]? = some (.cells #[.int .i64 ((rd_T69 l0 x10_1).f0), .int .i64 ((rd_T69 l0 x10_1).f1), .int .i64 ((rd_T69 l0 x10_1).f2), .int .i64 ((rd_T69 l0 x10_1).f3)] 69 (0, 0))) := ⟨kp BK334⟩
     have n1_ : Aside0 (Below w.heap.size w ((((w23.setCell ⟨gb334, 0, none⟩ (.int .i64 ((rd_T69 l0 x10_1).f0))).setCell ⟨gb334, 1, none⟩ (.int .i64 ((rd_T69 l0 x10_1).f1))).setCell ⟨gb334, 2, none⟩ (.int .i64 ((rd_T69 l0 x10_1).f2))).setCell ⟨gb334, 3, none⟩ (.int .i64 ((rd_T69 l0 x10_1).f3)))) := ⟨bG⟩
     (try clear BK334)
     (try clear HB)
     generalize ((((w23.setCell ⟨gb334, 0, none⟩ (.int .i64 ((rd_T69 l0 x10_1).f0))).setCell ⟨gb334, 1, none⟩ (.int .i64 ((rd_T69 l0 x10_1).f1))).setCell ⟨gb334, 2, none⟩ (.int .i64 ((rd_T69 l0 x10_1).f2))).setCell ⟨gb334, 3, none⟩ (.int .i64 ((rd_T69 l0 x10_1).f3))) = w25 at n0_ n1_ ⊢
     have BK334 := n0_
     have HB := n1_
     clear n0_ n1_
     replace BK334 := dk BK334
     have HBo := HB
     replace HB := db HB
     refine sw (ds := []) 18 (mb 18 0) impl_ArePaths.tab6 impl_ArePaths.bits6 (h4 BK334) (fun hHeld HT_ HW_ => ?_)
     generalize w25.drew = w26 at BK334 HB hHeld ⊢
     refine ta4 0 15 (mb 18 1) HT_ HW_ hHeld ?_
     refine oa 1 16 (mb 18 3) HT_ (fun K hK => ?_)
     refine gA Tryz.func114 #[.agg #[.int .i64 ((rd_T69 l0 x10_1).f0), .int .i64 ((rd_T69 l0 x10_1).f1), .int .i64 ((rd_T69 l0 x10_1).f2), .int .i64 ((rd_T69 l0 x10_1).f3)]] ?_
     with_reducible refine (impl_IsPath.calls ((rd_T69 l0 x10_1).f0) ((rd_T69 l0 x10_1).f1) ((rd_T69 l0 x10_1).f2) ((rd_T69 l0 x10_1).f3) true _ A6.out).mono ?_
     rintro e w27 ⟨rfl, hb⟩
     refine ⟨_, rfl, ?_⟩
     replace BK334 := kb BK334 hb
     replace HB := bs HB hb
     (try clear hb)
     (try clear hb2)
     (try clear hk)
     (try clear hi)
     refine hK.out _ _ (cn4 BK334) (fun hHeld => ?_)
     clear hK K
     refine nB ?_
     refine pa 2 17 (mb 18 7) HT_ ?_
     refine pa 3 18 (mb 18 15) HT_ ?_
     refine pa 4 19 (mb 18 31) HT_ ?_
     refine pa 5 20 (mb 18 63) HT_ ?_
     refine pa 6 21 (mb 18 127) HT_ ?_
     refine pu 7 22 (mb 18 255) HT_ ?_
     refine pu 8 23 (mb 18 511) HT_ ?_
     refine pu 9 24 (mb 18 1023) HT_ ?_
     refine pu 10 25 (mb 18 2047) HT_ ?_
     refine pu 11 26 (mb 18 4095) HT_ ?_
     refine pu 12 27 (mb 18 8191) HT_ ?_
     refine pu 13 28 (mb 18 16383) HT_ ?_
     refine pu 14 29 (mb 18 32767) HT_ ?_
     refine pu 15 30 (mb 18 65535) HT_ ?_
     refine pa 16 31 (mb 18 131071) HT_ ?_
     refine pa 17 32 (mb 18 262143) HT_ ?_
     refine eA HT_ ?_
     try go_wp2
     go_roundg k1
     case measure => have := HK1.out; omega
     case rel => exact ⟨(wrap64 (x10_1 + 1)), rS, H', ⟨by have := HK1.out; omega⟩, ⟨bG⟩⟩
    replace c7 := Bool.eq_false_iff.mpr c7
    subst c7
    have H1 : (some false) = some r := by rw [if_neg (show ¬ (false = true) by decide)] at H; exact H
    clear H
    have H := H1
    clear H1
    obtain rfl := Option.some.inj H
    obtain ⟨p333, q333⟩ : 0 ≤ (x10_1 : Int) ∧ x10_1 < (l0.length : Int) := ⟨dA, dA⟩
    obtain ⟨ad333, e333, hx333_0, hx333_1, hx333_2, hx333_3⟩ := at_T69 (Kd.C_below HR0.out HB.out) x10_1 p333 q333
    cases e333
    obtain ⟨p333, q333⟩ := eT p333 q333
    try go_wp2_with (first | ((with_reducible refine gate_dst (N := 4) rfl ?_); refine bE (N := 4) (cs := #[.int .i64 0, .int .i64 0, .int .i64 0, .int .i64 0]) (t := 69) ?_; intro gb334 hg w28 hbox hb; have BK334 := Aside0.mk (hbox); have GW334 := gw w hg; have GE334 := gw w hg; replace HB := bs HB hb; clear hb hbox hg; obtain ⟨_, _, _, _, _, _, _, _⟩ := blkc4 BK334))
    have n0_ : Aside0 (((((w28.setCell ⟨gb334, 0, none⟩ (.int .i64 ((rd_T69 l0 x10_1).f0))).setCell ⟨gb334, 1, none⟩ (.int .i64 ((rd_T69 l0 x10_1).f1))).setCell ⟨gb334, 2, none⟩ (.int .i64 ((rd_T69 l0 x10_1).f2))).setCell ⟨gb334, 3, none⟩ (.int .i64 ((rd_T69 l0 x10_1).f3))).heap[gb334]? = some (.cells #[.int .i64 ((rd_T69 l0 x10_1).f0), .int .i64 ((rd_T69 l0 x10_1).f1), .int .i64 ((rd_T69 l0 x10_1).f2), .int .i64 ((rd_T69 l0 x10_1).f3)] 69 (0, 0))) := ⟨kp BK334⟩
    have n1_ : Aside0 (Below w.heap.size w ((((w28.setCell ⟨gb334, 0, none⟩ (.int .i64 ((rd_T69 l0 x10_1).f0))).setCell ⟨gb334, 1, none⟩ (.int .i64 ((rd_T69 l0 x10_1).f1))).setCell ⟨gb334, 2, none⟩ (.int .i64 ((rd_T69 l0 x10_1).f2))).setCell ⟨gb334, 3, none⟩ (.int .i64 ((rd_T69 l0 x10_1).f3)))) := ⟨bG⟩
    (try clear BK334)
    (try clear HB)
    generalize ((((w28.setCell ⟨gb334, 0, none⟩ (.int .i64 ((rd_T69 l0 x10_1).f0))).setCell ⟨gb334, 1, none⟩ (.int .i64 ((rd_T69 l0 x10_1).f1))).setCell ⟨gb334, 2, none⟩ (.int .i64 ((rd_T69 l0 x10_1).f2))).setCell ⟨gb334, 3, none⟩ (.int .i64 ((rd_T69 l0 x10_1).f3))) = w30 at n0_ n1_ ⊢
    have BK334 := n0_
    have HB := n1_
    clear n0_ n1_
    replace BK334 := dk BK334
    have HBo := HB
    replace HB := db HB
    refine sw (ds := []) 18 (mb 18 0) impl_ArePaths.tab6 impl_ArePaths.bits6 (h4 BK334) (fun hHeld HT_ HW_ => ?_)
    generalize w30.drew = w31 at BK334 HB hHeld ⊢
    refine ta4 0 15 (mb 18 1) HT_ HW_ hHeld ?_
    refine oa 1 16 (mb 18 3) HT_ (fun K hK => ?_)
    refine gA Tryz.func114 #[.agg #[.int .i64 ((rd_T69 l0 x10_1).f0), .int .i64 ((rd_T69 l0 x10_1).f1), .int .i64 ((rd_T69 l0 x10_1).f2), .int .i64 ((rd_T69 l0 x10_1).f3)]] ?_
    with_reducible refine (impl_IsPath.calls ((rd_T69 l0 x10_1).f0) ((rd_T69 l0 x10_1).f1) ((rd_T69 l0 x10_1).f2) ((rd_T69 l0 x10_1).f3) false _ A6.out).mono ?_
    rintro e w32 ⟨rfl, hb⟩
    refine ⟨_, rfl, ?_⟩
    replace BK334 := kb BK334 hb
    replace HB := bs HB hb
    (try clear hb)
    (try clear hb2)
    (try clear hk)
    (try clear hi)
    refine hK.out _ _ (cn4 BK334) (fun hHeld => ?_)
    clear hK K
    refine nB ?_
    refine pa 2 17 (mb 18 7) HT_ ?_
    refine pa 3 18 (mb 18 15) HT_ ?_
    refine pu 4 19 (mb 18 31) HT_ ?_
    refine pu 5 20 (mb 18 63) HT_ ?_
    refine pu 6 21 (mb 18 127) HT_ ?_
    refine pu 7 22 (mb 18 255) HT_ ?_
    refine pu 8 23 (mb 18 511) HT_ ?_
    refine pu 9 24 (mb 18 1023) HT_ ?_
    refine pu 10 25 (mb 18 2047) HT_ ?_
    refine pu 11 26 (mb 18 4095) HT_ ?_
    refine pu 12 27 (mb 18 8191) HT_ ?_
    refine pu 13 28 (mb 18 16383) HT_ ?_
    refine pu 14 29 (mb 18 32767) HT_ ?_
    refine pu 15 30 (mb 18 65535) HT_ ?_
    refine pu 16 31 (mb 18 131071) HT_ ?_
    refine pa 17 32 (mb 18 262143) HT_ ?_
    refine eA HT_ ?_
    try go_wp2
    go_ret
    exact ⟨rA, bG⟩
   rw [if_neg c3] at H
   have c3b0 := decide_eq_false c3
   clear c3
   obtain rfl := Option.some.inj H
   go_wp2
   go_ret
   exact ⟨rA, bA⟩

/-! ### impl_Interleave: function 137 -/
def impl_Interleave.l0 : Nat → Int → Int → Int → Int → List Int → Int → Int → Option (Bool)
 | 0, _, _, _, _, _, _, _ => none
 | k + 1, x0, x1, x2, x3, x16, x17, x18 => if x18 < x17 then (if 0 ≤ x18 then (if x18 < (x16.length : Int) then ((impl_InRange.f (rd x16 x18) 0 7).bind fun t341 => (if t341 = true then (impl_Interleave.l0 k x0 x1 x2 x3 x16 x17 (wrap64 (x18 + 1))) else (some false))) else (none)) else (none)) else (if x0 = x1 then (some false) else (if x0 = x2 then (some false) else (if x0 = x3 then (some false) else (if x1 = x2 then (some false) else (if x1 = x3 then (some false) else (if x2 = x3 then (some false) else (some ((decide ((Int.tmod (wrap64 ((wrap64 (x2 - x0)) + 8)) 8) < (Int.tmod (wrap64 ((wrap64 (x1 - x0)) + 8)) 8))) != (decide ((Int.tmod (wrap64 ((wrap64 (x3 - x0)) + 8)) 8) < (Int.tmod (wrap64 ((wrap64 (x1 - x0)) + 8)) 8)))))))))))
def impl_Interleave.f (k : Nat) (a0 : Int) (a1 : Int) (a2 : Int) (a3 : Int) : Option (Bool) := (some (([a0, a1, a2, a3] : List Int) : List Int)).bind fun y337 => (impl_Interleave.l0 k a0 a1 a2 a3 y337 (y337.length : Int) 0)
theorem impl_Interleave.mono_l : ∀ k, (∀ y0 y1 y2 y3 y4 y5 y6, LeO (impl_Interleave.l0 k y0 y1 y2 y3 y4 y5 y6) (impl_Interleave.l0 (k + 1) y0 y1 y2 y3 y4 y5 y6))
 | 0 => fun _ _ _ _ _ _ _ r h => by simp [impl_Interleave.l0] at h
 | k + 1 => by
  have ih0 := impl_Interleave.mono_l k
  ·
   intro y0 y1 y2 y3 y4 y5 y6
   unfold impl_Interleave.l0
   exact mz1 ih0
theorem impl_Interleave.mono : ∀ a0 a1 a2 a3 k, LeO (impl_Interleave.f k a0 a1 a2 a3) (impl_Interleave.f (k + 1) a0 a1 a2 a3) := by
 intro a0 a1 a2 a3 k
 have ih0 := impl_Interleave.mono_l k
 unfold impl_Interleave.f
 exact mz1 ih0
set_option maxHeartbeats 8000000 in
set_option maxRecDepth 100000 in
theorem impl_Interleave.calls (k : Nat) (a0 : Int) (a1 : Int) (a2 : Int) (a3 : Int) (r : Bool) (w : World) (h : impl_Interleave.f k a0 a1 a2 a3 = some r) :
  Calls Tryz.prog 137 #[.int .i64 a0, .int .i64 a1, .int .i64 a2, .int .i64 a3] w fun e w' => e = .returned (.bool r) ∧ Below w.heap.size w w' := by
 have HB := Aside0.mk (Below.refl w.heap.size w)
 have H : ((some (([a0, a1, a2, a3] : List Int) : List Int)).bind fun y337 => (impl_Interleave.l0 k a0 a1 a2 a3 y337 (y337.length : Int) 0)) = some r := h
 clear h
 obtain ⟨y337, hy337⟩ : ∃ y_ : List Int, y_ = (([a0, a1, a2, a3] : List Int)) := ⟨_, rfl⟩
 replace H : (impl_Interleave.l0 k a0 a1 a2 a3 y337 (y337.length : Int) 0) = some r := rH H hy337
 have Ny337 := Aside0.mk hy337
 clear hy337
 have H' := Aside0.mk H
 clear H
 go_enter Tryz.func137, Tryz.ntmps137
 go_wp2_with (first | ((with_reducible refine gate_dst (N := 16) rfl ?_); refine Kd.R_lit (Kd.int .i64) _ 3 ?hg (N := 16) ?hd (xs := ([a0, a1, a2, a3] : List Int)) (inner := [.int .i64 a0, .int .i64 a1, .int .i64 a2, .int .i64 a3]) (ok := fun _ => True) (okp := fun _ => True) ?hr ?hp (fun _ hk => hk) trivial (Below.refl _ _) (Nat.le_refl _) (by simp) ?_; (case hd => rfl); (case hg => rfl); (case hr => first | (go_simp; done) | (go_simp; rfl)); (case hp => exact (Reps.one (show Kd.M (Kd.int .i64) _ _ _ a0 [.int .i64 a0] from rfl) (Reps.one (show Kd.M (Kd.int .i64) _ _ _ a1 [.int .i64 a1] from rfl) (Reps.one (show Kd.M (Kd.int .i64) _ _ _ a2 [.int .i64 a2] from rfl) (Reps.one (show Kd.M (Kd.int .i64) _ _ _ a3 [.int .i64 a3] from rfl) (Reps.none _ _)))))); intro v338 w5 ho6 hb hg_ hnew_; clear hg_ hnew_; (first | rw [← Ny337.out] at ho6 | (simp only [Int.reduceToNat] at ho6; rw [← Ny337.out] at ho6)); have HO339 := rl w ho6; replace HB := bs HB hb; clear hb ho6; obtain ⟨Ao7, co7, eo7⟩ := Kd.R_slice HO339.out; subst eo7))
 go_loopg [18] k (fun kq v18 w' => ∃ (x18_1 : Int), v18 = .int .i64 x18_1 ∧ Aside0 (impl_Interleave.l0 kq a0 a1 a2 a3 y337 (y337.length : Int) x18_1 = some r) ∧ Aside0 (kq ≤ k) ∧ Aside0 (Kd.R (Kd.int .i64) 3 w' w.heap.size (fun _ => True) (.slice Ao7 y337.length co7) y337) ∧ Aside0 (Below w.heap.size w w'))
 case atStart => exact ⟨(0), rS, H', ⟨Nat.le_refl _⟩, ⟨rK HO339⟩, ⟨bA⟩⟩
 case round =>
  clear H'
  obtain ⟨x18_1, rfl, HA, HK1, HO_16, HB⟩ := hrel
  cases gk with
  | zero => exact absurd HA.out (by simp [impl_Interleave.l0])
  | succ k1 =>
   have H := HA.out
   clear HA
   simp only [impl_Interleave.l0] at H
   by_cases c8 : x18_1 < (y337.length : Int)
   ·
    rw [if_pos c8] at H
    have c8b0 := decide_eq_true c8
    clear c8
    have c9 : 0 ≤ x18_1 := ifN H
    replace H := ifT H
    have c9b0 := decide_eq_true c9
    clear c9
    have c10 : x18_1 < (y337.length : Int) := ifN H
    replace H := ifT H
    have c10b0 := decide_eq_true c10
    clear c10
    obtain ⟨t341, A11, H⟩ := bindE H
    try dsimp only at H
    by_cases c12 : t341 = true
    ·
     subst c12
     have H1 : (impl_Interleave.l0 k1 a0 a1 a2 a3 y337 (y337.length : Int) (wrap64 (x18_1 + 1))) = some r := by rw [if_pos rfl] at H; exact H
     clear H
     have H := H1
     clear H1
     have H' := Aside0.mk H
     clear H
     obtain ⟨p340, q340⟩ : 0 ≤ (x18_1 : Int) ∧ x18_1 < (y337.length : Int) := ⟨dA, dA⟩
     obtain ⟨ad340, e340, hx340_0⟩ := Kd.at_int (Kd.R_reads' HO_16.out).2.2 x18_1 p340 q340
     cases e340
     obtain ⟨p340, q340⟩ := eT p340 q340
     go_wp2_with (first | ((with_reducible refine gate_callee (f := 80) rfl ?_); refine gL (some 23) Tryz.func80 #[.int .i64 (rd y337 x18_1), .int .i64 0, .int .i64 7] ?_; (with_reducible refine (impl_InRange.calls (rd y337 x18_1) 0 7 true _ A11.out).mono ?_); rintro e w' ⟨rfl, ⟨nd, rfl⟩⟩; refine ⟨_, rfl, ?_⟩))
     go_roundg k1
     case measure => have := HK1.out; omega
     case rel => exact ⟨(wrap64 (x18_1 + 1)), rS, H', ⟨by have := HK1.out; omega⟩, ⟨rK HO_16⟩, ⟨bA⟩⟩
    replace c12 := Bool.eq_false_iff.mpr c12
    subst c12
    have H1 : (some false) = some r := by rw [if_neg (show ¬ (false = true) by decide)] at H; exact H
    clear H
    have H := H1
    clear H1
    obtain rfl := Option.some.inj H
    obtain ⟨p340, q340⟩ : 0 ≤ (x18_1 : Int) ∧ x18_1 < (y337.length : Int) := ⟨dA, dA⟩
    obtain ⟨ad340, e340, hx340_0⟩ := Kd.at_int (Kd.R_reads' HO_16.out).2.2 x18_1 p340 q340
    cases e340
    obtain ⟨p340, q340⟩ := eT p340 q340
    go_wp2_with (first | ((with_reducible refine gate_callee (f := 80) rfl ?_); refine gL (some 23) Tryz.func80 #[.int .i64 (rd y337 x18_1), .int .i64 0, .int .i64 7] ?_; (with_reducible refine (impl_InRange.calls (rd y337 x18_1) 0 7 false _ A11.out).mono ?_); rintro e w' ⟨rfl, ⟨nd, rfl⟩⟩; refine ⟨_, rfl, ?_⟩))
    go_ret
    exact ⟨rA, bA⟩
   rw [if_neg c8] at H
   have c8b0 := decide_eq_false c8
   clear c8
   by_cases c13 : a0 = a1
   ·
    rw [if_pos c13] at H
    have c13b0 : (a0 == a1) = true := beq_iff_eq.mpr c13
    have c13b1 : (a0 != a1) = false := bne_eq_false_iff_eq.mpr c13
    clear c13
    obtain rfl := Option.some.inj H
    go_wp2
    go_ret
    exact ⟨rA, bA⟩
   rw [if_neg c13] at H
   have c13b0 : (a0 == a1) = false := beq_eq_false_iff_ne.mpr c13
   have c13b1 : (a0 != a1) = true := bne_iff_ne.mpr c13
   by_cases c14 : a0 = a2
   ·
    rw [if_pos c14] at H
    have c14b0 : (a0 == a2) = true := beq_iff_eq.mpr c14
    have c14b1 : (a0 != a2) = false := bne_eq_false_iff_eq.mpr c14
    clear c14
    obtain rfl := Option.some.inj H
    go_wp2
    go_ret
    exact ⟨rA, bA⟩
   rw [if_neg c14] at H
   have c14b0 : (a0 == a2) = false := beq_eq_false_iff_ne.mpr c14
   have c14b1 : (a0 != a2) = true := bne_iff_ne.mpr c14
   by_cases c15 : a0 = a3
   ·
    rw [if_pos c15] at H
    have c15b0 : (a0 == a3) = true := beq_iff_eq.mpr c15
    have c15b1 : (a0 != a3) = false := bne_eq_false_iff_eq.mpr c15
    clear c15
    obtain rfl := Option.some.inj H
    go_wp2
    go_ret
    exact ⟨rA, bA⟩
   rw [if_neg c15] at H
   have c15b0 : (a0 == a3) = false := beq_eq_false_iff_ne.mpr c15
   have c15b1 : (a0 != a3) = true := bne_iff_ne.mpr c15
   by_cases c16 : a1 = a2
   ·
    rw [if_pos c16] at H
    have c16b0 : (a1 == a2) = true := beq_iff_eq.mpr c16
    have c16b1 : (a1 != a2) = false := bne_eq_false_iff_eq.mpr c16
    clear c16
    obtain rfl := Option.some.inj H
    go_wp2
    go_ret
    exact ⟨rA, bA⟩
   rw [if_neg c16] at H
   have c16b0 : (a1 == a2) = false := beq_eq_false_iff_ne.mpr c16
   have c16b1 : (a1 != a2) = true := bne_iff_ne.mpr c16
   by_cases c17 : a1 = a3
   ·
    rw [if_pos c17] at H
    have c17b0 : (a1 == a3) = true := beq_iff_eq.mpr c17
    have c17b1 : (a1 != a3) = false := bne_eq_false_iff_eq.mpr c17
    clear c17
    obtain rfl := Option.some.inj H
    go_wp2
    go_ret
    exact ⟨rA, bA⟩
   rw [if_neg c17] at H
   have c17b0 : (a1 == a3) = false := beq_eq_false_iff_ne.mpr c17
   have c17b1 : (a1 != a3) = true := bne_iff_ne.mpr c17
   by_cases c18 : a2 = a3
   ·
    rw [if_pos c18] at H
    have c18b0 : (a2 == a3) = true := beq_iff_eq.mpr c18
    have c18b1 : (a2 != a3) = false := bne_eq_false_iff_eq.mpr c18
    clear c18
    obtain rfl := Option.some.inj H
    go_wp2
    go_ret
    exact ⟨rA, bA⟩
   rw [if_neg c18] at H
   have c18b0 : (a2 == a3) = false := beq_eq_false_iff_ne.mpr c18
   have c18b1 : (a2 != a3) = true := bne_iff_ne.mpr c18
   obtain rfl := Option.some.inj H
   go_wp2
   go_ret
   exact ⟨rA, bA⟩

/-! ### impl_InPlace: function 138 -/
def impl_InPlace.f (a0 : Int) : Option (Int) := (impl_InRange.f a0 0 3).bind fun t342 => (if t342 = true then (some (wrap64 (2 * a0))) else (some (-1)))
set_option maxHeartbeats 8000000 in
set_option maxRecDepth 100000 in
theorem impl_InPlace.calls (a0 : Int) (r : Int) (w : World) (h : impl_InPlace.f a0 = some r) :
  Calls Tryz.prog 138 #[.int .i64 a0] w fun e w' => e = .returned (.int .i64 r) ∧ Drawn0 w w' := by
 have H : ((impl_InRange.f a0 0 3).bind fun t342 => (if t342 = true then (some (wrap64 (2 * a0))) else (some (-1)))) = some r := h
 clear h
 obtain ⟨t342, A2, H⟩ := bindE H
 try dsimp only at H
 by_cases c3 : t342 = true
 ·
  subst c3
  have H1 : (some (wrap64 (2 * a0))) = some r := by rw [if_pos rfl] at H; exact H
  clear H
  have H := H1
  clear H1
  obtain rfl := Option.some.inj H
  go_enter Tryz.func138, Tryz.ntmps138
  go_wp2_with (first | ((with_reducible refine gate_callee (f := 80) rfl ?_); refine gL (some 4) Tryz.func80 #[.int .i64 a0, .int .i64 0, .int .i64 3] ?_; (with_reducible refine (impl_InRange.calls a0 0 3 true _ A2.out).mono ?_); rintro e w' ⟨rfl, ⟨nd, rfl⟩⟩; refine ⟨_, rfl, ?_⟩))
  go_ret
  exact ⟨rS, dD⟩
 replace c3 := Bool.eq_false_iff.mpr c3
 subst c3
 have H1 : (some (-1)) = some r := by rw [if_neg (show ¬ (false = true) by decide)] at H; exact H
 clear H
 have H := H1
 clear H1
 obtain rfl := Option.some.inj H
 go_enter Tryz.func138, Tryz.ntmps138
 go_wp2_with (first | ((with_reducible refine gate_callee (f := 80) rfl ?_); refine gL (some 4) Tryz.func80 #[.int .i64 a0, .int .i64 0, .int .i64 3] ?_; (with_reducible refine (impl_InRange.calls a0 0 3 false _ A2.out).mono ?_); rintro e w' ⟨rfl, ⟨nd, rfl⟩⟩; refine ⟨_, rfl, ?_⟩))
 go_ret
 exact ⟨rS, dD⟩

/-! ### impl_OutPlace: function 139 -/
def impl_OutPlace.f (a0 : Int) : Option (Int) := (impl_InRange.f a0 0 3).bind fun t343 => (if t343 = true then (some (wrap64 ((wrap64 (2 * a0)) + 1))) else (some (-1)))
set_option maxHeartbeats 8000000 in
set_option maxRecDepth 100000 in
theorem impl_OutPlace.calls (a0 : Int) (r : Int) (w : World) (h : impl_OutPlace.f a0 = some r) :
  Calls Tryz.prog 139 #[.int .i64 a0] w fun e w' => e = .returned (.int .i64 r) ∧ Drawn0 w w' := by
 have H : ((impl_InRange.f a0 0 3).bind fun t343 => (if t343 = true then (some (wrap64 ((wrap64 (2 * a0)) + 1))) else (some (-1)))) = some r := h
 clear h
 obtain ⟨t343, A2, H⟩ := bindE H
 try dsimp only at H
 by_cases c3 : t343 = true
 ·
  subst c3
  have H1 : (some (wrap64 ((wrap64 (2 * a0)) + 1))) = some r := by rw [if_pos rfl] at H; exact H
  clear H
  have H := H1
  clear H1
  obtain rfl := Option.some.inj H
  go_enter Tryz.func139, Tryz.ntmps139
  go_wp2_with (first | ((with_reducible refine gate_callee (f := 80) rfl ?_); refine gL (some 4) Tryz.func80 #[.int .i64 a0, .int .i64 0, .int .i64 3] ?_; (with_reducible refine (impl_InRange.calls a0 0 3 true _ A2.out).mono ?_); rintro e w' ⟨rfl, ⟨nd, rfl⟩⟩; refine ⟨_, rfl, ?_⟩))
  go_ret
  exact ⟨rS, dD⟩
 replace c3 := Bool.eq_false_iff.mpr c3
 subst c3
 have H1 : (some (-1)) = some r := by rw [if_neg (show ¬ (false = true) by decide)] at H; exact H
 clear H
 have H := H1
 clear H1
 obtain rfl := Option.some.inj H
 go_enter Tryz.func139, Tryz.ntmps139
 go_wp2_with (first | ((with_reducible refine gate_callee (f := 80) rfl ?_); refine gL (some 4) Tryz.func80 #[.int .i64 a0, .int .i64 0, .int .i64 3] ?_; (with_reducible refine (impl_InRange.calls a0 0 3 false _ A2.out).mono ?_); rintro e w' ⟨rfl, ⟨nd, rfl⟩⟩; refine ⟨_, rfl, ?_⟩))
 go_ret
 exact ⟨rS, dD⟩

/-! ### impl_Conflict: function 111 -/
def impl_Conflict.j0 : Nat → Bool → Int → Int → Int → Int → Int → Int → Int → Int → Option (Bool)
 | 0, _, _, _, _, _, _, _, _, _ => none
 | k + 1, x22, x345000, x345001, x345002, x345003, x346000, x346001, x346002, x346003 => if x22 = true then (some false) else (if x345001 = 2 then (if x346002 = x345002 then (some true) else (some (x346003 == x345002))) else (if x346001 = 2 then (if x345002 = x346002 then (some true) else (some (x345003 == x346002))) else (if x345002 = x346002 then ((impl_InPlace.f x345002).bind fun t348 => ((impl_OutPlace.f x345003).bind fun t349 => ((impl_InPlace.f x346002).bind fun t350 => ((impl_OutPlace.f x346003).bind fun t351 => ((impl_Interleave.f k t348 t349 t350 t351).bind fun t352 => (some t352)))))) else (if x345003 = x346003 then (some true) else ((impl_InPlace.f x345002).bind fun t353 => ((impl_OutPlace.f x345003).bind fun t354 => ((impl_InPlace.f x346002).bind fun t355 => ((impl_OutPlace.f x346003).bind fun t356 => ((impl_Interleave.f k t353 t354 t355 t356).bind fun t357 => (some t357))))))))))
def impl_Conflict.f (k : Nat) (a0_0 : Int) (a0_1 : Int) (a0_2 : Int) (a0_3 : Int) (a1_0 : Int) (a1_1 : Int) (a1_2 : Int) (a1_3 : Int) : Option (Bool) := (impl_IsPath.f a0_0 a0_1 a0_2 a0_3).bind fun t346 => (if t346 = true then ((impl_IsPath.f a1_0 a1_1 a1_2 a1_3).bind fun t347 => (if t347 = true then (if a0_1 = 2 then (impl_Conflict.j0 k (a1_1 == 2) a0_0 a0_1 a0_2 a0_3 a1_0 a1_1 a1_2 a1_3) else (impl_Conflict.j0 k false a0_0 a0_1 a0_2 a0_3 a1_0 a1_1 a1_2 a1_3)) else (impl_Conflict.j0 k true a0_0 a0_1 a0_2 a0_3 a1_0 a1_1 a1_2 a1_3))) else (impl_Conflict.j0 k true a0_0 a0_1 a0_2 a0_3 a1_0 a1_1 a1_2 a1_3))
theorem impl_Conflict.mono_l : ∀ k, (∀ y0 y1 y2 y3 y4 y5 y6 y7 y8, LeO (impl_Conflict.j0 k y0 y1 y2 y3 y4 y5 y6 y7 y8) (impl_Conflict.j0 (k + 1) y0 y1 y2 y3 y4 y5 y6 y7 y8))
 | 0 => fun _ _ _ _ _ _ _ _ _ r h => by simp [impl_Conflict.j0] at h
 | k + 1 => by
  have ih0 := impl_Conflict.mono_l k
  ·
   intro y0 y1 y2 y3 y4 y5 y6 y7 y8
   unfold impl_Conflict.j0
   exact mz2 ih0 impl_Interleave.mono
theorem impl_Conflict.mono : ∀ a0 a1 a2 a3 a4 a5 a6 a7 k, LeO (impl_Conflict.f k a0 a1 a2 a3 a4 a5 a6 a7) (impl_Conflict.f (k + 1) a0 a1 a2 a3 a4 a5 a6 a7) := by
 intro a0 a1 a2 a3 a4 a5 a6 a7 k
 have ih0 := impl_Conflict.mono_l k
 unfold impl_Conflict.f
 exact mz2 ih0 impl_Interleave.mono
def impl_Conflict.T7 : Bool × List (List Nat × List Nat) := (true, [([], []), ([0], [0]), ([], []), ([2], [2]), ([1, 3], [1, 3]), ([4], [4]), ([5], [5]), ([6, 5], [5, 6]), ([5], [5]), ([8, 5], [5, 8]), ([7, 9, 5], [5, 7, 9]), ([5, 10], [5, 10]), ([11, 5], [11]), ([12], [12]), ([13, 12], [12, 13]), ([14, 12, 12], [12, 14]), ([12], [12]), ([16, 12], [12, 16]), ([17, 15, 12], [12, 17]), ([12], [12]), ([19, 12], [12, 19]), ([20, 18, 12], [12, 20]), ([12], [12]), ([22, 12], [12, 22]), ([23, 21, 12], [12, 23]), ([15, 18, 21, 24, 24, 12], [12, 15, 18, 21, 24]), ([12, 25], [12, 25]), ([26, 25, 0, 1, 2, 3, 4, 5, 6, 7, 8, 9, 10, 11, 12, 13, 14, 15, 16, 17, 18, 19, 20, 21, 22, 23, 24, 25, 26], [26])])
def impl_Conflict.B7 : List Nat := [0, 1, 0, 4, 15, 31, 63, 127, 63, 319, 1023, 2047, 4095, 8191, 16383, 32767, 8191, 73727, 262143, 8191, 532479, 2097151, 8191, 4202495, 16777215, 33554431, 67108863, 134217727]
theorem impl_Conflict.tab7 : rtab .any (opsOf Tryz.f111 7) = impl_Conflict.T7 := by kernel_rfl
theorem impl_Conflict.bits7 : waitsOk impl_Conflict.T7.2 impl_Conflict.B7 = true := by kernel_rfl
set_option maxHeartbeats 8000000 in
set_option maxRecDepth 100000 in
theorem impl_Conflict.calls (k : Nat) (a0_0 : Int) (a0_1 : Int) (a0_2 : Int) (a0_3 : Int) (a1_0 : Int) (a1_1 : Int) (a1_2 : Int) (a1_3 : Int) (r : Bool) (w : World) (h : impl_Conflict.f k a0_0 a0_1 a0_2 a0_3 a1_0 a1_1 a1_2 a1_3 = some r) :
  Calls Tryz.prog 111 #[.agg #[.int .i64 a0_0, .int .i64 a0_1, .int .i64 a0_2, .int .i64 a0_3], .agg #[.int .i64 a1_0, .int .i64 a1_1, .int .i64 a1_2, .int .i64 a1_3]] w fun e w' => e = .returned (.bool r) ∧ Below w.heap.size w w' := by
 have hu69 := Tryz.underlying69
 have HB := Aside0.mk (Below.refl w.heap.size w)
 have H : ((impl_IsPath.f a0_0 a0_1 a0_2 a0_3).bind fun t346 => (if t346 = true then ((impl_IsPath.f a1_0 a1_1 a1_2 a1_3).bind fun t347 => (if t347 = true then (if a0_1 = 2 then (impl_Conflict.j0 k (a1_1 == 2) a0_0 a0_1 a0_2 a0_3 a1_0 a1_1 a1_2 a1_3) else (impl_Conflict.j0 k false a0_0 a0_1 a0_2 a0_3 a1_0 a1_1 a1_2 a1_3)) else (impl_Conflict.j0 k true a0_0 a0_1 a0_2 a0_3 a1_0 a1_1 a1_2 a1_3))) else (impl_Conflict.j0 k true a0_0 a0_1 a0_2 a0_3 a1_0 a1_1 a1_2 a1_3))) = some r := h
 clear h
 have HC3 := Aside0.mk H
 clear H
 go_enter Tryz.func111, Tryz.ntmps111
 go_upto_region 1 with (first | ((with_reducible refine gate_dst (N := 2) rfl ?_); refine bE (N := 2) (cs := #[.int .i64 a0_0, .int .i64 a0_1, .int .i64 a0_2, .int .i64 a0_3]) (t := 69) ?_; intro gb344 hg w4 hbox hb; have BK344 := Aside0.mk (hbox); have GW344 := gw w hg; have GE344 := gw w hg; replace HB := bs HB hb; clear hb hbox hg) | ((with_reducible refine gate_dst (N := 3) rfl ?_); refine bE (N := 3) (cs := #[.int .i64 a1_0, .int .i64 a1_1, .int .i64 a1_2, .int .i64 a1_3]) (t := 69) ?_; intro gb345 hg w5 hbox hb; have BK345 := Aside0.mk (hbox); have GW345 := gw w hg; have GE345 := gw w hg; replace HB := bs HB hb; have NB344_345 := nl BK344 hg; have NB345_344 := nr BK344 hg; replace BK344 := kb BK344 hb; clear hb hbox hg))
 (try simp only [Act.put, List.setIfInBounds_toArray, List.set_cons_zero, List.set_cons_succ])
 go_cut [22] (fun v22 wc => ∃ (kq : Nat) (x22_2 : Bool), v22 = .bool x22_2 ∧ Aside0 (impl_Conflict.j0 kq x22_2 a0_0 a0_1 a0_2 a0_3 a1_0 a1_1 a1_2 a1_3 = some r) ∧ Aside0 (kq ≤ k) ∧ Aside0 (wc.heap[gb344]? = some (.cells #[.int .i64 a0_0, .int .i64 a0_1, .int .i64 a0_2, .int .i64 a0_3] 69 (0, 0))) ∧ Aside0 (wc.heap[gb345]? = some (.cells #[.int .i64 a1_0, .int .i64 a1_1, .int .i64 a1_2, .int .i64 a1_3] 69 (0, 0))) ∧ Aside0 (Below w.heap.size w wc))
 case first =>
  have H := HC3.out
  clear HC3
  obtain ⟨t346, A6, H⟩ := bindE H
  try dsimp only at H
  by_cases c7 : t346 = true
  ·
   subst c7
   have H1 : ((impl_IsPath.f a1_0 a1_1 a1_2 a1_3).bind fun t347 => (if t347 = true then (if a0_1 = 2 then (impl_Conflict.j0 k (a1_1 == 2) a0_0 a0_1 a0_2 a0_3 a1_0 a1_1 a1_2 a1_3) else (impl_Conflict.j0 k false a0_0 a0_1 a0_2 a0_3 a1_0 a1_1 a1_2 a1_3)) else (impl_Conflict.j0 k true a0_0 a0_1 a0_2 a0_3 a1_0 a1_1 a1_2 a1_3))) = some r := by rw [if_pos rfl] at H; exact H
   clear H
   have H := H1
   clear H1
   obtain ⟨t347, A8, H⟩ := bindE H
   try dsimp only at H
   by_cases c9 : t347 = true
   ·
    subst c9
    have H1 : (if a0_1 = 2 then (impl_Conflict.j0 k (a1_1 == 2) a0_0 a0_1 a0_2 a0_3 a1_0 a1_1 a1_2 a1_3) else (impl_Conflict.j0 k false a0_0 a0_1 a0_2 a0_3 a1_0 a1_1 a1_2 a1_3)) = some r := by rw [if_pos rfl] at H; exact H
    clear H
    have H := H1
    clear H1
    by_cases c10 : a0_1 = 2
    ·
     rw [if_pos c10] at H
     have c10b0 : (a0_1 == 2) = true := beq_iff_eq.mpr c10
     have c10b1 : (a0_1 != 2) = false := bne_eq_false_iff_eq.mpr c10
     clear c10
     (first | rw [c10b0] | (simp only [i64_w, i32_w]; rw [c10b0]) | skip)
     have H' := Aside0.mk H
     clear H
     have hnb11 := NB344_345.out
     have hnc11 := NB345_344.out
     obtain ⟨_, _, _, _, _, _, _, _⟩ := blkc4 BK344
     go_wp2_with (first | ((with_reducible refine gate_callee (f := 114) rfl ?_); refine gL (some 6) Tryz.func114 #[.agg #[.int .i64 a0_0, .int .i64 a0_1, .int .i64 a0_2, .int .i64 a0_3]] ?_; (with_reducible refine (impl_IsPath.calls a0_0 a0_1 a0_2 a0_3 true _ A6.out).mono ?_); rintro e w13 ⟨rfl, hb⟩; refine ⟨_, rfl, ?_⟩; replace BK344 := kb BK344 hb; replace BK345 := kb BK345 hb; replace HB := bs HB hb; (try clear hb); obtain ⟨_, _, _, _, _, _, _, _⟩ := blkc4 BK345) | (go_at_call 114; (with_reducible refine (impl_IsPath.calls a1_0 a1_1 a1_2 a1_3 true _ A8.out).mono ?_); rintro e w15 ⟨rfl, hb⟩; replace BK344 := kb BK344 hb; replace BK345 := kb BK345 hb; replace HB := bs HB hb; (try clear hb); obtain ⟨_, _, _, _, _, _, _, _⟩ := blkc4 BK344; obtain ⟨_, _, _, _, _, _, _, _⟩ := blkc4 BK345))
     go_meet
     case rel => exact ⟨_, ((a1_1 == 2)), rS, H', ⟨oL⟩, ⟨bK BK344⟩, ⟨bK BK345⟩, ⟨bG⟩⟩
    rw [if_neg c10] at H
    have c10b0 : (a0_1 == 2) = false := beq_eq_false_iff_ne.mpr c10
    have c10b1 : (a0_1 != 2) = true := bne_iff_ne.mpr c10
    (first | rw [c10b0] | (simp only [i64_w, i32_w]; rw [c10b0]) | skip)
    have H' := Aside0.mk H
    clear H
    have hnb18 := NB344_345.out
    have hnc18 := NB345_344.out
    obtain ⟨_, _, _, _, _, _, _, _⟩ := blkc4 BK344
    go_wp2_with (first | ((with_reducible refine gate_callee (f := 114) rfl ?_); refine gL (some 6) Tryz.func114 #[.agg #[.int .i64 a0_0, .int .i64 a0_1, .int .i64 a0_2, .int .i64 a0_3]] ?_; (with_reducible refine (impl_IsPath.calls a0_0 a0_1 a0_2 a0_3 true _ A6.out).mono ?_); rintro e w20 ⟨rfl, hb⟩; refine ⟨_, rfl, ?_⟩; replace BK344 := kb BK344 hb; replace BK345 := kb BK345 hb; replace HB := bs HB hb; (try clear hb); obtain ⟨_, _, _, _, _, _, _, _⟩ := blkc4 BK345) | (go_at_call 114; (with_reducible refine (impl_IsPath.calls a1_0 a1_1 a1_2 a1_3 true _ A8.out).mono ?_); rintro e w22 ⟨rfl, hb⟩; replace BK344 := kb BK344 hb; replace BK345 := kb BK345 hb; replace HB := bs HB hb; (try clear hb); obtain ⟨_, _, _, _, _, _, _, _⟩ := blkc4 BK344))
    go_meet
    case rel => exact ⟨_, (false), rS, H', ⟨oL⟩, ⟨bK BK344⟩, ⟨bK BK345⟩, ⟨bG⟩⟩
   replace c9 := Bool.eq_false_iff.mpr c9
   subst c9
   have H1 : (impl_Conflict.j0 k true a0_0 a0_1 a0_2 a0_3 a1_0 a1_1 a1_2 a1_3) = some r := by rw [if_neg (show ¬ (false = true) by decide)] at H; exact H
   clear H
   have H := H1
   clear H1
   have H' := Aside0.mk H
   clear H
   have hnb24 := NB344_345.out
   have hnc24 := NB345_344.out
   obtain ⟨_, _, _, _, _, _, _, _⟩ := blkc4 BK344
   go_wp2_with (first | ((with_reducible refine gate_callee (f := 114) rfl ?_); refine gL (some 6) Tryz.func114 #[.agg #[.int .i64 a0_0, .int .i64 a0_1, .int .i64 a0_2, .int .i64 a0_3]] ?_; (with_reducible refine (impl_IsPath.calls a0_0 a0_1 a0_2 a0_3 true _ A6.out).mono ?_); rintro e w26 ⟨rfl, hb⟩; refine ⟨_, rfl, ?_⟩; replace BK344 := kb BK344 hb; replace BK345 := kb BK345 hb; replace HB := bs HB hb; (try clear hb); obtain ⟨_, _, _, _, _, _, _, _⟩ := blkc4 BK345) | (go_at_call 114; (with_reducible refine (impl_IsPath.calls a1_0 a1_1 a1_2 a1_3 false _ A8.out).mono ?_); rintro e w28 ⟨rfl, hb⟩; replace BK344 := kb BK344 hb; replace BK345 := kb BK345 hb; replace HB := bs HB hb; (try clear hb)))
   go_meet
   case rel => exact ⟨_, (true), rS, H', ⟨oL⟩, ⟨bK BK344⟩, ⟨bK BK345⟩, ⟨bG⟩⟩
  replace c7 := Bool.eq_false_iff.mpr c7
  subst c7
  have H1 : (impl_Conflict.j0 k true a0_0 a0_1 a0_2 a0_3 a1_0 a1_1 a1_2 a1_3) = some r := by rw [if_neg (show ¬ (false = true) by decide)] at H; exact H
  clear H
  have H := H1
  clear H1
  have H' := Aside0.mk H
  clear H
  have hnb29 := NB344_345.out
  have hnc29 := NB345_344.out
  obtain ⟨_, _, _, _, _, _, _, _⟩ := blkc4 BK344
  go_wp2_with (first | ((with_reducible refine gate_callee (f := 114) rfl ?_); refine gL (some 6) Tryz.func114 #[.agg #[.int .i64 a0_0, .int .i64 a0_1, .int .i64 a0_2, .int .i64 a0_3]] ?_; (with_reducible refine (impl_IsPath.calls a0_0 a0_1 a0_2 a0_3 false _ A6.out).mono ?_); rintro e w31 ⟨rfl, hb⟩; refine ⟨_, rfl, ?_⟩; replace BK344 := kb BK344 hb; replace BK345 := kb BK345 hb; replace HB := bs HB hb; (try clear hb)))
  go_meet
  case rel => exact ⟨_, (true), rS, H', ⟨oL⟩, ⟨bK BK344⟩, ⟨bK BK345⟩, ⟨bG⟩⟩
 case rest =>
  clear HC3
  obtain ⟨kq, x22_2, rfl, HA, HJ2, BK344, BK345, HB⟩ := hcut
  cases kq with
  | zero => exact absurd HA.out (by simp [impl_Conflict.j0])
  | succ kj2 =>
   have H := HA.out
   clear HA
   simp only [impl_Conflict.j0] at H
   by_cases c32 : x22_2 = true
   ·
    subst c32
    have H1 : (some false) = some r := by rw [if_pos rfl] at H; exact H
    clear H
    have H := H1
    clear H1
    obtain rfl := Option.some.inj H
    go_wp2
    go_ret
    exact ⟨rA, bG⟩
   replace c32 := Bool.eq_false_iff.mpr c32
   subst c32
   have H1 : (if a0_1 = 2 then (if a1_2 = a0_2 then (some true) else (some (a1_3 == a0_2))) else (if a1_1 = 2 then (if a0_2 = a1_2 then (some true) else (some (a0_3 == a1_2))) else (if a0_2 = a1_2 then ((impl_InPlace.f a0_2).bind fun t348 => ((impl_OutPlace.f a0_3).bind fun t349 => ((impl_InPlace.f a1_2).bind fun t350 => ((impl_OutPlace.f a1_3).bind fun t351 => ((impl_Interleave.f kj2 t348 t349 t350 t351).bind fun t352 => (some t352)))))) else (if a0_3 = a1_3 then (some true) else ((impl_InPlace.f a0_2).bind fun t353 => ((impl_OutPlace.f a0_3).bind fun t354 => ((impl_InPlace.f a1_2).bind fun t355 => ((impl_OutPlace.f a1_3).bind fun t356 => ((impl_Interleave.f kj2 t353 t354 t355 t356).bind fun t357 => (some t357)))))))))) = some r := by rw [if_neg (show ¬ (false = true) by decide)] at H; exact H
   clear H
   have H := H1
   clear H1
   by_cases c33 : a0_1 = 2
   ·
    rw [if_pos c33] at H
    have c33b0 : (a0_1 == 2) = true := beq_iff_eq.mpr c33
    have c33b1 : (a0_1 != 2) = false := bne_eq_false_iff_eq.mpr c33
    clear c33
    by_cases c34 : a1_2 = a0_2
    ·
     rw [if_pos c34] at H
     have c34b0 : (a1_2 == a0_2) = true := beq_iff_eq.mpr c34
     have c34b1 : (a1_2 != a0_2) = false := bne_eq_false_iff_eq.mpr c34
     clear c34
     obtain rfl := Option.some.inj H
     have hnb35 := NB344_345.out
     have hnc35 := NB345_344.out
     obtain ⟨_, _, _, _, _, _, _, _⟩ := blkc4 BK344
     obtain ⟨_, _, _, _, _, _, _, _⟩ := blkc4 BK345
     go_wp2
     go_ret
     exact ⟨rA, bG⟩
    rw [if_neg c34] at H
    have c34b0 : (a1_2 == a0_2) = false := beq_eq_false_iff_ne.mpr c34
    have c34b1 : (a1_2 != a0_2) = true := bne_iff_ne.mpr c34
    obtain rfl := Option.some.inj H
    have hnb38 := NB344_345.out
    have hnc38 := NB345_344.out
    obtain ⟨_, _, _, _, _, _, _, _⟩ := blkc4 BK344
    obtain ⟨_, _, _, _, _, _, _, _⟩ := blkc4 BK345
    go_wp2
    go_ret
    exact ⟨rA, bG⟩
   rw [if_neg c33] at H
   have c33b0 : (a0_1 == 2) = false := beq_eq_false_iff_ne.mpr c33
   have c33b1 : (a0_1 != 2) = true := bne_iff_ne.mpr c33
   by_cases c41 : a1_1 = 2
   ·
    rw [if_pos c41] at H
    have c41b0 : (a1_1 == 2) = true := beq_iff_eq.mpr c41
    have c41b1 : (a1_1 != 2) = false := bne_eq_false_iff_eq.mpr c41
    clear c41
    by_cases c42 : a0_2 = a1_2
    ·
     rw [if_pos c42] at H
     have c42b0 : (a0_2 == a1_2) = true := beq_iff_eq.mpr c42
     have c42b1 : (a0_2 != a1_2) = false := bne_eq_false_iff_eq.mpr c42
     clear c42
     obtain rfl := Option.some.inj H
     have hnb43 := NB344_345.out
     have hnc43 := NB345_344.out
     obtain ⟨_, _, _, _, _, _, _, _⟩ := blkc4 BK344
     obtain ⟨_, _, _, _, _, _, _, _⟩ := blkc4 BK345
     go_wp2
     go_ret
     exact ⟨rA, bG⟩
    rw [if_neg c42] at H
    have c42b0 : (a0_2 == a1_2) = false := beq_eq_false_iff_ne.mpr c42
    have c42b1 : (a0_2 != a1_2) = true := bne_iff_ne.mpr c42
    obtain rfl := Option.some.inj H
    have hnb46 := NB344_345.out
    have hnc46 := NB345_344.out
    obtain ⟨_, _, _, _, _, _, _, _⟩ := blkc4 BK344
    obtain ⟨_, _, _, _, _, _, _, _⟩ := blkc4 BK345
    go_wp2
    go_ret
    exact ⟨rA, bG⟩
   rw [if_neg c41] at H
   have c41b0 : (a1_1 == 2) = false := beq_eq_false_iff_ne.mpr c41
   have c41b1 : (a1_1 != 2) = true := bne_iff_ne.mpr c41
   by_cases c49 : a0_2 = a1_2
   ·
    rw [if_pos c49] at H
    have c49b0 : (a0_2 == a1_2) = true := beq_iff_eq.mpr c49
    have c49b1 : (a0_2 != a1_2) = false := bne_eq_false_iff_eq.mpr c49
    clear c49
    obtain ⟨t348, A50, H⟩ := bindE H
    try dsimp only at H
    obtain ⟨t349, A51, H⟩ := bindE H
    try dsimp only at H
    obtain ⟨t350, A52, H⟩ := bindE H
    try dsimp only at H
    obtain ⟨t351, A53, H⟩ := bindE H
    try dsimp only at H
    obtain ⟨t352, A54, H⟩ := bindE H
    try dsimp only at H
    obtain rfl := Option.some.inj H
    have hnb55 := NB344_345.out
    have hnc55 := NB345_344.out
    obtain ⟨_, _, _, _, _, _, _, _⟩ := blkc4 BK344
    obtain ⟨_, _, _, _, _, _, _, _⟩ := blkc4 BK345
    try go_wp2
    replace BK344 := dk BK344
    replace BK345 := dk BK345
    have HBo := HB
    replace HB := db HB
    refine sw (ds := []) 28 (mb 28 0) impl_Conflict.tab7 impl_Conflict.bits7 (h4c BK344 (h4 BK345)) (fun hHeld HT_ HW_ => ?_)
    generalize wc.drew = w58 at BK344 BK345 HB hHeld ⊢
    refine pa 0 53 (mb 28 1) HT_ ?_
    refine pa 2 55 (mb 28 5) HT_ ?_
    refine ta8 1 54 (mb 28 7) HT_ HW_ hHeld ?_
    refine ta8 3 56 (mb 28 15) HT_ HW_ hHeld ?_
    refine pa 4 57 (mb 28 31) HT_ ?_
    refine pa 5 58 (mb 28 63) HT_ ?_
    refine pu 6 59 (mb 28 127) HT_ ?_
    refine pu 7 60 (mb 28 255) HT_ ?_
    refine pu 8 61 (mb 28 511) HT_ ?_
    refine pu 9 62 (mb 28 1023) HT_ ?_
    refine pu 10 63 (mb 28 2047) HT_ ?_
    refine pa 11 64 (mb 28 4095) HT_ ?_
    refine pa 12 65 (mb 28 8191) HT_ ?_
    refine pa 13 66 (mb 28 16383) HT_ ?_
    refine pa 16 69 (mb 28 81919) HT_ ?_
    refine pa 19 72 (mb 28 606207) HT_ ?_
    refine pa 22 75 (mb 28 4800511) HT_ ?_
    refine ta8 14 67 (mb 28 4816895) HT_ HW_ hHeld ?_
    refine ta8 17 70 (mb 28 4947967) HT_ HW_ hHeld ?_
    refine ta8 20 73 (mb 28 5996543) HT_ HW_ hHeld ?_
    refine ta8 23 76 (mb 28 14385151) HT_ HW_ hHeld ?_
    refine oa 15 68 (mb 28 14417919) HT_ (fun K hK => ?_)
    refine gA Tryz.func138 #[.int .i64 a0_2] ?_
    with_reducible refine (impl_InPlace.calls a0_2 t348 _ A50.out).mono ?_
    rintro e w' ⟨rfl, ⟨nd, rfl⟩⟩
    refine ⟨_, rfl, ?_⟩
    refine hK.out _ _ (cm4 BK344 (cn4 BK345)) (fun hHeld => ?_)
    clear hK K
    refine nB ?_
    refine oa 18 71 (mb 28 14680063) HT_ (fun K hK => ?_)
    refine gA Tryz.func139 #[.int .i64 a0_3] ?_
    with_reducible refine (impl_OutPlace.calls a0_3 t349 _ A51.out).mono ?_
    rintro e w' ⟨rfl, ⟨nd, rfl⟩⟩
    refine ⟨_, rfl, ?_⟩
    refine hK.out _ _ (cm4 BK344 (cn4 BK345)) (fun hHeld => ?_)
    clear hK K
    refine nB ?_
    refine oa 21 74 (mb 28 16777215) HT_ (fun K hK => ?_)
    refine gA Tryz.func138 #[.int .i64 a1_2] ?_
    with_reducible refine (impl_InPlace.calls a1_2 t350 _ A52.out).mono ?_
    rintro e w' ⟨rfl, ⟨nd, rfl⟩⟩
    refine ⟨_, rfl, ?_⟩
    refine hK.out _ _ (cm4 BK344 (cn4 BK345)) (fun hHeld => ?_)
    clear hK K
    refine nB ?_
    refine oa 24 77 (mb 28 33554431) HT_ (fun K hK => ?_)
    refine gA Tryz.func139 #[.int .i64 a1_3] ?_
    with_reducible refine (impl_OutPlace.calls a1_3 t351 _ A53.out).mono ?_
    rintro e w' ⟨rfl, ⟨nd, rfl⟩⟩
    refine ⟨_, rfl, ?_⟩
    refine hK.out _ _ (cm4 BK344 (cn4 BK345)) (fun hHeld => ?_)
    clear hK K
    refine nB ?_
    refine oa 25 78 (mb 28 67108863) HT_ (fun K hK => ?_)
    refine gA Tryz.func137 #[.int .i64 t348, .int .i64 t349, .int .i64 t350, .int .i64 t351] ?_
    with_reducible refine (impl_Interleave.calls kj2 t348 t349 t350 t351 t352 _ A54.out).mono ?_
    rintro e w59 ⟨rfl, hb⟩
    refine ⟨_, rfl, ?_⟩
    replace BK344 := kb BK344 hb
    replace BK345 := kb BK345 hb
    replace HB := bs HB hb
    (try clear hb)
    (try clear hb2)
    (try clear hk)
    (try clear hi)
    refine hK.out _ _ (cm4 BK344 (cn4 BK345)) (fun hHeld => ?_)
    clear hK K
    refine nB ?_
    refine pa 26 79 (mb 28 134217727) HT_ ?_
    refine pa 27 4 (mb 28 268435455) HT_ ?_
    refine eA HT_ ?_
    try go_wp2
    go_ret
    exact ⟨rA, bG⟩
   rw [if_neg c49] at H
   have c49b0 : (a0_2 == a1_2) = false := beq_eq_false_iff_ne.mpr c49
   have c49b1 : (a0_2 != a1_2) = true := bne_iff_ne.mpr c49
   by_cases c60 : a0_3 = a1_3
   ·
    rw [if_pos c60] at H
    have c60b0 : (a0_3 == a1_3) = true := beq_iff_eq.mpr c60
    have c60b1 : (a0_3 != a1_3) = false := bne_eq_false_iff_eq.mpr c60
    clear c60
    obtain rfl := Option.some.inj H
    have hnb61 := NB344_345.out
    have hnc61 := NB345_344.out
    obtain ⟨_, _, _, _, _, _, _, _⟩ := blkc4 BK344
    obtain ⟨_, _, _, _, _, _, _, _⟩ := blkc4 BK345
    try go_wp2
    replace BK344 := dk BK344
    replace BK345 := dk BK345
    have HBo := HB
    replace HB := db HB
    refine sw (ds := []) 28 (mb 28 0) impl_Conflict.tab7 impl_Conflict.bits7 (h4c BK344 (h4 BK345)) (fun hHeld HT_ HW_ => ?_)
    generalize wc.drew = w64 at BK344 BK345 HB hHeld ⊢
    refine pa 0 53 (mb 28 1) HT_ ?_
    refine pa 2 55 (mb 28 5) HT_ ?_
    refine ta8 1 54 (mb 28 7) HT_ HW_ hHeld ?_
    refine ta8 3 56 (mb 28 15) HT_ HW_ hHeld ?_
    refine pa 4 57 (mb 28 31) HT_ ?_
    refine pa 5 58 (mb 28 63) HT_ ?_
    refine pa 6 59 (mb 28 127) HT_ ?_
    refine pa 8 61 (mb 28 383) HT_ ?_
    refine ta8 7 60 (mb 28 511) HT_ HW_ hHeld ?_
    refine ta8 9 62 (mb 28 1023) HT_ HW_ hHeld ?_
    refine pa 10 63 (mb 28 2047) HT_ ?_
    refine pa 11 64 (mb 28 4095) HT_ ?_
    refine pa 12 65 (mb 28 8191) HT_ ?_
    refine pu 13 66 (mb 28 16383) HT_ ?_
    refine pu 14 67 (mb 28 32767) HT_ ?_
    refine pu 15 68 (mb 28 65535) HT_ ?_
    refine pu 16 69 (mb 28 131071) HT_ ?_
    refine pu 17 70 (mb 28 262143) HT_ ?_
    refine pu 18 71 (mb 28 524287) HT_ ?_
    refine pu 19 72 (mb 28 1048575) HT_ ?_
    refine pu 20 73 (mb 28 2097151) HT_ ?_
    refine pu 21 74 (mb 28 4194303) HT_ ?_
    refine pu 22 75 (mb 28 8388607) HT_ ?_
    refine pu 23 76 (mb 28 16777215) HT_ ?_
    refine pu 24 77 (mb 28 33554431) HT_ ?_
    refine pu 25 78 (mb 28 67108863) HT_ ?_
    refine pa 26 79 (mb 28 134217727) HT_ ?_
    refine pa 27 4 (mb 28 268435455) HT_ ?_
    refine eA HT_ ?_
    try go_wp2
    go_ret
    exact ⟨rA, bG⟩
   rw [if_neg c60] at H
   have c60b0 : (a0_3 == a1_3) = false := beq_eq_false_iff_ne.mpr c60
   have c60b1 : (a0_3 != a1_3) = true := bne_iff_ne.mpr c60
   obtain ⟨t353, A65, H⟩ := bindE H
   try dsimp only at H
   obtain ⟨t354, A66, H⟩ := bindE H
   try dsimp only at H
   obtain ⟨t355, A67, H⟩ := bindE H
   try dsimp only at H
   obtain ⟨t356, A68, H⟩ := bindE H
   try dsimp only at H
   obtain ⟨t357, A69, H⟩ := bindE H
   try dsimp only at H
   obtain rfl := Option.some.inj H
   have hnb70 := NB344_345.out
   have hnc70 := NB345_344.out
   obtain ⟨_, _, _, _, _, _, _, _⟩ := blkc4 BK344
   obtain ⟨_, _, _, _, _, _, _, _⟩ := blkc4 BK345
   try go_wp2
   replace BK344 := dk BK344
   replace BK345 := dk BK345
   have HBo := HB
   replace HB := db HB
   refine sw (ds := []) 28 (mb 28 0) impl_Conflict.tab7 impl_Conflict.bits7 (h4c BK344 (h4 BK345)) (fun hHeld HT_ HW_ => ?_)
   generalize wc.drew = w73 at BK344 BK345 HB hHeld ⊢
   refine pa 0 53 (mb 28 1) HT_ ?_
   refine pa 2 55 (mb 28 5) HT_ ?_
   refine ta8 1 54 (mb 28 7) HT_ HW_ hHeld ?_
   refine ta8 3 56 (mb 28 15) HT_ HW_ hHeld ?_
   refine pa 4 57 (mb 28 31) HT_ ?_
   refine pa 5 58 (mb 28 63) HT_ ?_
   refine pa 6 59 (mb 28 127) HT_ ?_
   refine pa 8 61 (mb 28 383) HT_ ?_
   refine ta8 7 60 (mb 28 511) HT_ HW_ hHeld ?_
   refine ta8 9 62 (mb 28 1023) HT_ HW_ hHeld ?_
   refine pa 10 63 (mb 28 2047) HT_ ?_
   refine pa 11 64 (mb 28 4095) HT_ ?_
   refine pa 12 65 (mb 28 8191) HT_ ?_
   refine pa 13 66 (mb 28 16383) HT_ ?_
   refine pa 16 69 (mb 28 81919) HT_ ?_
   refine pa 19 72 (mb 28 606207) HT_ ?_
   refine pa 22 75 (mb 28 4800511) HT_ ?_
   refine ta8 14 67 (mb 28 4816895) HT_ HW_ hHeld ?_
   refine ta8 17 70 (mb 28 4947967) HT_ HW_ hHeld ?_
   refine ta8 20 73 (mb 28 5996543) HT_ HW_ hHeld ?_
   refine ta8 23 76 (mb 28 14385151) HT_ HW_ hHeld ?_
   refine oa 15 68 (mb 28 14417919) HT_ (fun K hK => ?_)
   refine gA Tryz.func138 #[.int .i64 a0_2] ?_
   with_reducible refine (impl_InPlace.calls a0_2 t353 _ A65.out).mono ?_
   rintro e w' ⟨rfl, ⟨nd, rfl⟩⟩
   refine ⟨_, rfl, ?_⟩
   refine hK.out _ _ (cm4 BK344 (cn4 BK345)) (fun hHeld => ?_)
   clear hK K
   refine nB ?_
   refine oa 18 71 (mb 28 14680063) HT_ (fun K hK => ?_)
   refine gA Tryz.func139 #[.int .i64 a0_3] ?_
   with_reducible refine (impl_OutPlace.calls a0_3 t354 _ A66.out).mono ?_
   rintro e w' ⟨rfl, ⟨nd, rfl⟩⟩
   refine ⟨_, rfl, ?_⟩
   refine hK.out _ _ (cm4 BK344 (cn4 BK345)) (fun hHeld => ?_)
   clear hK K
   refine nB ?_
   refine oa 21 74 (mb 28 16777215) HT_ (fun K hK => ?_)
   refine gA Tryz.func138 #[.int .i64 a1_2] ?_
   with_reducible refine (impl_InPlace.calls a1_2 t355 _ A67.out).mono ?_
   rintro e w' ⟨rfl, ⟨nd, rfl⟩⟩
   refine ⟨_, rfl, ?_⟩
   refine hK.out _ _ (cm4 BK344 (cn4 BK345)) (fun hHeld => ?_)
   clear hK K
   refine nB ?_
   refine oa 24 77 (mb 28 33554431) HT_ (fun K hK => ?_)
   refine gA Tryz.func139 #[.int .i64 a1_3] ?_
   with_reducible refine (impl_OutPlace.calls a1_3 t356 _ A68.out).mono ?_
   rintro e w' ⟨rfl, ⟨nd, rfl⟩⟩
   refine ⟨_, rfl, ?_⟩
   refine hK.out _ _ (cm4 BK344 (cn4 BK345)) (fun hHeld => ?_)
   clear hK K
   refine nB ?_
   refine oa 25 78 (mb 28 67108863) HT_ (fun K hK => ?_)
   refine gA Tryz.func137 #[.int .i64 t353, .int .i64 t354, .int .i64 t355, .int .i64 t356] ?_
   with_reducible refine (impl_Interleave.calls kj2 t353 t354 t355 t356 t357 _ A69.out).mono ?_
   rintro e w74 ⟨rfl, hb⟩
   refine ⟨_, rfl, ?_⟩
   replace BK344 := kb BK344 hb
   replace BK345 := kb BK345 hb
   replace HB := bs HB hb
   (try clear hb)
   (try clear hb2)
   (try clear hk)
   (try clear hi)
   refine hK.out _ _ (cm4 BK344 (cn4 BK345)) (fun hHeld => ?_)
   clear hK K
   refine nB ?_
   refine pa 26 79 (mb 28 134217727) HT_ ?_
   refine pa 27 4 (mb 28 268435455) HT_ ?_
   refine eA HT_ ?_
   try go_wp2
   go_ret
   exact ⟨rA, bG⟩

end Go.Proofs.YtdkmmefmhfbgkaaGreat.P
