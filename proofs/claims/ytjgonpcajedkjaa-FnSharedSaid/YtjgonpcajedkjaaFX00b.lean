/- Printed by myprint.py (wip/tools) over the kit's print: what Go's functions compute, and that they do. Lean checks it. -/
import Derived.Test.YtjgonpcajedkjaaF0
import Derived.Test.YtjgonpcajedkjaaFX00
namespace Go.Proofs.Ytjgonpcajedkjaa.P
open Go.RowKit Go.Proofs.YtjgonpcajedkjaaW.PrintWords Go.Proofs.YtjgonpcajedkjaaW.PrintLast Go.Proofs.YtjgonpcajedkjaaW.PrintMore Go.Proofs.Ytjgonpcajedkjaa.Sq
attribute [local go_sem] max2_int min2_int max_two min_two max_three min_three max_four min_four
set_option linter.unusedVariables false
set_option linter.unusedSimpArgs false

/-! ### spec_l1Below: function 84 -/
def spec_l1Below.f (s0_0 : List Int) (s0_1 : Int) (s0_2 : Int) (a1 : Int) : Option (Int × Int × Int) := if a1 ≤ 0 then (some (0, s0_1, s0_2)) else (if a1 ≤ 256 then ((spec_l1Byte.f s0_0 s0_1 s0_2).bind fun bt179 => (if a1 = 0 then (none) else (some (Int.tmod bt179.1 a1, bt179.2.1, bt179.2.2)))) else ((spec_l1Byte.f s0_0 s0_1 s0_2).bind fun bt182 => ((spec_l1Byte.f s0_0 bt182.2.1 bt182.2.2).bind fun bt185 => ((spec_l1Byte.f s0_0 bt185.2.1 bt185.2.2).bind fun bt188 => (if a1 = 0 then (none) else (some (Int.tmod (wrap64 ((wrap64 ((wrap64 (bt182.1 * 65536)) + (wrap64 (bt185.1 * 256)))) + bt188.1)) a1, bt188.2.1, bt188.2.2)))))))
set_option maxHeartbeats 8000000 in
set_option maxRecDepth 100000 in
theorem spec_l1Below.calls (g : Nat) (s0_0 : List Int) (s0_1 : Int) (s0_2 : Int) (a1 : Int) (r1 : Int) (r2 : Int) (r3 : Int) (w0 w : World) (hI : IsS138 w0 w g s0_0 s0_1 s0_2) (hB : Below w0.heap.size w0 w) (h : spec_l1Below.f s0_0 s0_1 s0_2 a1 = some (r1, r2, r3)) :
  Calls Try.prog 84 #[.pointer (some ⟨g, 0, none⟩), .int .i64 a1] w fun e w' => e = .returned (.int .i64 r1) ∧ IsS138 w0 w' g s0_0 r2 r3 ∧ Below w0.heap.size w0 w' ∧ KeepBut w w' g none := by
 have HI0 := Aside0.mk hI
 have HK := Aside0.mk (KeepBut.refl w g none)
 have HL := Aside0.mk hB.size
 clear hI
 have HW0 := Aside0.mk hB.size
 have HB := Aside0.mk hB
 clear hB
 have H : (if a1 ≤ 0 then (some (0, s0_1, s0_2)) else (if a1 ≤ 256 then ((spec_l1Byte.f s0_0 s0_1 s0_2).bind fun bt179 => (if a1 = 0 then (none) else (some (Int.tmod bt179.1 a1, bt179.2.1, bt179.2.2)))) else ((spec_l1Byte.f s0_0 s0_1 s0_2).bind fun bt182 => ((spec_l1Byte.f s0_0 bt182.2.1 bt182.2.2).bind fun bt185 => ((spec_l1Byte.f s0_0 bt185.2.1 bt185.2.2).bind fun bt188 => (if a1 = 0 then (none) else (some (Int.tmod (wrap64 ((wrap64 ((wrap64 (bt182.1 * 65536)) + (wrap64 (bt185.1 * 256)))) + bt188.1)) a1, bt188.2.1, bt188.2.2)))))))) = some (r1, r2, r3) := h
 clear h
 by_cases c3 : a1 ≤ 0
 ·
  rw [if_pos c3] at H
  have c3b0 := decide_eq_true c3
  clear c3
  simp only [Option.some.injEq, Prod.mk.injEq] at H
  obtain ⟨rfl, rfl, rfl⟩ := H
  go_enter Try.func84, Try.ntmps84
  go_wp2
  go_ret
  exact ⟨rA, by exact sI1380 HI0.out, by exact sB1 HB.out (IsS138.ge HI0.out), by exact sK0 HK.out⟩
 rw [if_neg c3] at H
 have c3b0 := decide_eq_false c3
 clear c3
 by_cases c4 : a1 ≤ 256
 ·
  rw [if_pos c4] at H
  have c4b0 := decide_eq_true c4
  clear c4
  obtain ⟨⟨t179, t180, t181⟩, A5, H⟩ := bindE H
  try dsimp only at H
  have c6 : ¬ (a1 = 0) := ifN' H
  replace H := ifT' H
  have c6b0 : (a1 == 0) = false := beq_eq_false_iff_ne.mpr c6
  have c6b1 : (a1 != 0) = true := bne_iff_ne.mpr c6
  simp only [Option.some.injEq, Prod.mk.injEq] at H
  obtain ⟨rfl, rfl, rfl⟩ := H
  go_enter Try.func84, Try.ntmps84
  go_wp2_with (first | ((with_reducible refine gate_callee (f := 126) rfl ?_); refine gL (some 13) Try.func126 #[.pointer (some ⟨g, 0, none⟩)] ?_; (with_reducible refine (spec_l1Byte.calls g s0_0 s0_1 s0_2 t179 t180 t181 w0 _ ?_ ?_ A5.out).mono ?_); exact sI1380 HI0.out; exact sB1 HB.out (IsS138.ge HI0.out); rintro e w7 ⟨rfl, hi, hb, hk⟩; refine ⟨_, rfl, ?_⟩; replace HK := Aside0.mk (KeepBut.trans (by exact sK0 HK.out) hk (.inl rfl)); replace HB := Aside0.mk (hb); replace HI0 := Aside0.mk (hi); (try clear hb); (try clear hk); (try clear hi)))
  go_ret
  exact ⟨rA, by exact sI1380 HI0.out, by exact sB1 HB.out (IsS138.ge HI0.out), by exact sK0 HK.out⟩
 rw [if_neg c4] at H
 have c4b0 := decide_eq_false c4
 clear c4
 obtain ⟨⟨t182, t183, t184⟩, A8, H⟩ := bindE H
 try dsimp only at H
 obtain ⟨⟨t185, t186, t187⟩, A9, H⟩ := bindE H
 try dsimp only at H
 obtain ⟨⟨t188, t189, t190⟩, A10, H⟩ := bindE H
 try dsimp only at H
 have c11 : ¬ (a1 = 0) := ifN' H
 replace H := ifT' H
 have c11b0 : (a1 == 0) = false := beq_eq_false_iff_ne.mpr c11
 have c11b1 : (a1 != 0) = true := bne_iff_ne.mpr c11
 simp only [Option.some.injEq, Prod.mk.injEq] at H
 obtain ⟨rfl, rfl, rfl⟩ := H
 go_enter Try.func84, Try.ntmps84
 go_wp2_with (first | ((with_reducible refine gate_callee (f := 126) rfl ?_); refine gL (some 17) Try.func126 #[.pointer (some ⟨g, 0, none⟩)] ?_; (with_reducible refine (spec_l1Byte.calls g s0_0 s0_1 s0_2 t182 t183 t184 w0 _ ?_ ?_ A8.out).mono ?_); exact sI1380 HI0.out; exact sB1 HB.out (IsS138.ge HI0.out); rintro e w12 ⟨rfl, hi, hb, hk⟩; refine ⟨_, rfl, ?_⟩; replace HK := Aside0.mk (KeepBut.trans (by exact sK0 HK.out) hk (.inl rfl)); replace HB := Aside0.mk (hb); replace HI0 := Aside0.mk (hi); (try clear hb); (try clear hk); (try clear hi)) | ((with_reducible refine gate_callee (f := 126) rfl ?_); refine gL (some 19) Try.func126 #[.pointer (some ⟨g, 0, none⟩)] ?_; (with_reducible refine (spec_l1Byte.calls g s0_0 t183 t184 t185 t186 t187 w0 _ ?_ ?_ A9.out).mono ?_); exact sI1380 HI0.out; exact sB1 HB.out (IsS138.ge HI0.out); rintro e w13 ⟨rfl, hi, hb, hk⟩; refine ⟨_, rfl, ?_⟩; replace HK := Aside0.mk (KeepBut.trans (by exact sK0 HK.out) hk (.inl rfl)); replace HB := Aside0.mk (hb); replace HI0 := Aside0.mk (hi); (try clear hb); (try clear hk); (try clear hi)) | ((with_reducible refine gate_callee (f := 126) rfl ?_); refine gL (some 21) Try.func126 #[.pointer (some ⟨g, 0, none⟩)] ?_; (with_reducible refine (spec_l1Byte.calls g s0_0 t186 t187 t188 t189 t190 w0 _ ?_ ?_ A10.out).mono ?_); exact sI1380 HI0.out; exact sB1 HB.out (IsS138.ge HI0.out); rintro e w14 ⟨rfl, hi, hb, hk⟩; refine ⟨_, rfl, ?_⟩; replace HK := Aside0.mk (KeepBut.trans (by exact sK0 HK.out) hk (.inl rfl)); replace HB := Aside0.mk (hb); replace HI0 := Aside0.mk (hi); (try clear hb); (try clear hk); (try clear hi)))
 go_ret
 exact ⟨rA, by exact sI1380 HI0.out, by exact sB1 HB.out (IsS138.ge HI0.out), by exact sK0 HK.out⟩

/-! ### spec_l1Once: function 93 -/
def spec_l1Once.f (s0_0 : List Int) (s0_1 : Int) (s0_2 : Int) (a1 : Int) : Option (Bool × Int × Int) := (spec_l1Below.f s0_0 s0_1 s0_2 a1).bind fun bt191 => (some ((bt191.1 == 0), bt191.2.1, bt191.2.2))
set_option maxHeartbeats 8000000 in
set_option maxRecDepth 100000 in
theorem spec_l1Once.calls (g : Nat) (s0_0 : List Int) (s0_1 : Int) (s0_2 : Int) (a1 : Int) (r1 : Bool) (r2 : Int) (r3 : Int) (w0 w : World) (hI : IsS138 w0 w g s0_0 s0_1 s0_2) (hB : Below w0.heap.size w0 w) (h : spec_l1Once.f s0_0 s0_1 s0_2 a1 = some (r1, r2, r3)) :
  Calls Try.prog 93 #[.pointer (some ⟨g, 0, none⟩), .int .i64 a1] w fun e w' => e = .returned (.bool r1) ∧ IsS138 w0 w' g s0_0 r2 r3 ∧ Below w0.heap.size w0 w' ∧ KeepBut w w' g none := by
 have HI0 := Aside0.mk hI
 have HK := Aside0.mk (KeepBut.refl w g none)
 have HL := Aside0.mk hB.size
 clear hI
 have HW0 := Aside0.mk hB.size
 have HB := Aside0.mk hB
 clear hB
 have H : ((spec_l1Below.f s0_0 s0_1 s0_2 a1).bind fun bt191 => (some ((bt191.1 == 0), bt191.2.1, bt191.2.2))) = some (r1, r2, r3) := h
 clear h
 obtain ⟨⟨t191, t192, t193⟩, A3, H⟩ := bindE H
 try dsimp only at H
 simp only [Option.some.injEq, Prod.mk.injEq] at H
 obtain ⟨rfl, rfl, rfl⟩ := H
 go_enter Try.func93, Try.ntmps93
 go_wp2_with (first | ((with_reducible refine gate_callee (f := 84) rfl ?_); refine gL (some 7) Try.func84 #[.pointer (some ⟨g, 0, none⟩), .int .i64 a1] ?_; (with_reducible refine (spec_l1Below.calls g s0_0 s0_1 s0_2 a1 t191 t192 t193 w0 _ ?_ ?_ A3.out).mono ?_); exact sI1380 HI0.out; exact sB1 HB.out (IsS138.ge HI0.out); rintro e w4 ⟨rfl, hi, hb, hk⟩; refine ⟨_, rfl, ?_⟩; replace HK := Aside0.mk (KeepBut.trans (by exact sK0 HK.out) hk (.inl rfl)); replace HB := Aside0.mk (hb); replace HI0 := Aside0.mk (hi); (try clear hb); (try clear hk); (try clear hi)))
 go_ret
 exact ⟨rA, by exact sI1380 HI0.out, by exact sB1 HB.out (IsS138.ge HI0.out), by exact sK0 HK.out⟩

/-! ### spec_l1Int: function 94 -/
def spec_l1Int.f (s0_0 : List Int) (s0_1 : Int) (s0_2 : Int) (l1 : List Int) : Option (Int × Int × Int) := (spec_l1Below.f s0_0 s0_1 s0_2 (l1.length : Int)).bind fun bt194 => (if 0 ≤ bt194.1 then (if bt194.1 < (l1.length : Int) then (some (rd l1 bt194.1, bt194.2.1, bt194.2.2)) else (none)) else (none))
set_option maxHeartbeats 8000000 in
set_option maxRecDepth 100000 in
theorem spec_l1Int.calls (g : Nat) (s0_0 : List Int) (s0_1 : Int) (s0_2 : Int) (A1 : Option Addr) (c1 : Nat) (l1 : List Int) (r1 : Int) (r2 : Int) (r3 : Int) (w0 w : World) (hI : IsS138 w0 w g s0_0 s0_1 s0_2) (hB : Below w0.heap.size w0 w) (hr1 : Kd.C (Kd.int .i64) w A1 l1.length l1) (hc1 : l1.length ≤ c1) (hf1 : ∀ ad, A1 = some ad → 0 < l1.length → ad.block ≠ g) (h : spec_l1Int.f s0_0 s0_1 s0_2 l1 = some (r1, r2, r3)) :
  Calls Try.prog 94 #[.pointer (some ⟨g, 0, none⟩), .slice A1 l1.length c1] w fun e w' => e = .returned (.int .i64 r1) ∧ IsS138 w0 w' g s0_0 r2 r3 ∧ Below w0.heap.size w0 w' ∧ KeepBut w w' g none := by
 have HR1 := Aside0.mk hr1
 have HC1 := Aside0.mk hc1
 clear hr1 hc1
 have HI0 := Aside0.mk hI
 have HK := Aside0.mk (KeepBut.refl w g none)
 have HL := Aside0.mk hB.size
 clear hI
 have HW0 := Aside0.mk hB.size
 have HB := Aside0.mk hB
 clear hB
 have H : ((spec_l1Below.f s0_0 s0_1 s0_2 (l1.length : Int)).bind fun bt194 => (if 0 ≤ bt194.1 then (if bt194.1 < (l1.length : Int) then (some (rd l1 bt194.1, bt194.2.1, bt194.2.2)) else (none)) else (none))) = some (r1, r2, r3) := h
 clear h
 obtain ⟨⟨t194, t195, t196⟩, A3, H⟩ := bindE H
 try dsimp only at H
 have c4 : 0 ≤ t194 := ifN H
 replace H := ifT H
 have c4b0 := decide_eq_true c4
 clear c4
 have c5 : t194 < (l1.length : Int) := ifN H
 replace H := ifT H
 have c5b0 := decide_eq_true c5
 clear c5
 simp only [Option.some.injEq, Prod.mk.injEq] at H
 obtain ⟨rfl, rfl, rfl⟩ := H
 go_enter Try.func94, Try.ntmps94
 go_wp2_with (first | ((with_reducible refine gate_callee (f := 84) rfl ?_); refine gL (some 9) Try.func84 #[.pointer (some ⟨g, 0, none⟩), .int .i64 (l1.length : Int)] ?_; (with_reducible refine (spec_l1Below.calls g s0_0 s0_1 s0_2 (l1.length : Int) t194 t195 t196 w0 _ ?_ ?_ A3.out).mono ?_); exact sI1380 HI0.out; exact sB1 HB.out (IsS138.ge HI0.out); rintro e w6 ⟨rfl, hi, hb, hk⟩; refine ⟨_, rfl, ?_⟩; replace HK := Aside0.mk (KeepBut.trans (by exact sK0 HK.out) hk (.inl rfl)); replace HB := Aside0.mk (hb); replace HI0 := Aside0.mk (hi); (try clear hb); (try clear hk); (try clear hi); have p197 : 0 ≤ (t194 : Int) := dA; have q197 : t194 < (l1.length : Int) := dA; obtain ⟨ad197, e197, hx197_0⟩ := Kd.at_int HR1.out t194 p197 q197; cases e197; replace hx197_0 := keep_cell HK.out hx197_0 (by first | (rw [add_block]; exact hf1 _ rfl (by omega)) | exact hf1 _ rfl (by omega) | exact hf1 ad197 rfl (by omega)); replace p197 := eq_true p197; replace q197 := eq_true q197))
 go_ret
 exact ⟨rA, by exact sI1380 HI0.out, by exact sB1 HB.out (IsS138.ge HI0.out), by exact sK0 HK.out⟩

/-! ### spec_l4Draw: function 174 -/
def spec_l4Draw.f (s0_0 : List Int) (s0_1 : Int) (s0_2 : Int) (a1 : Int) : Option (Int × Int × Int × Int × Int × Int) := (spec_l1Below.f s0_0 s0_1 s0_2 3).bind fun bt199 => ((spec_l1Below.f s0_0 bt199.2.1 bt199.2.2 4).bind fun bt202 => (if (wrap64 (1 + bt199.1)) = 2 then (some (a1, wrap64 (1 + bt199.1), bt202.1, bt202.1, bt202.2.1, bt202.2.2)) else ((spec_l1Below.f s0_0 bt202.2.1 bt202.2.2 3).bind fun bt206 => (some (a1, wrap64 (1 + bt199.1), bt202.1, Int.tmod (wrap64 ((wrap64 (bt202.1 + 1)) + bt206.1)) 4, bt206.2.1, bt206.2.2)))))
def spec_l4Draw.T4 : Bool × List (List Nat × List Nat) := (true, [([], []), ([0], [0]), ([1], [1]), ([], []), ([3], [3]), ([2, 4], [2, 4]), ([5], [5]), ([0, 1, 2, 3, 4, 5, 6], []), ([7, 6, 4, 0, 1, 2, 3, 4, 5, 6], [6, 7])])
def spec_l4Draw.B4 : List Nat := [0, 1, 3, 0, 8, 31, 63, 127, 255]
theorem spec_l4Draw.tab4 : rtab .any (opsOf Try.f174 4) = spec_l4Draw.T4 := by kernel_rfl
theorem spec_l4Draw.bits4 : waitsOk spec_l4Draw.T4.2 spec_l4Draw.B4 = true := by kernel_rfl
theorem gen_world {P : Program} {ops : Array Oper} {rest : List Oper} {o : Oper} {a : Act} {Q : Exit → Act → World → Prop} {W : World} (F : World → Prop) (hF : F W) (h : ∀ W', F W' → wpList P ops Q (o :: rest) a W') : wpList P ops Q (o :: rest) a W := h W hF
set_option maxHeartbeats 8000000 in
set_option maxRecDepth 100000 in
theorem spec_l4Draw.calls (g : Nat) (s0_0 : List Int) (s0_1 : Int) (s0_2 : Int) (a1 : Int) (r1 : Int) (r2 : Int) (r3 : Int) (r4 : Int) (r5 : Int) (r6 : Int) (w0 w : World) (hI : IsS138 w0 w g s0_0 s0_1 s0_2) (hB : Below w0.heap.size w0 w) (h : spec_l4Draw.f s0_0 s0_1 s0_2 a1 = some (r1, r2, r3, r4, r5, r6)) :
  Calls Try.prog 174 #[.pointer (some ⟨g, 0, none⟩), .int .i64 a1] w fun e w' => e = .returned (.agg #[.int .i64 r1, .int .i64 r2, .int .i64 r3, .int .i64 r4]) ∧ IsS138 w0 w' g s0_0 r5 r6 ∧ Below w0.heap.size w0 w' ∧ KeepBut w w' g none := by
 have hu50 := Try.underlying50
 have HI0 := Aside0.mk hI
 have HK := Aside0.mk (KeepBut.refl w g none)
 have HL := Aside0.mk hB.size
 clear hI
 have HW0 := Aside0.mk hB.size
 have HB := Aside0.mk hB
 clear hB
 have H : ((spec_l1Below.f s0_0 s0_1 s0_2 3).bind fun bt199 => ((spec_l1Below.f s0_0 bt199.2.1 bt199.2.2 4).bind fun bt202 => (if (wrap64 (1 + bt199.1)) = 2 then (some (a1, wrap64 (1 + bt199.1), bt202.1, bt202.1, bt202.2.1, bt202.2.2)) else ((spec_l1Below.f s0_0 bt202.2.1 bt202.2.2 3).bind fun bt206 => (some (a1, wrap64 (1 + bt199.1), bt202.1, Int.tmod (wrap64 ((wrap64 (bt202.1 + 1)) + bt206.1)) 4, bt206.2.1, bt206.2.2)))))) = some (r1, r2, r3, r4, r5, r6) := h
 clear h
 obtain ⟨⟨t199, t200, t201⟩, A3, H⟩ := bindE H
 try dsimp only at H
 obtain ⟨⟨t202, t203, t204⟩, A4, H⟩ := bindE H
 try dsimp only at H
 by_cases c5 : (wrap64 (1 + t199)) = 2
 ·
  rw [if_pos c5] at H
  have c5b0 : ((wrap64 (1 + t199)) == 2) = true := beq_iff_eq.mpr c5
  have c5b1 : ((wrap64 (1 + t199)) != 2) = false := bne_eq_false_iff_eq.mpr c5
  clear c5
  simp only [Option.some.injEq, Prod.mk.injEq] at H
  obtain ⟨rfl, rfl, rfl, rfl, rfl, rfl⟩ := H
  go_enter Try.func174, Try.ntmps174
  have TK_ := Aside0.mk trivial
  go_wp2_with (first | ((with_reducible refine gate_dst (N := 4) rfl ?_); refine bE (N := 4) (cs := #[.int .i64 0, .int .i64 0, .int .i64 0, .int .i64 0]) (t := 50) ?_; intro gb198 hg w6 hbox hb; have n0_ := Aside0.mk (IsS138.below (by exact sI1380 HI0.out) hb); have n1_ := Aside0.mk (KeepBut.trans (by exact sK0 HK.out) (KeepBut.of_below hb g none) (.inl rfl)); have n2_ := Aside0.mk (below_step (by exact sB1 HB.out (IsS138.ge HI0.out)) hb); have n3_ := Aside0.mk (hbox); have n4_ := Aside0.mk ((by rw [hg]; exact (keep_size (w := w) (g := g) (row := none) (by exact sK0 HK.out)) : w.heap.size ≤ gb198)); have n5_ := Aside0.mk ((Nat.le_trans HW0.out (by rw [hg]; exact (keep_size (w := w) (g := g) (row := none) (by exact sK0 HK.out)) : w.heap.size ≤ gb198) : w0.heap.size ≤ gb198)); have n6_ := Aside0.mk ((by rw [hg]; exact Nat.ne_of_lt (IsS138.lt (show IsS138 w0 _ g s0_0 s0_1 s0_2 from by exact sI1380 HI0.out)) : g ≠ gb198)); have n7_ := Aside0.mk ((by rw [hg]; exact Nat.ne_of_gt (IsS138.lt (show IsS138 w0 _ g s0_0 s0_1 s0_2 from by exact sI1380 HI0.out)) : gb198 ≠ g)); clear HI0; clear HK; clear HB; have HI0 := n0_; have HK := n1_; have HB := n2_; have BK198 := n3_; have GW198 := n4_; have GE198 := n5_; have NB0_198 := n6_; have NB198_0 := n7_; clear n0_ n1_ n2_ n3_ n4_ n5_ n6_ n7_; clear hb hbox hg) | ((with_reducible refine gate_callee (f := 84) rfl ?_); refine gL (some 8) Try.func84 #[.pointer (some ⟨g, 0, none⟩), .int .i64 3] ?_; (with_reducible refine (spec_l1Below.calls g s0_0 s0_1 s0_2 3 t199 t200 t201 w0 _ ?_ ?_ A3.out).mono ?_); exact sI1381 HI0.out NB0_198.out; exact sB2 HB.out (IsS138.ge HI0.out) GE198.out; rintro e w7 ⟨rfl, hi, hb, hk⟩; refine ⟨_, rfl, ?_⟩; replace BK198 := Aside0.mk (KeepBut.blk hk (g' := gb198) (o := .cells #[.int .i64 0, .int .i64 0, .int .i64 0, .int .i64 0] 50 (0, 0)) (bK BK198) NB198_0.out (by simp)); replace HK := Aside0.mk (KeepBut.trans (by exact sK1 HK.out GW198.out) hk (.inl rfl)); replace HB := Aside0.mk (hb); replace HI0 := Aside0.mk (hi); (try clear hb); (try clear hk); (try clear hi)) | ((with_reducible refine gate_callee (f := 84) rfl ?_); refine gL (some 11) Try.func84 #[.pointer (some ⟨g, 0, none⟩), .int .i64 4] ?_; (with_reducible refine (spec_l1Below.calls g s0_0 t200 t201 4 t202 t203 t204 w0 _ ?_ ?_ A4.out).mono ?_); exact sI1381 HI0.out NB0_198.out; exact sB2 HB.out (IsS138.ge HI0.out) GE198.out; rintro e w8 ⟨rfl, hi, hb, hk⟩; refine ⟨_, rfl, ?_⟩; replace BK198 := Aside0.mk (KeepBut.blk hk (g' := gb198) (o := .cells #[.int .i64 0, .int .i64 0, .int .i64 0, .int .i64 0] 50 (0, 0)) (bK BK198) NB198_0.out (by simp)); replace HK := Aside0.mk (KeepBut.trans (by exact sK1 HK.out GW198.out) hk (.inl rfl)); replace HB := Aside0.mk (hb); replace HI0 := Aside0.mk (hi); (try clear hb); (try clear hk); (try clear hi)) | ((with_reducible refine gate_dst (N := 5) rfl ?_); refine bE (N := 5) (cs := #[.int .i64 0, .int .i64 0, .int .i64 0, .int .i64 0]) (t := 50) ?_; intro gb205 hg w9 hbox hb; have n0_ := Aside0.mk (IsS138.below (by exact sI1381 HI0.out NB0_198.out) hb); have n1_ := kb BK198 hb; have n2_ := Aside0.mk (KeepBut.trans (by exact sK1 HK.out GW198.out) (KeepBut.of_below hb g none) (.inl rfl)); have n3_ := Aside0.mk (below_step (by exact sB2 HB.out (IsS138.ge HI0.out) GE198.out) hb); have n4_ := Aside0.mk (hbox); have n5_ := Aside0.mk ((by rw [hg]; exact (keep_size (w := w) (g := g) (row := none) (by exact sK1 HK.out GW198.out)) : w.heap.size ≤ gb205)); have n6_ := Aside0.mk ((Nat.le_trans HW0.out (by rw [hg]; exact (keep_size (w := w) (g := g) (row := none) (by exact sK1 HK.out GW198.out)) : w.heap.size ≤ gb205) : w0.heap.size ≤ gb205)); have n7_ := nl BK198 hg; have n8_ := nr BK198 hg; have n9_ := Aside0.mk ((by rw [hg]; exact Nat.ne_of_lt (IsS138.lt (show IsS138 w0 _ g s0_0 t203 t204 from by exact sI1381 HI0.out NB0_198.out)) : g ≠ gb205)); have n10_ := Aside0.mk ((by rw [hg]; exact Nat.ne_of_gt (IsS138.lt (show IsS138 w0 _ g s0_0 t203 t204 from by exact sI1381 HI0.out NB0_198.out)) : gb205 ≠ g)); clear HI0; clear BK198; clear HK; clear HB; have HI0 := n0_; have BK198 := n1_; have HK := n2_; have HB := n3_; have BK205 := n4_; have GW205 := n5_; have GE205 := n6_; have NB198_205 := n7_; have NB205_198 := n8_; have NB0_205 := n9_; have NB205_0 := n10_; clear n0_ n1_ n2_ n3_ n4_ n5_ n6_ n7_ n8_ n9_ n10_; clear hb hbox hg; have hnb10 := NB205_198.out; have hnc10 := NB198_205.out; have hnb11 := NB205_0.out; have hnc11 := NB0_205.out; obtain ⟨_, _, _, _, _, _, _, _⟩ := blkc4 BK205; have hnb13 := NB198_0.out; have hnc13 := NB0_198.out; obtain ⟨_, _, _, _, _, _, _, _⟩ := blkc4 BK198) | ((with_reducible refine gate_dst (N := 27) rfl ?_); clear TK_; refine gen_world (fun W_ => (W_.heap[gb198]? = some (.cells #[.int .i64 0, .int .i64 0, .int .i64 0, .int .i64 0] 50 (0, 0))) ∧ (W_.heap[gb205]? = some (.cells #[.int .i64 a1, .int .i64 (wrap64 (1 + t199)), .int .i64 t202, .int .i64 t202] 50 (0, 0))) ∧ (IsS138 w0 W_ g s0_0 t203 t204) ∧ (KeepBut w W_ g none) ∧ (Below w0.heap.size w0 W_)) ⟨(kf BK198 NB198_205), (kp BK205), (by exact sI1382 HI0.out NB0_198.out NB0_205.out), (by exact sK2 HK.out GW198.out GW205.out), (by exact sB3 HB.out (IsS138.ge HI0.out) GE198.out GE205.out)⟩ ?_; rintro wz ⟨n0_, n1_, n2_, n3_, n4_⟩; (try clear BK198); (try clear BK205); (try clear HI0); (try clear HK); (try clear HB); have BK198 := Aside0.mk n0_; have BK205 := Aside0.mk n1_; have HI0 := Aside0.mk n2_; have HK := Aside0.mk n3_; have HB := Aside0.mk n4_; clear n0_ n1_ n2_ n3_ n4_; obtain ⟨hcy0, hcy1, hcy2, hcy3, hfy0, hfy1, hfy2, hfy3⟩ := blkc4 BK205; obtain ⟨hcx0, hcx1, hcx2, hcx3, hfx0, hfx1, hfx2, hfx3⟩ := blkc4 BK198))
  refine bodyPost_ret (results_cell_row rfl _ _ gb198 50 #[.int .i64 a1, .int .i64 (wrap64 (1 + t199)), .int .i64 t202, .int .i64 t202] (0, 0) _ rfl (kp BK198) Try.underlying50 rfl (by kernel_rfl)) rfl ?_
  exact ⟨rA, by exact sI1382 HI0.out NB0_198.out NB0_205.out, by exact sB3 HB.out (IsS138.ge HI0.out) GE198.out GE205.out, by exact sK2 HK.out GW198.out GW205.out⟩
 rw [if_neg c5] at H
 have c5b0 : ((wrap64 (1 + t199)) == 2) = false := beq_eq_false_iff_ne.mpr c5
 have c5b1 : ((wrap64 (1 + t199)) != 2) = true := bne_iff_ne.mpr c5
 obtain ⟨⟨t206, t207, t208⟩, A15, H⟩ := bindE H
 try dsimp only at H
 simp only [Option.some.injEq, Prod.mk.injEq] at H
 obtain ⟨rfl, rfl, rfl, rfl, rfl, rfl⟩ := H
 go_enter Try.func174, Try.ntmps174
 try go_wp2_with (first | ((with_reducible refine gate_dst (N := 4) rfl ?_); refine bE (N := 4) (cs := #[.int .i64 0, .int .i64 0, .int .i64 0, .int .i64 0]) (t := 50) ?_; intro gb198 hg w16 hbox hb; have n0_ := Aside0.mk (IsS138.below (by exact sI1380 HI0.out) hb); have n1_ := Aside0.mk (KeepBut.trans (by exact sK0 HK.out) (KeepBut.of_below hb g none) (.inl rfl)); have n2_ := Aside0.mk (below_step (by exact sB1 HB.out (IsS138.ge HI0.out)) hb); have n3_ := Aside0.mk (hbox); have n4_ := Aside0.mk ((by rw [hg]; exact (keep_size (w := w) (g := g) (row := none) (by exact sK0 HK.out)) : w.heap.size ≤ gb198)); have n5_ := Aside0.mk ((Nat.le_trans HW0.out (by rw [hg]; exact (keep_size (w := w) (g := g) (row := none) (by exact sK0 HK.out)) : w.heap.size ≤ gb198) : w0.heap.size ≤ gb198)); have n6_ := Aside0.mk ((by rw [hg]; exact Nat.ne_of_lt (IsS138.lt (show IsS138 w0 _ g s0_0 s0_1 s0_2 from by exact sI1380 HI0.out)) : g ≠ gb198)); have n7_ := Aside0.mk ((by rw [hg]; exact Nat.ne_of_gt (IsS138.lt (show IsS138 w0 _ g s0_0 s0_1 s0_2 from by exact sI1380 HI0.out)) : gb198 ≠ g)); clear HI0; clear HK; clear HB; have HI0 := n0_; have HK := n1_; have HB := n2_; have BK198 := n3_; have GW198 := n4_; have GE198 := n5_; have NB0_198 := n6_; have NB198_0 := n7_; clear n0_ n1_ n2_ n3_ n4_ n5_ n6_ n7_; clear hb hbox hg) | ((with_reducible refine gate_callee (f := 84) rfl ?_); refine gL (some 8) Try.func84 #[.pointer (some ⟨g, 0, none⟩), .int .i64 3] ?_; (with_reducible refine (spec_l1Below.calls g s0_0 s0_1 s0_2 3 t199 t200 t201 w0 _ ?_ ?_ A3.out).mono ?_); exact sI1381 HI0.out NB0_198.out; exact sB2 HB.out (IsS138.ge HI0.out) GE198.out; rintro e w17 ⟨rfl, hi, hb, hk⟩; refine ⟨_, rfl, ?_⟩; replace BK198 := Aside0.mk (KeepBut.blk hk (g' := gb198) (o := .cells #[.int .i64 0, .int .i64 0, .int .i64 0, .int .i64 0] 50 (0, 0)) (bK BK198) NB198_0.out (by simp)); replace HK := Aside0.mk (KeepBut.trans (by exact sK1 HK.out GW198.out) hk (.inl rfl)); replace HB := Aside0.mk (hb); replace HI0 := Aside0.mk (hi); (try clear hb); (try clear hk); (try clear hi)) | ((with_reducible refine gate_callee (f := 84) rfl ?_); refine gL (some 11) Try.func84 #[.pointer (some ⟨g, 0, none⟩), .int .i64 4] ?_; (with_reducible refine (spec_l1Below.calls g s0_0 t200 t201 4 t202 t203 t204 w0 _ ?_ ?_ A4.out).mono ?_); exact sI1381 HI0.out NB0_198.out; exact sB2 HB.out (IsS138.ge HI0.out) GE198.out; rintro e w18 ⟨rfl, hi, hb, hk⟩; refine ⟨_, rfl, ?_⟩; replace BK198 := Aside0.mk (KeepBut.blk hk (g' := gb198) (o := .cells #[.int .i64 0, .int .i64 0, .int .i64 0, .int .i64 0] 50 (0, 0)) (bK BK198) NB198_0.out (by simp)); replace HK := Aside0.mk (KeepBut.trans (by exact sK1 HK.out GW198.out) hk (.inl rfl)); replace HB := Aside0.mk (hb); replace HI0 := Aside0.mk (hi); (try clear hb); (try clear hk); (try clear hi)) | ((with_reducible refine gate_dst (N := 5) rfl ?_); refine bE (N := 5) (cs := #[.int .i64 0, .int .i64 0, .int .i64 0, .int .i64 0]) (t := 50) ?_; intro gb205 hg w19 hbox hb; have n0_ := Aside0.mk (IsS138.below (by exact sI1381 HI0.out NB0_198.out) hb); have n1_ := kb BK198 hb; have n2_ := Aside0.mk (KeepBut.trans (by exact sK1 HK.out GW198.out) (KeepBut.of_below hb g none) (.inl rfl)); have n3_ := Aside0.mk (below_step (by exact sB2 HB.out (IsS138.ge HI0.out) GE198.out) hb); have n4_ := Aside0.mk (hbox); have n5_ := Aside0.mk ((by rw [hg]; exact (keep_size (w := w) (g := g) (row := none) (by exact sK1 HK.out GW198.out)) : w.heap.size ≤ gb205)); have n6_ := Aside0.mk ((Nat.le_trans HW0.out (by rw [hg]; exact (keep_size (w := w) (g := g) (row := none) (by exact sK1 HK.out GW198.out)) : w.heap.size ≤ gb205) : w0.heap.size ≤ gb205)); have n7_ := nl BK198 hg; have n8_ := nr BK198 hg; have n9_ := Aside0.mk ((by rw [hg]; exact Nat.ne_of_lt (IsS138.lt (show IsS138 w0 _ g s0_0 t203 t204 from by exact sI1381 HI0.out NB0_198.out)) : g ≠ gb205)); have n10_ := Aside0.mk ((by rw [hg]; exact Nat.ne_of_gt (IsS138.lt (show IsS138 w0 _ g s0_0 t203 t204 from by exact sI1381 HI0.out NB0_198.out)) : gb205 ≠ g)); clear HI0; clear BK198; clear HK; clear HB; have HI0 := n0_; have BK198 := n1_; have HK := n2_; have HB := n3_; have BK205 := n4_; have GW205 := n5_; have GE205 := n6_; have NB198_205 := n7_; have NB205_198 := n8_; have NB0_205 := n9_; have NB205_0 := n10_; clear n0_ n1_ n2_ n3_ n4_ n5_ n6_ n7_ n8_ n9_ n10_; clear hb hbox hg; have hnb20 := NB205_198.out; have hnc20 := NB198_205.out; have hnb21 := NB205_0.out; have hnc21 := NB0_205.out; obtain ⟨_, _, _, _, _, _, _, _⟩ := blkc4 BK205))
 have n0_ : Aside0 ((((((w19.setCell ⟨gb205, 0, none⟩ (.int .i64 a1)).setCell ⟨gb205, 1, none⟩ (.int .i64 (wrap64 (1 + t199)))).setCell ⟨gb205, 2, none⟩ (.int .i64 t202)).setCell ⟨gb205, 3, none⟩ (.int .i64 0)).setCell ⟨gb205, 3, none⟩ (.int .i64 t202)).heap[gb198]? = some (.cells #[.int .i64 0, .int .i64 0, .int .i64 0, .int .i64 0] 50 (0, 0))) := ⟨kf BK198 NB198_205⟩
 have n1_ : Aside0 ((((((w19.setCell ⟨gb205, 0, none⟩ (.int .i64 a1)).setCell ⟨gb205, 1, none⟩ (.int .i64 (wrap64 (1 + t199)))).setCell ⟨gb205, 2, none⟩ (.int .i64 t202)).setCell ⟨gb205, 3, none⟩ (.int .i64 0)).setCell ⟨gb205, 3, none⟩ (.int .i64 t202)).heap[gb205]? = some (.cells #[.int .i64 a1, .int .i64 (wrap64 (1 + t199)), .int .i64 t202, .int .i64 t202] 50 (0, 0))) := ⟨kp BK205⟩
 have n2_ : Aside0 (IsS138 w0 (((((w19.setCell ⟨gb205, 0, none⟩ (.int .i64 a1)).setCell ⟨gb205, 1, none⟩ (.int .i64 (wrap64 (1 + t199)))).setCell ⟨gb205, 2, none⟩ (.int .i64 t202)).setCell ⟨gb205, 3, none⟩ (.int .i64 0)).setCell ⟨gb205, 3, none⟩ (.int .i64 t202)) g s0_0 t203 t204) := ⟨by exact sI1382 HI0.out NB0_198.out NB0_205.out⟩
 have n3_ : Aside0 (KeepBut w (((((w19.setCell ⟨gb205, 0, none⟩ (.int .i64 a1)).setCell ⟨gb205, 1, none⟩ (.int .i64 (wrap64 (1 + t199)))).setCell ⟨gb205, 2, none⟩ (.int .i64 t202)).setCell ⟨gb205, 3, none⟩ (.int .i64 0)).setCell ⟨gb205, 3, none⟩ (.int .i64 t202)) g none) := ⟨by exact sK2 HK.out GW198.out GW205.out⟩
 have n4_ : Aside0 (Below w0.heap.size w0 (((((w19.setCell ⟨gb205, 0, none⟩ (.int .i64 a1)).setCell ⟨gb205, 1, none⟩ (.int .i64 (wrap64 (1 + t199)))).setCell ⟨gb205, 2, none⟩ (.int .i64 t202)).setCell ⟨gb205, 3, none⟩ (.int .i64 0)).setCell ⟨gb205, 3, none⟩ (.int .i64 t202))) := ⟨by exact sB3 HB.out (IsS138.ge HI0.out) GE198.out GE205.out⟩
 (try clear BK198)
 (try clear BK205)
 (try clear HI0)
 (try clear HK)
 (try clear HB)
 generalize (((((w19.setCell ⟨gb205, 0, none⟩ (.int .i64 a1)).setCell ⟨gb205, 1, none⟩ (.int .i64 (wrap64 (1 + t199)))).setCell ⟨gb205, 2, none⟩ (.int .i64 t202)).setCell ⟨gb205, 3, none⟩ (.int .i64 0)).setCell ⟨gb205, 3, none⟩ (.int .i64 t202)) = w23 at n0_ n1_ n2_ n3_ n4_ ⊢
 have BK198 := n0_
 have BK205 := n1_
 have HI0 := n2_
 have HK := n3_
 have HB := n4_
 clear n0_ n1_ n2_ n3_ n4_
 replace BK198 := dk BK198
 replace BK205 := dk BK205
 replace HI0 := Aside0.mk (IsS138.drew HI0.out)
 replace HK := Aside0.mk (keep_drew HK.out)
 have HBo := HB
 replace HB := db HB
 refine start_ (n := 9) (S := fun w' => w'.cell? ⟨gb205, 0, none⟩ = some (.int .i64 a1) ∧ w'.cell? ⟨gb205, 1, none⟩ = some (.int .i64 (wrap64 (1 + t199))) ∧ w'.cell? ⟨gb205, 2, none⟩ = some (.int .i64 t202) ∧ w'.cell? ⟨gb205, 3, none⟩ = some (.int .i64 t202)) (ds := [8]) (mb 9 0) (by kernel_rfl) rfl rfl (cn4 BK205) (fun hHeld => ?_); refine with_tabW spec_l4Draw.tab4 spec_l4Draw.bits4 (fun HT_ HW_ => ?_)
 generalize w23.drew = w24 at BK198 BK205 HI0 HK HB hHeld ⊢
 refine pa 0 19 (mb 9 1) HT_ ?_
 refine pa 3 22 (mb 9 9) HT_ ?_
 refine ta4 1 20 (mb 9 11) HT_ HW_ hHeld ?_
 refine pa 2 21 (mb 9 15) HT_ ?_
 refine oa 4 23 (mb 9 31) HT_ (fun K hK => ?_)
 refine gA Try.func84 #[.pointer (some ⟨g, 0, none⟩), .int .i64 3] ?_
 with_reducible refine (spec_l1Below.calls g s0_0 t203 t204 3 t206 t207 t208 w0 _ ?side1 ?side2 A15.out).mono ?_
 (case side1 => exact sI1382 HI0.out NB0_198.out NB0_205.out)
 (case side2 => exact sB3 HB.out (IsS138.ge HI0.out) GE198.out GE205.out)
 rintro e w25 ⟨rfl, hi, hb, hk⟩
 refine ⟨_, rfl, ?_⟩
 replace BK198 := Aside0.mk (KeepBut.blk hk (g' := gb198) (o := .cells #[.int .i64 0, .int .i64 0, .int .i64 0, .int .i64 0] 50 (0, 0)) (bK BK198) NB198_0.out (by simp))
 replace BK205 := Aside0.mk (KeepBut.blk hk (g' := gb205) (o := .cells #[.int .i64 a1, .int .i64 (wrap64 (1 + t199)), .int .i64 t202, .int .i64 t202] 50 (0, 0)) (bK BK205) NB205_0.out (by simp))
 replace HK := Aside0.mk (KeepBut.trans (by exact sK2 HK.out GW198.out GW205.out) hk (.inl rfl))
 replace HB := Aside0.mk (hb)
 replace HI0 := Aside0.mk (hi)
 (try clear hb)
 (try clear hb2)
 (try clear hk)
 (try clear hi)
 refine hK.out _ _ (cn4 BK205) (fun hHeld => ?_)
 clear hK K
 refine nB ?_
 refine pa 5 24 (mb 9 63) HT_ ?_
 refine pa 6 25 (mb 9 127) HT_ ?_
 refine pa 7 26 (mb 9 255) HT_ ?_
 refine last_ (i := 8) (N := none) (mb 9 511) rfl rfl (one_of HT_.out (by kernel_rfl)) (by decide) (fun K hK => ?_)
 have hs26 : w25.cell? ⟨gb205, 3, none⟩ = some (.int .i64 t202) := bC BK205 3
 have hfs26 := blk_frozen BK205.out 3
 have hns26_0 := NB198_205.out
 have hms26_0 := NB205_198.out
 refine skip_ (w1 := ?_) (by rfl) rfl ?_ ?_
 rotate_left
 ·
  go_simp
  rfl
 refine hK.out _ _ ?_
 clear hK K
 refine eA HT_ ?_
 obtain ⟨_, _, _, _, _, _, _, _⟩ := blkc4 BK205
 have hnb28 := NB198_0.out
 have hnc28 := NB0_198.out
 obtain ⟨_, _, _, _, _, _, _, _⟩ := blkc4 BK198
 try go_wp2
 refine bodyPost_ret (results_cell_row rfl _ _ gb198 50 #[.int .i64 a1, .int .i64 (wrap64 (1 + t199)), .int .i64 t202, .int .i64 (Int.tmod (wrap64 ((wrap64 (t202 + 1)) + t206)) 4)] (0, 0) _ rfl (kP BK198 NB198_205) Try.underlying50 rfl (by kernel_rfl)) rfl ?_
 exact ⟨rA, by exact sI1382 HI0.out NB0_198.out NB0_205.out, by exact sB3 HB.out (IsS138.ge HI0.out) GE198.out GE205.out, by exact sK2 HK.out GW198.out GW205.out⟩

/-! ### spec_l5Draw: function 150 -/
def spec_l5Draw.l0 : Nat → List (S50) → Int → List Int → Int → Int → Option ((List (S50)) × Int × Int)
 | 0, _, _, _, _, _ => none
 | k + 1, x3, x4, x1000, x1001, x1002 => (spec_l1Below.f x1000 x1001 x1002 6).bind fun bt212 => (if x4 ≤ (wrap64 (2 + bt212.1)) then ((spec_l4Draw.f x1000 bt212.2.1 bt212.2.2 x4).bind fun bt215 => (if x3.length < 4398046511104 then (spec_l5Draw.l0 k (x3 ++ [(⟨bt215.1, bt215.2.1, bt215.2.2.1, bt215.2.2.2.1⟩ : S50)]) (wrap64 (x4 + 1)) x1000 bt215.2.2.2.2.1 bt215.2.2.2.2.2) else (none))) else (some (x3, bt212.2.1, bt212.2.2)))
def spec_l5Draw.f (k : Nat) (s0_0 : List Int) (s0_1 : Int) (s0_2 : Int) : Option ((List (S50)) × Int × Int) := spec_l5Draw.l0 k (([] : List (S50))) 1 s0_0 s0_1 s0_2
theorem spec_l5Draw.mono_l : ∀ k, (∀ y0 y1 y2 y3 y4, LeO (spec_l5Draw.l0 k y0 y1 y2 y3 y4) (spec_l5Draw.l0 (k + 1) y0 y1 y2 y3 y4))
 | 0 => fun _ _ _ _ _ r h => by simp [spec_l5Draw.l0] at h
 | k + 1 => by
  have ih0 := spec_l5Draw.mono_l k
  ·
   intro y0 y1 y2 y3 y4
   unfold spec_l5Draw.l0
   exact mz1 ih0
theorem spec_l5Draw.mono : ∀ a0 a1 a2 k, LeO (spec_l5Draw.f k a0 a1 a2) (spec_l5Draw.f (k + 1) a0 a1 a2) := by
 intro a0 a1 a2 k
 have ih0 := spec_l5Draw.mono_l k
 unfold spec_l5Draw.f
 exact mz1 ih0
set_option maxHeartbeats 8000000 in
set_option maxRecDepth 100000 in
theorem spec_l5Draw.calls (k : Nat) (g : Nat) (s0_0 : List Int) (s0_1 : Int) (s0_2 : Int) (r1 : List (S50)) (r2 : Int) (r3 : Int) (w0 w : World) (hI : IsS138 w0 w g s0_0 s0_1 s0_2) (hB : Below w0.heap.size w0 w) (h : spec_l5Draw.f k s0_0 s0_1 s0_2 = some (r1, r2, r3)) :
  Calls Try.prog 150 #[.pointer (some ⟨g, 0, none⟩)] w fun e w' => ∃ v0_ : Value, e = .returned (v0_) ∧ Kd.R k50 50 w' w.heap.size (fun _ => True) v0_ r1 ∧ IsS138 w0 w' g s0_0 r2 r3 ∧ Below w0.heap.size w0 w' ∧ KeepBut w w' g none := by
 have HI0 := Aside0.mk hI
 have HK := Aside0.mk (KeepBut.refl w g none)
 have HL := Aside0.mk hB.size
 clear hI
 have HW0 := Aside0.mk hB.size
 have HB := Aside0.mk hB
 clear hB
 have H : (spec_l5Draw.l0 k (([] : List (S50))) 1 s0_0 s0_1 s0_2) = some (r1, r2, r3) := h
 clear h
 obtain ⟨y209, hy209⟩ : ∃ y_ : List (S50), y_ = (([] : List (S50))) := ⟨_, rfl⟩
 replace H : (spec_l5Draw.l0 k y209 1 s0_0 s0_1 s0_2) = some (r1, r2, r3) := rH H hy209
 have Ny209 := Aside0.mk hy209
 clear hy209
 have H' := Aside0.mk H
 clear H
 go_enter Try.func150, Try.ntmps150
 go_wp2_with (first | ((with_reducible refine gate_dst (N := 5) rfl ?_); refine Kd.R_lit k50 _ 50 ?hg (N := 5) ?hd (xs := ([] : List (S50))) (inner := []) (ok := fun _ => True) (okp := fun _ => True) ?hr ?hp (fun _ hk => hk) trivial (Below.refl _ _) (Nat.le_refl _) (by simp) ?_; (case hd => rfl); (case hg => rfl); (case hr => first | (go_simp; done) | (go_simp; rfl)); (case hp => exact (Reps.none _ _)); intro v210 w2 ho3 hb hg_ hnew_; clear hg_ hnew_; (first | rw [← Ny209.out] at ho3 | (simp only [Int.reduceToNat] at ho3; rw [← Ny209.out] at ho3)); have HO211 := Aside0.mk (Kd.R_lower ho3 (keep_size (w := w) (g := g) (row := none) (by exact sK0 HK.out))); replace HK := Aside0.mk (KeepBut.trans (by exact sK0 HK.out) (KeepBut.of_below hb g none) (.inl rfl)); replace HB := Aside0.mk (below_step (by exact sB1 HB.out (IsS138.ge HI0.out)) hb); replace HI0 := Aside0.mk (IsS138.below (by exact sI1380 HI0.out) hb); clear hb ho3))
 go_loopg [3, 4] k (fun kq v3 v4 w' => ∃ (x3_1 : List (S50)) (x4_1 : Int) (x1001_1 : Int) (x1002_1 : Int), v4 = .int .i64 x4_1 ∧ Aside0 (spec_l5Draw.l0 kq x3_1 x4_1 s0_0 x1001_1 x1002_1 = some (r1, r2, r3)) ∧ Aside0 (kq ≤ k) ∧ Aside0 (Kd.R k50 50 w' w.heap.size (fun _ => True) v3 x3_1) ∧ Aside0 (IsS138 w0 w' g s0_0 x1001_1 x1002_1) ∧ Aside0 (KeepBut w w' g none) ∧ Aside0 (Below w0.heap.size w0 w'))
 case atStart => exact ⟨(y209), (1), (s0_1), (s0_2), rS, H', ⟨Nat.le_refl _⟩, ⟨rK HO211⟩, ⟨by exact sI1380 HI0.out⟩, ⟨by exact sK0 HK.out⟩, ⟨by exact sB1 HB.out (IsS138.ge HI0.out)⟩⟩
 case round =>
  clear H'
  obtain ⟨x3_1, x4_1, x1001_1, x1002_1, rfl, HA, HK1, HO_3, HI0, HK, HB⟩ := hrel
  cases gk with
  | zero => exact absurd HA.out (by simp [spec_l5Draw.l0])
  | succ k1 =>
   have H := HA.out
   clear HA
   simp only [spec_l5Draw.l0] at H
   obtain ⟨⟨t212, t213, t214⟩, A4, H⟩ := bindE H
   try dsimp only at H
   by_cases c5 : x4_1 ≤ (wrap64 (2 + t212))
   ·
    rw [if_pos c5] at H
    have c5b0 := decide_eq_true c5
    clear c5
    obtain ⟨⟨t215, t216, t217, t218, t219, t220⟩, A6, H⟩ := bindE H
    try dsimp only at H
    have c7 : x3_1.length < 4398046511104 := ifN H
    replace H := ifT H
    have LMc7 := Aside0.mk c7
    clear c7
    obtain ⟨y221, hy221⟩ : ∃ y_ : List (S50), y_ = (x3_1 ++ [(⟨t215, t216, t217, t218⟩ : S50)]) := ⟨_, rfl⟩
    replace H : (spec_l5Draw.l0 k1 y221 (wrap64 (x4_1 + 1)) s0_0 t219 t220) = some (r1, r2, r3) := rH H hy221
    have Ny221 := Aside0.mk hy221
    clear hy221
    have H' := Aside0.mk H
    clear H
    go_wp2_with (first | ((with_reducible refine gate_callee (f := 84) rfl ?_); refine gL (some 8) Try.func84 #[.pointer (some ⟨g, 0, none⟩), .int .i64 6] ?_; (with_reducible refine (spec_l1Below.calls g s0_0 x1001_1 x1002_1 6 t212 t213 t214 w0 _ ?_ ?_ A4.out).mono ?_); exact sI1380 HI0.out; exact sB1 HB.out (IsS138.ge HI0.out); rintro e w8 ⟨rfl, hi, hb, hk⟩; refine ⟨_, rfl, ?_⟩; replace HO_3 := Aside0.mk (Kd.R_mono (Kd.R_keep (IsS138.apart (show IsS138 w0 _ g s0_0 x1001_1 x1002_1 from by exact sI1380 HI0.out) (rK HO_3) (by decide)) hk (fun _ h => h.2)) (fun _ h => h.1)); replace HK := Aside0.mk (KeepBut.trans (by exact sK0 HK.out) hk (.inl rfl)); replace HB := Aside0.mk (hb); replace HI0 := Aside0.mk (hi); (try clear hb); (try clear hk); (try clear hi)) | ((with_reducible refine gate_callee (f := 174) rfl ?_); refine gL (some 16) Try.func174 #[.pointer (some ⟨g, 0, none⟩), .int .i64 x4_1] ?_; (with_reducible refine (spec_l4Draw.calls g s0_0 t213 t214 x4_1 t215 t216 t217 t218 t219 t220 w0 _ ?_ ?_ A6.out).mono ?_); exact sI1380 HI0.out; exact sB1 HB.out (IsS138.ge HI0.out); rintro e w9 ⟨rfl, hi, hb, hk⟩; refine ⟨_, rfl, ?_⟩; replace HO_3 := Aside0.mk (Kd.R_mono (Kd.R_keep (IsS138.apart (show IsS138 w0 _ g s0_0 t213 t214 from by exact sI1380 HI0.out) (rK HO_3) (by decide)) hk (fun _ h => h.2)) (fun _ h => h.1)); replace HK := Aside0.mk (KeepBut.trans (by exact sK0 HK.out) hk (.inl rfl)); replace HB := Aside0.mk (hb); replace HI0 := Aside0.mk (hi); (try clear hb); (try clear hk); (try clear hi)) | ((with_reducible refine gate_builtin (b := .append) (xs := #[.tmp 13, .tmp 17]) rfl ?_); at_builtin; refine Kd.R_append k50 w.heap.size rfl (.tmp 13) (.tmp 17) 24 50 (.agg #[(.int .i64 0), (.int .i64 0), (.int .i64 0), (.int .i64 0)]) 32 rfl Try.underlying24 info50 rfl (by decide) (by omega) u3 x3_1 (⟨t215, t216, t217, t218⟩ : S50) [.int .i64 t215, .int .i64 t216, .int .i64 t217, .int .i64 t218] (fun _ => True) (fun _ => False) rfl rfl ?aP (fun _ hk => hk.elim) ?aF ?aO (Below.refl _ _) ?aS ?aL ?_; (case aP => exact k50_mkM _ _ _ (⟨t215, t216, t217, t218⟩ : S50)); (case aF => exact (fun _ _ => trivial)); (case aO => exact (rK HO_3)); (case aS => exact (keep_size (w := w) (g := g) (row := none) (by exact sK0 HK.out))); (case aL => have := LMc7.out; omega); intro v222 w10 ho hb hg hat; rw [← Ny221.out] at ho; have n0_ := Aside0.mk (IsS138.grown (by exact sI1380 HI0.out) hg (IsS138.own_ne HI0.out HO_3.out (by decide))); have n1_ := Aside0.mk (below_weaken (by exact sB1 HB.out (IsS138.ge HI0.out)) HL.out hb); have n2_ := Aside0.mk (KeepBut.trans (by exact sK0 HK.out) (KeepBut.of_grown hg g) (Kd.R_base2 HO_3.out)); have n3_ := Aside0.mk (ho); clear HI0; clear HB; clear HK; clear HO_3; have HI0 := n0_; have HB := n1_; have HK := n2_; have HO223 := n3_; clear n0_ n1_ n2_ n3_; clear ho hb hg hat))
    go_roundg k1
    case measure => have := HK1.out; omega
    case rel => exact ⟨(y221), (wrap64 (x4_1 + 1)), (t219), (t220), rS, H', ⟨by have := HK1.out; omega⟩, ⟨rK HO223⟩, ⟨by exact sI1380 HI0.out⟩, ⟨by exact sK0 HK.out⟩, ⟨by exact sB1 HB.out (IsS138.ge HI0.out)⟩⟩
   rw [if_neg c5] at H
   have c5b0 := decide_eq_false c5
   clear c5
   simp only [Option.some.injEq, Prod.mk.injEq] at H
   obtain ⟨rfl, rfl, rfl⟩ := H
   go_wp2_with (first | ((with_reducible refine gate_callee (f := 84) rfl ?_); refine gL (some 8) Try.func84 #[.pointer (some ⟨g, 0, none⟩), .int .i64 6] ?_; (with_reducible refine (spec_l1Below.calls g s0_0 x1001_1 x1002_1 6 t212 t213 t214 w0 _ ?_ ?_ A4.out).mono ?_); exact sI1380 HI0.out; exact sB1 HB.out (IsS138.ge HI0.out); rintro e w11 ⟨rfl, hi, hb, hk⟩; refine ⟨_, rfl, ?_⟩; replace HO_3 := Aside0.mk (Kd.R_mono (Kd.R_keep (IsS138.apart (show IsS138 w0 _ g s0_0 x1001_1 x1002_1 from by exact sI1380 HI0.out) (rK HO_3) (by decide)) hk (fun _ h => h.2)) (fun _ h => h.1)); replace HK := Aside0.mk (KeepBut.trans (by exact sK0 HK.out) hk (.inl rfl)); replace HB := Aside0.mk (hb); replace HI0 := Aside0.mk (hi); (try clear hb); (try clear hk); (try clear hi)))
   go_ret
   exact ⟨_, rA, rK HO_3, by exact sI1380 HI0.out, by exact sB1 HB.out (IsS138.ge HI0.out), by exact sK0 HK.out⟩

/-! ### spec_l1In: function 111 -/
def spec_l1In.f (a0 : Int) (a1 : Int) (a2 : Int) : Option (Bool) := if a0 ≥ a1 then (some (decide (a0 ≤ a2))) else (some false)
set_option maxHeartbeats 8000000 in
set_option maxRecDepth 100000 in
theorem spec_l1In.calls (a0 : Int) (a1 : Int) (a2 : Int) (r : Bool) (w : World) (h : spec_l1In.f a0 a1 a2 = some r) :
  Calls Try.prog 111 #[.int .i64 a0, .int .i64 a1, .int .i64 a2] w fun e w' => e = .returned (.bool r) ∧ Drawn0 w w' := by
 have H : (if a0 ≥ a1 then (some (decide (a0 ≤ a2))) else (some false)) = some r := h
 clear h
 by_cases c4 : a0 ≥ a1
 ·
  rw [if_pos c4] at H
  have c4b0 := decide_eq_true c4
  clear c4
  obtain rfl := Option.some.inj H
  go_enter Try.func111, Try.ntmps111
  go_wp2
  go_ret
  exact ⟨rS, dD⟩
 rw [if_neg c4] at H
 have c4b0 := decide_eq_false c4
 clear c4
 obtain rfl := Option.some.inj H
 go_enter Try.func111, Try.ntmps111
 go_wp2
 go_ret
 exact ⟨rS, dD⟩

/-! ### spec_IsPath: function 91 -/
def spec_IsPath.f (a0_0 : Int) (a0_1 : Int) (a0_2 : Int) (a0_3 : Int) : Option (Bool) := (spec_l1In.f a0_0 1 20).bind fun t225 => (if t225 = true then ((spec_l1In.f a0_1 1 3).bind fun t226 => (if t226 = true then ((spec_l1In.f a0_2 0 3).bind fun t227 => (if t227 = true then ((spec_l1In.f a0_3 0 3).bind fun t228 => (if t228 = true then (some ((a0_2 == a0_3) == (a0_1 == 2))) else (some false))) else (some false))) else (some false))) else (some false))
set_option maxHeartbeats 8000000 in
set_option maxRecDepth 100000 in
theorem spec_IsPath.calls (a0_0 : Int) (a0_1 : Int) (a0_2 : Int) (a0_3 : Int) (r : Bool) (w : World) (h : spec_IsPath.f a0_0 a0_1 a0_2 a0_3 = some r) :
  Calls Try.prog 91 #[.agg #[.int .i64 a0_0, .int .i64 a0_1, .int .i64 a0_2, .int .i64 a0_3]] w fun e w' => e = .returned (.bool r) ∧ Below w.heap.size w w' := by
 have hu50 := Try.underlying50
 have HB := Aside0.mk (Below.refl w.heap.size w)
 have H : ((spec_l1In.f a0_0 1 20).bind fun t225 => (if t225 = true then ((spec_l1In.f a0_1 1 3).bind fun t226 => (if t226 = true then ((spec_l1In.f a0_2 0 3).bind fun t227 => (if t227 = true then ((spec_l1In.f a0_3 0 3).bind fun t228 => (if t228 = true then (some ((a0_2 == a0_3) == (a0_1 == 2))) else (some false))) else (some false))) else (some false))) else (some false))) = some r := h
 clear h
 obtain ⟨t225, A2, H⟩ := bindE H
 try dsimp only at H
 by_cases c3 : t225 = true
 ·
  subst c3
  have H1 : ((spec_l1In.f a0_1 1 3).bind fun t226 => (if t226 = true then ((spec_l1In.f a0_2 0 3).bind fun t227 => (if t227 = true then ((spec_l1In.f a0_3 0 3).bind fun t228 => (if t228 = true then (some ((a0_2 == a0_3) == (a0_1 == 2))) else (some false))) else (some false))) else (some false))) = some r := by rw [if_pos rfl] at H; exact H
  clear H
  have H := H1
  clear H1
  obtain ⟨t226, A4, H⟩ := bindE H
  try dsimp only at H
  by_cases c5 : t226 = true
  ·
   subst c5
   have H1 : ((spec_l1In.f a0_2 0 3).bind fun t227 => (if t227 = true then ((spec_l1In.f a0_3 0 3).bind fun t228 => (if t228 = true then (some ((a0_2 == a0_3) == (a0_1 == 2))) else (some false))) else (some false))) = some r := by rw [if_pos rfl] at H; exact H
   clear H
   have H := H1
   clear H1
   obtain ⟨t227, A6, H⟩ := bindE H
   try dsimp only at H
   by_cases c7 : t227 = true
   ·
    subst c7
    have H1 : ((spec_l1In.f a0_3 0 3).bind fun t228 => (if t228 = true then (some ((a0_2 == a0_3) == (a0_1 == 2))) else (some false))) = some r := by rw [if_pos rfl] at H; exact H
    clear H
    have H := H1
    clear H1
    obtain ⟨t228, A8, H⟩ := bindE H
    try dsimp only at H
    by_cases c9 : t228 = true
    ·
     subst c9
     have H1 : (some ((a0_2 == a0_3) == (a0_1 == 2))) = some r := by rw [if_pos rfl] at H; exact H
     clear H
     have H := H1
     clear H1
     obtain rfl := Option.some.inj H
     go_enter Try.func91, Try.ntmps91
     go_wp2_with (first | ((with_reducible refine gate_dst (N := 1) rfl ?_); refine bE (N := 1) (cs := #[.int .i64 a0_0, .int .i64 a0_1, .int .i64 a0_2, .int .i64 a0_3]) (t := 50) ?_; intro gb224 hg w10 hbox hb; have BK224 := Aside0.mk (hbox); have GW224 := gw w hg; have GE224 := gw w hg; replace HB := bs HB hb; clear hb hbox hg; have hcz11_0 : w10.cell? ⟨gb224, 0, none⟩ = some (.int .i64 a0_0) := bC BK224 0; have hcz11_1 : w10.cell? ⟨gb224, 1, none⟩ = some (.int .i64 a0_1) := bC BK224 1; have hcz11_2 : w10.cell? ⟨gb224, 2, none⟩ = some (.int .i64 a0_2) := bC BK224 2; have hcz11_3 : w10.cell? ⟨gb224, 3, none⟩ = some (.int .i64 a0_3) := bC BK224 3; have hfz11_0 := blk_frozen BK224.out 0; have hfz11_1 := blk_frozen BK224.out 1; have hfz11_2 := blk_frozen BK224.out 2; have hfz11_3 := blk_frozen BK224.out 3) | ((with_reducible refine gate_callee (f := 111) rfl ?_); refine gL (some 5) Try.func111 #[.int .i64 a0_0, .int .i64 1, .int .i64 20] ?_; (with_reducible refine (spec_l1In.calls a0_0 1 20 true _ A2.out).mono ?_); rintro e w' ⟨rfl, ⟨nd, rfl⟩⟩; refine ⟨_, rfl, ?_⟩) | (go_at_call 111; (with_reducible refine (spec_l1In.calls a0_1 1 3 true _ A4.out).mono ?_); rintro e w' ⟨rfl, ⟨nd, rfl⟩⟩) | (go_at_call 111; (with_reducible refine (spec_l1In.calls a0_2 0 3 true _ A6.out).mono ?_); rintro e w' ⟨rfl, ⟨nd, rfl⟩⟩) | (go_at_call 111; (with_reducible refine (spec_l1In.calls a0_3 0 3 true _ A8.out).mono ?_); rintro e w' ⟨rfl, ⟨nd, rfl⟩⟩))
     go_ret
     exact ⟨rA, bG⟩
    replace c9 := Bool.eq_false_iff.mpr c9
    subst c9
    have H1 : (some false) = some r := by rw [if_neg (show ¬ (false = true) by decide)] at H; exact H
    clear H
    have H := H1
    clear H1
    obtain rfl := Option.some.inj H
    go_enter Try.func91, Try.ntmps91
    go_wp2_with (first | ((with_reducible refine gate_dst (N := 1) rfl ?_); refine bE (N := 1) (cs := #[.int .i64 a0_0, .int .i64 a0_1, .int .i64 a0_2, .int .i64 a0_3]) (t := 50) ?_; intro gb224 hg w12 hbox hb; have BK224 := Aside0.mk (hbox); have GW224 := gw w hg; have GE224 := gw w hg; replace HB := bs HB hb; clear hb hbox hg; have hcz13_0 : w12.cell? ⟨gb224, 0, none⟩ = some (.int .i64 a0_0) := bC BK224 0; have hcz13_1 : w12.cell? ⟨gb224, 1, none⟩ = some (.int .i64 a0_1) := bC BK224 1; have hcz13_2 : w12.cell? ⟨gb224, 2, none⟩ = some (.int .i64 a0_2) := bC BK224 2; have hcz13_3 : w12.cell? ⟨gb224, 3, none⟩ = some (.int .i64 a0_3) := bC BK224 3; have hfz13_0 := blk_frozen BK224.out 0; have hfz13_1 := blk_frozen BK224.out 1; have hfz13_2 := blk_frozen BK224.out 2; have hfz13_3 := blk_frozen BK224.out 3) | ((with_reducible refine gate_callee (f := 111) rfl ?_); refine gL (some 5) Try.func111 #[.int .i64 a0_0, .int .i64 1, .int .i64 20] ?_; (with_reducible refine (spec_l1In.calls a0_0 1 20 true _ A2.out).mono ?_); rintro e w' ⟨rfl, ⟨nd, rfl⟩⟩; refine ⟨_, rfl, ?_⟩) | (go_at_call 111; (with_reducible refine (spec_l1In.calls a0_1 1 3 true _ A4.out).mono ?_); rintro e w' ⟨rfl, ⟨nd, rfl⟩⟩) | (go_at_call 111; (with_reducible refine (spec_l1In.calls a0_2 0 3 true _ A6.out).mono ?_); rintro e w' ⟨rfl, ⟨nd, rfl⟩⟩) | (go_at_call 111; (with_reducible refine (spec_l1In.calls a0_3 0 3 false _ A8.out).mono ?_); rintro e w' ⟨rfl, ⟨nd, rfl⟩⟩))
    go_ret
    exact ⟨rA, bG⟩
   replace c7 := Bool.eq_false_iff.mpr c7
   subst c7
   have H1 : (some false) = some r := by rw [if_neg (show ¬ (false = true) by decide)] at H; exact H
   clear H
   have H := H1
   clear H1
   obtain rfl := Option.some.inj H
   go_enter Try.func91, Try.ntmps91
   go_wp2_with (first | ((with_reducible refine gate_dst (N := 1) rfl ?_); refine bE (N := 1) (cs := #[.int .i64 a0_0, .int .i64 a0_1, .int .i64 a0_2, .int .i64 a0_3]) (t := 50) ?_; intro gb224 hg w14 hbox hb; have BK224 := Aside0.mk (hbox); have GW224 := gw w hg; have GE224 := gw w hg; replace HB := bs HB hb; clear hb hbox hg; have hcz15_0 : w14.cell? ⟨gb224, 0, none⟩ = some (.int .i64 a0_0) := bC BK224 0; have hcz15_1 : w14.cell? ⟨gb224, 1, none⟩ = some (.int .i64 a0_1) := bC BK224 1; have hcz15_2 : w14.cell? ⟨gb224, 2, none⟩ = some (.int .i64 a0_2) := bC BK224 2; have hcz15_3 : w14.cell? ⟨gb224, 3, none⟩ = some (.int .i64 a0_3) := bC BK224 3; have hfz15_0 := blk_frozen BK224.out 0; have hfz15_1 := blk_frozen BK224.out 1; have hfz15_2 := blk_frozen BK224.out 2; have hfz15_3 := blk_frozen BK224.out 3) | ((with_reducible refine gate_callee (f := 111) rfl ?_); refine gL (some 5) Try.func111 #[.int .i64 a0_0, .int .i64 1, .int .i64 20] ?_; (with_reducible refine (spec_l1In.calls a0_0 1 20 true _ A2.out).mono ?_); rintro e w' ⟨rfl, ⟨nd, rfl⟩⟩; refine ⟨_, rfl, ?_⟩) | (go_at_call 111; (with_reducible refine (spec_l1In.calls a0_1 1 3 true _ A4.out).mono ?_); rintro e w' ⟨rfl, ⟨nd, rfl⟩⟩) | (go_at_call 111; (with_reducible refine (spec_l1In.calls a0_2 0 3 false _ A6.out).mono ?_); rintro e w' ⟨rfl, ⟨nd, rfl⟩⟩))
   go_ret
   exact ⟨rA, bG⟩
  replace c5 := Bool.eq_false_iff.mpr c5
  subst c5
  have H1 : (some false) = some r := by rw [if_neg (show ¬ (false = true) by decide)] at H; exact H
  clear H
  have H := H1
  clear H1
  obtain rfl := Option.some.inj H
  go_enter Try.func91, Try.ntmps91
  go_wp2_with (first | ((with_reducible refine gate_dst (N := 1) rfl ?_); refine bE (N := 1) (cs := #[.int .i64 a0_0, .int .i64 a0_1, .int .i64 a0_2, .int .i64 a0_3]) (t := 50) ?_; intro gb224 hg w16 hbox hb; have BK224 := Aside0.mk (hbox); have GW224 := gw w hg; have GE224 := gw w hg; replace HB := bs HB hb; clear hb hbox hg; have hcz17_0 : w16.cell? ⟨gb224, 0, none⟩ = some (.int .i64 a0_0) := bC BK224 0; have hcz17_1 : w16.cell? ⟨gb224, 1, none⟩ = some (.int .i64 a0_1) := bC BK224 1; have hcz17_2 : w16.cell? ⟨gb224, 2, none⟩ = some (.int .i64 a0_2) := bC BK224 2; have hcz17_3 : w16.cell? ⟨gb224, 3, none⟩ = some (.int .i64 a0_3) := bC BK224 3; have hfz17_0 := blk_frozen BK224.out 0; have hfz17_1 := blk_frozen BK224.out 1; have hfz17_2 := blk_frozen BK224.out 2; have hfz17_3 := blk_frozen BK224.out 3) | ((with_reducible refine gate_callee (f := 111) rfl ?_); refine gL (some 5) Try.func111 #[.int .i64 a0_0, .int .i64 1, .int .i64 20] ?_; (with_reducible refine (spec_l1In.calls a0_0 1 20 true _ A2.out).mono ?_); rintro e w' ⟨rfl, ⟨nd, rfl⟩⟩; refine ⟨_, rfl, ?_⟩) | (go_at_call 111; (with_reducible refine (spec_l1In.calls a0_1 1 3 false _ A4.out).mono ?_); rintro e w' ⟨rfl, ⟨nd, rfl⟩⟩))
  go_ret
  exact ⟨rA, bG⟩
 replace c3 := Bool.eq_false_iff.mpr c3
 subst c3
 have H1 : (some false) = some r := by rw [if_neg (show ¬ (false = true) by decide)] at H; exact H
 clear H
 have H := H1
 clear H1
 obtain rfl := Option.some.inj H
 go_enter Try.func91, Try.ntmps91
 go_wp2_with (first | ((with_reducible refine gate_dst (N := 1) rfl ?_); refine bE (N := 1) (cs := #[.int .i64 a0_0, .int .i64 a0_1, .int .i64 a0_2, .int .i64 a0_3]) (t := 50) ?_; intro gb224 hg w18 hbox hb; have BK224 := Aside0.mk (hbox); have GW224 := gw w hg; have GE224 := gw w hg; replace HB := bs HB hb; clear hb hbox hg; have hcz19_0 : w18.cell? ⟨gb224, 0, none⟩ = some (.int .i64 a0_0) := bC BK224 0; have hcz19_1 : w18.cell? ⟨gb224, 1, none⟩ = some (.int .i64 a0_1) := bC BK224 1; have hcz19_2 : w18.cell? ⟨gb224, 2, none⟩ = some (.int .i64 a0_2) := bC BK224 2; have hcz19_3 : w18.cell? ⟨gb224, 3, none⟩ = some (.int .i64 a0_3) := bC BK224 3; have hfz19_0 := blk_frozen BK224.out 0; have hfz19_1 := blk_frozen BK224.out 1; have hfz19_2 := blk_frozen BK224.out 2; have hfz19_3 := blk_frozen BK224.out 3) | ((with_reducible refine gate_callee (f := 111) rfl ?_); refine gL (some 5) Try.func111 #[.int .i64 a0_0, .int .i64 1, .int .i64 20] ?_; (with_reducible refine (spec_l1In.calls a0_0 1 20 false _ A2.out).mono ?_); rintro e w' ⟨rfl, ⟨nd, rfl⟩⟩; refine ⟨_, rfl, ?_⟩))
 go_ret
 exact ⟨rA, bG⟩

/-! ### spec_ArePaths: function 33 -/
def spec_ArePaths.l0 : Nat → List (S50) → Int → Option (Bool)
 | 0, _, _ => none
 | k + 1, x0, x3 => if x3 < (x0.length : Int) then (if 0 ≤ x3 then ((spec_IsPath.f ((rd_T50 x0 x3).f0) ((rd_T50 x0 x3).f1) ((rd_T50 x0 x3).f2) ((rd_T50 x0 x3).f3)).bind fun t230 => (if t230 = true then (if x3 > 0 then (if 0 ≤ (wrap64 (x3 - 1)) then (if (wrap64 (x3 - 1)) < (x0.length : Int) then (if ((rd_T50 x0 (wrap64 (x3 - 1))).f0) ≥ ((rd_T50 x0 x3).f0) then (some false) else (spec_ArePaths.l0 k x0 (wrap64 (x3 + 1)))) else (none)) else (none)) else (spec_ArePaths.l0 k x0 (wrap64 (x3 + 1)))) else (some false))) else (none)) else (some (decide ((x0.length : Int) ≤ 12)))
def spec_ArePaths.f (k : Nat) (l0 : List (S50)) : Option (Bool) := spec_ArePaths.l0 k l0 0
theorem spec_ArePaths.mono_l : ∀ k, (∀ y0 y1, LeO (spec_ArePaths.l0 k y0 y1) (spec_ArePaths.l0 (k + 1) y0 y1))
 | 0 => fun _ _ r h => by simp [spec_ArePaths.l0] at h
 | k + 1 => by
  have ih0 := spec_ArePaths.mono_l k
  ·
   intro y0 y1
   unfold spec_ArePaths.l0
   exact mz1 ih0
theorem spec_ArePaths.mono : ∀ a0 k, LeO (spec_ArePaths.f k a0) (spec_ArePaths.f (k + 1) a0) := by
 intro a0 k
 have ih0 := spec_ArePaths.mono_l k
 unfold spec_ArePaths.f
 exact mz1 ih0
def spec_ArePaths.T4 : Bool × List (List Nat × List Nat) := (true, [([], []), ([], []), ([0, 1], [0, 1]), ([2], [2]), ([3], [3]), ([4], [4]), ([5, 4], [5]), ([6], [6]), ([7, 6], [6, 7]), ([8, 6, 6], [6, 8]), ([9], [9]), ([9], [9]), ([11, 9], [9, 11]), ([10, 12, 9], [9, 10, 12]), ([13, 9], [9, 13]), ([14, 9], [9, 14]), ([9], [9]), ([9], [9]), ([16, 17, 9], [9, 16, 17]), ([18, 9], [9, 18]), ([19, 9], [9, 19]), ([15, 20, 9], [9, 15, 20]), ([9, 21, 6], [6, 9, 21]), ([6, 22], [6, 22])])
def spec_ArePaths.B4 : List Nat := [0, 0, 3, 7, 15, 31, 63, 127, 255, 511, 1023, 1023, 3071, 8191, 16383, 32767, 1023, 1023, 197631, 459775, 984063, 2097151, 4194303, 8388607]
theorem spec_ArePaths.tab4 : rtab .any (opsOf Try.f33 4) = spec_ArePaths.T4 := by kernel_rfl
theorem spec_ArePaths.bits4 : waitsOk spec_ArePaths.T4.2 spec_ArePaths.B4 = true := by kernel_rfl
set_option maxHeartbeats 8000000 in
set_option maxRecDepth 100000 in
theorem spec_ArePaths.calls (k : Nat) (A0 : Option Addr) (c0 : Nat) (l0 : List (S50)) (r : Bool) (w : World) (hr0 : Kd.C k50 w A0 l0.length l0) (hc0 : l0.length ≤ c0) (h : spec_ArePaths.f k l0 = some r) :
  Calls Try.prog 33 #[.slice A0 l0.length c0] w fun e w' => e = .returned (.bool r) ∧ Below w.heap.size w w' := by
 have hu50 := Try.underlying50
 have HR0 := Aside0.mk hr0
 have HC0 := Aside0.mk hc0
 clear hr0 hc0
 have HB := Aside0.mk (Below.refl w.heap.size w)
 have H : (spec_ArePaths.l0 k l0 0) = some r := h
 clear h
 have H' := Aside0.mk H
 clear H
 go_enter Try.func33, Try.ntmps33
 go_wp2
 go_loopg [3] k (fun kq v3 w' => ∃ (x3_1 : Int), v3 = .int .i64 x3_1 ∧ Aside0 (spec_ArePaths.l0 kq l0 x3_1 = some r) ∧ Aside0 (kq ≤ k) ∧ Aside0 (Below w.heap.size w w'))
 case atStart => exact ⟨(0), rS, H', ⟨Nat.le_refl _⟩, ⟨bA⟩⟩
 case round =>
  clear H'
  obtain ⟨x3_1, rfl, HA, HK1, HB⟩ := hrel
  cases gk with
  | zero => exact absurd HA.out (by simp [spec_ArePaths.l0])
  | succ k1 =>
   have H := HA.out
   clear HA
   simp only [spec_ArePaths.l0] at H
   by_cases c2 : x3_1 < (l0.length : Int)
   ·
    rw [if_pos c2] at H
    have c2b0 := decide_eq_true c2
    clear c2
    have c3 : 0 ≤ x3_1 := ifN H
    replace H := ifT H
    have c3b0 := decide_eq_true c3
    clear c3
    obtain ⟨t230, A4, H⟩ := bindE H
    try dsimp only at H
    by_cases c5 : t230 = true
    ·
     subst c5
     have H1 : (if x3_1 > 0 then (if 0 ≤ (wrap64 (x3_1 - 1)) then (if (wrap64 (x3_1 - 1)) < (l0.length : Int) then (if ((rd_T50 l0 (wrap64 (x3_1 - 1))).f0) ≥ ((rd_T50 l0 x3_1).f0) then (some false) else (spec_ArePaths.l0 k1 l0 (wrap64 (x3_1 + 1)))) else (none)) else (none)) else (spec_ArePaths.l0 k1 l0 (wrap64 (x3_1 + 1)))) = some r := by rw [if_pos rfl] at H; exact H
     clear H
     have H := H1
     clear H1
     by_cases c6 : x3_1 > 0
     ·
      rw [if_pos c6] at H
      have c6b0 := decide_eq_true c6
      clear c6
      obtain ⟨ji7, hji7⟩ : ∃ j_ : Int, (wrap64 (x3_1 - 1)) = j_ := ⟨_, rfl⟩
      replace H : (if 0 ≤ (ji7) then (if (ji7) < (l0.length : Int) then (if ((rd_T50 l0 (ji7)).f0) ≥ ((rd_T50 l0 x3_1).f0) then (some false) else (spec_ArePaths.l0 k1 l0 (wrap64 (x3_1 + 1)))) else (none)) else (none)) = some r := by first | (rw [hji7] at H; exact H) | (simp only [hji7] at H ⊢; exact H)
      (try rw [hji7] at A4)
      have hji7w : (IntKind.i64.wrap (x3_1 - 1)) = ji7 := (i64_w _).trans hji7
      have c8 : 0 ≤ (ji7) := ifN H
      replace H := ifT H
      have c8b0 := decide_eq_true c8
      clear c8
      have c9 : (ji7) < (l0.length : Int) := ifN H
      replace H := ifT H
      have c9b0 := decide_eq_true c9
      clear c9
      by_cases c10 : ((rd_T50 l0 (ji7)).f0) ≥ ((rd_T50 l0 x3_1).f0)
      ·
       rw [if_pos c10] at H
       have c10b0 := decide_eq_true c10
       clear c10
       obtain rfl := Option.some.inj H
       try go_wp2
       have HBo := HB
       replace HB := db HB
       obtain ⟨p229, q229⟩ : 0 ≤ (x3_1 : Int) ∧ x3_1 < (l0.length : Int) := ⟨dA, dA⟩
       obtain ⟨ad229, e229, hx229_0, hx229_1, hx229_2, hx229_3⟩ := at_T50 HR0.out x3_1 p229 q229
       have hw229_3 := hx229_3
       have hw229_2 := hx229_2
       have hw229_1 := hx229_1
       have hw229_0 := hx229_0
       cases e229
       replace hx229_0 := hC HB hx229_0
       replace hx229_1 := hC HB hx229_1
       replace hx229_2 := hC HB hx229_2
       replace hx229_3 := hC HB hx229_3
       obtain ⟨p229, q229⟩ := eT p229 q229
       obtain ⟨p231, q231⟩ : 0 ≤ ((ji7) : Int) ∧ (ji7) < (l0.length : Int) := ⟨dA, dA⟩
       obtain ⟨ad231, e231, hx231_0, hx231_1, hx231_2, hx231_3⟩ := at_T50 HR0.out (ji7) p231 q231
       have hw231_3 := hx231_3
       have hw231_2 := hx231_2
       have hw231_1 := hx231_1
       have hw231_0 := hx231_0
       obtain rfl : ad229 = ad231 := (by injection e231)
       replace hx231_0 := hC HB hx231_0
       replace hx231_1 := hC HB hx231_1
       replace hx231_2 := hC HB hx231_2
       replace hx231_3 := hC HB hx231_3
       obtain ⟨p231, q231⟩ := eT p231 q231
       obtain ⟨p232, q232⟩ : 0 ≤ (x3_1 : Int) ∧ x3_1 < (l0.length : Int) := ⟨dA, dA⟩
       obtain ⟨ad232, e232, hx232_0, hx232_1, hx232_2, hx232_3⟩ := at_T50 HR0.out x3_1 p232 q232
       have hw232_3 := hx232_3
       have hw232_2 := hx232_2
       have hw232_1 := hx232_1
       have hw232_0 := hx232_0
       obtain rfl : ad229 = ad232 := (by injection e232)
       replace hx232_0 := hC HB hx232_0
       replace hx232_1 := hC HB hx232_1
       replace hx232_2 := hC HB hx232_2
       replace hx232_3 := hC HB hx232_3
       obtain ⟨p232, q232⟩ := eT p232 q232
       refine start_ (n := 24) (S := fun w' => w'.cell? (ad229.add ((x3_1).toNat * 4)) = some (.int .i64 ((rd_T50 l0 x3_1).f0)) ∧ w'.cell? ⟨(ad229.add ((x3_1).toNat * 4)).block, (ad229.add ((x3_1).toNat * 4)).off + 1, none⟩ = some (.int .i64 ((rd_T50 l0 x3_1).f1)) ∧ w'.cell? ⟨(ad229.add ((x3_1).toNat * 4)).block, (ad229.add ((x3_1).toNat * 4)).off + 2, none⟩ = some (.int .i64 ((rd_T50 l0 x3_1).f2)) ∧ w'.cell? ⟨(ad229.add ((x3_1).toNat * 4)).block, (ad229.add ((x3_1).toNat * 4)).off + 3, none⟩ = some (.int .i64 ((rd_T50 l0 x3_1).f3)) ∧ w'.cell? (ad229.add (((ji7)).toNat * 4)) = some (.int .i64 ((rd_T50 l0 (ji7)).f0)) ∧ w'.cell? ⟨(ad229.add (((ji7)).toNat * 4)).block, (ad229.add (((ji7)).toNat * 4)).off + 1, none⟩ = some (.int .i64 ((rd_T50 l0 (ji7)).f1)) ∧ w'.cell? ⟨(ad229.add (((ji7)).toNat * 4)).block, (ad229.add (((ji7)).toNat * 4)).off + 2, none⟩ = some (.int .i64 ((rd_T50 l0 (ji7)).f2)) ∧ w'.cell? ⟨(ad229.add (((ji7)).toNat * 4)).block, (ad229.add (((ji7)).toNat * 4)).off + 3, none⟩ = some (.int .i64 ((rd_T50 l0 (ji7)).f3)) ∧ w'.cell? (ad229.add ((x3_1).toNat * 4)) = some (.int .i64 ((rd_T50 l0 x3_1).f0)) ∧ w'.cell? ⟨(ad229.add ((x3_1).toNat * 4)).block, (ad229.add ((x3_1).toNat * 4)).off + 1, none⟩ = some (.int .i64 ((rd_T50 l0 x3_1).f1)) ∧ w'.cell? ⟨(ad229.add ((x3_1).toNat * 4)).block, (ad229.add ((x3_1).toNat * 4)).off + 2, none⟩ = some (.int .i64 ((rd_T50 l0 x3_1).f2)) ∧ w'.cell? ⟨(ad229.add ((x3_1).toNat * 4)).block, (ad229.add ((x3_1).toNat * 4)).off + 3, none⟩ = some (.int .i64 ((rd_T50 l0 x3_1).f3))) (ds := []) (mb 24 0) (by kernel_rfl) rfl rfl ⟨(hC HB hw229_0), (hC HB hw229_1), (hC HB hw229_2), (hC HB hw229_3), (hC HB hw231_0), (hC HB hw231_1), (hC HB hw231_2), (hC HB hw231_3), (hC HB hw232_0), (hC HB hw232_1), (hC HB hw232_2), (hC HB hw232_3)⟩ (fun hHeld => ?_); refine with_tabW spec_ArePaths.tab4 spec_ArePaths.bits4 (fun HT_ HW_ => ?_)
       generalize wr.drew = w11 at HB hx229_0 hx229_1 hx229_2 hx229_3 hx231_0 hx231_1 hx231_2 hx231_3 hx232_0 hx232_1 hx232_2 hx232_3 hHeld ⊢
       refine pa 0 10 (mb 24 1) HT_ ?_
       refine pa 1 11 (mb 24 3) HT_ ?_
       refine pa 2 12 (mb 24 7) HT_ ?_
       refine ta12 3 13 (mb 24 15) HT_ HW_ hHeld ?_
       refine oa 4 14 (mb 24 31) HT_ (fun K hK => ?_)
       refine gA Try.func91 #[.agg #[.int .i64 ((rd_T50 l0 x3_1).f0), .int .i64 ((rd_T50 l0 x3_1).f1), .int .i64 ((rd_T50 l0 x3_1).f2), .int .i64 ((rd_T50 l0 x3_1).f3)]] ?_
       with_reducible refine (spec_IsPath.calls ((rd_T50 l0 x3_1).f0) ((rd_T50 l0 x3_1).f1) ((rd_T50 l0 x3_1).f2) ((rd_T50 l0 x3_1).f3) true _ A4.out).mono ?_
       rintro e w12 ⟨rfl, hb⟩
       refine ⟨_, rfl, ?_⟩
       replace HB := bs HB hb
       (try clear hb)
       (try clear hb2)
       (try clear hk)
       (try clear hi)
       refine hK.out _ _ ⟨(hC HB hw229_0), (hC HB hw229_1), (hC HB hw229_2), (hC HB hw229_3), (hC HB hw231_0), (hC HB hw231_1), (hC HB hw231_2), (hC HB hw231_3), (hC HB hw232_0), (hC HB hw232_1), (hC HB hw232_2), (hC HB hw232_3)⟩ (fun hHeld => ?_)
       clear hK K
       refine nB ?_
       refine pa 5 15 (mb 24 63) HT_ ?_
       refine pa 6 16 (mb 24 127) HT_ ?_
       refine pa 7 17 (mb 24 255) HT_ ?_
       refine pa 8 18 (mb 24 511) HT_ ?_
       refine pa 9 19 (mb 24 1023) HT_ ?_
       refine pa 10 20 (mb 24 2047) HT_ ?_
       refine pa 11 21 (mb 24 4095) HT_ ?_
       refine pa 12 22 (mb 24 8191) HT_ ?_
       refine pa 13 23 (mb 24 16383) HT_ ?_
       refine pa 14 24 (mb 24 32767) HT_ ?_
       refine pa 16 26 (mb 24 98303) HT_ ?_
       refine pa 17 27 (mb 24 229375) HT_ ?_
       refine pa 18 28 (mb 24 491519) HT_ ?_
       refine pa 19 29 (mb 24 1015807) HT_ ?_
       refine ta12 15 25 (mb 24 1048575) HT_ HW_ hHeld ?_
       refine ta12 20 30 (mb 24 2097151) HT_ HW_ hHeld ?_
       refine pa 21 31 (mb 24 4194303) HT_ ?_
       refine pa 22 32 (mb 24 8388607) HT_ ?_
       refine pa 23 33 (mb 24 16777215) HT_ ?_
       refine eA HT_ ?_
       try go_wp2
       go_ret
       exact ⟨by first | rfl | (simp [errW_none, errW_some] <;> rfl) | (simp only [← hji7]; first | rfl | (simp [errW_none, errW_some] <;> rfl)) | (simp [*, errW_none, errW_some] <;> rfl), bA⟩
      rw [if_neg c10] at H
      have c10b0 := decide_eq_false c10
      clear c10
      have H' := Aside0.mk H
      clear H
      try go_wp2
      have HBo := HB
      replace HB := db HB
      obtain ⟨p229, q229⟩ : 0 ≤ (x3_1 : Int) ∧ x3_1 < (l0.length : Int) := ⟨dA, dA⟩
      obtain ⟨ad229, e229, hx229_0, hx229_1, hx229_2, hx229_3⟩ := at_T50 HR0.out x3_1 p229 q229
      have hw229_3 := hx229_3
      have hw229_2 := hx229_2
      have hw229_1 := hx229_1
      have hw229_0 := hx229_0
      cases e229
      replace hx229_0 := hC HB hx229_0
      replace hx229_1 := hC HB hx229_1
      replace hx229_2 := hC HB hx229_2
      replace hx229_3 := hC HB hx229_3
      obtain ⟨p229, q229⟩ := eT p229 q229
      obtain ⟨p231, q231⟩ : 0 ≤ ((ji7) : Int) ∧ (ji7) < (l0.length : Int) := ⟨dA, dA⟩
      obtain ⟨ad231, e231, hx231_0, hx231_1, hx231_2, hx231_3⟩ := at_T50 HR0.out (ji7) p231 q231
      have hw231_3 := hx231_3
      have hw231_2 := hx231_2
      have hw231_1 := hx231_1
      have hw231_0 := hx231_0
      obtain rfl : ad229 = ad231 := (by injection e231)
      replace hx231_0 := hC HB hx231_0
      replace hx231_1 := hC HB hx231_1
      replace hx231_2 := hC HB hx231_2
      replace hx231_3 := hC HB hx231_3
      obtain ⟨p231, q231⟩ := eT p231 q231
      obtain ⟨p232, q232⟩ : 0 ≤ (x3_1 : Int) ∧ x3_1 < (l0.length : Int) := ⟨dA, dA⟩
      obtain ⟨ad232, e232, hx232_0, hx232_1, hx232_2, hx232_3⟩ := at_T50 HR0.out x3_1 p232 q232
      have hw232_3 := hx232_3
      have hw232_2 := hx232_2
      have hw232_1 := hx232_1
      have hw232_0 := hx232_0
      obtain rfl : ad229 = ad232 := (by injection e232)
      replace hx232_0 := hC HB hx232_0
      replace hx232_1 := hC HB hx232_1
      replace hx232_2 := hC HB hx232_2
      replace hx232_3 := hC HB hx232_3
      obtain ⟨p232, q232⟩ := eT p232 q232
      refine start_ (n := 24) (S := fun w' => w'.cell? (ad229.add ((x3_1).toNat * 4)) = some (.int .i64 ((rd_T50 l0 x3_1).f0)) ∧ w'.cell? ⟨(ad229.add ((x3_1).toNat * 4)).block, (ad229.add ((x3_1).toNat * 4)).off + 1, none⟩ = some (.int .i64 ((rd_T50 l0 x3_1).f1)) ∧ w'.cell? ⟨(ad229.add ((x3_1).toNat * 4)).block, (ad229.add ((x3_1).toNat * 4)).off + 2, none⟩ = some (.int .i64 ((rd_T50 l0 x3_1).f2)) ∧ w'.cell? ⟨(ad229.add ((x3_1).toNat * 4)).block, (ad229.add ((x3_1).toNat * 4)).off + 3, none⟩ = some (.int .i64 ((rd_T50 l0 x3_1).f3)) ∧ w'.cell? (ad229.add (((ji7)).toNat * 4)) = some (.int .i64 ((rd_T50 l0 (ji7)).f0)) ∧ w'.cell? ⟨(ad229.add (((ji7)).toNat * 4)).block, (ad229.add (((ji7)).toNat * 4)).off + 1, none⟩ = some (.int .i64 ((rd_T50 l0 (ji7)).f1)) ∧ w'.cell? ⟨(ad229.add (((ji7)).toNat * 4)).block, (ad229.add (((ji7)).toNat * 4)).off + 2, none⟩ = some (.int .i64 ((rd_T50 l0 (ji7)).f2)) ∧ w'.cell? ⟨(ad229.add (((ji7)).toNat * 4)).block, (ad229.add (((ji7)).toNat * 4)).off + 3, none⟩ = some (.int .i64 ((rd_T50 l0 (ji7)).f3)) ∧ w'.cell? (ad229.add ((x3_1).toNat * 4)) = some (.int .i64 ((rd_T50 l0 x3_1).f0)) ∧ w'.cell? ⟨(ad229.add ((x3_1).toNat * 4)).block, (ad229.add ((x3_1).toNat * 4)).off + 1, none⟩ = some (.int .i64 ((rd_T50 l0 x3_1).f1)) ∧ w'.cell? ⟨(ad229.add ((x3_1).toNat * 4)).block, (ad229.add ((x3_1).toNat * 4)).off + 2, none⟩ = some (.int .i64 ((rd_T50 l0 x3_1).f2)) ∧ w'.cell? ⟨(ad229.add ((x3_1).toNat * 4)).block, (ad229.add ((x3_1).toNat * 4)).off + 3, none⟩ = some (.int .i64 ((rd_T50 l0 x3_1).f3))) (ds := []) (mb 24 0) (by kernel_rfl) rfl rfl ⟨(hC HB hw229_0), (hC HB hw229_1), (hC HB hw229_2), (hC HB hw229_3), (hC HB hw231_0), (hC HB hw231_1), (hC HB hw231_2), (hC HB hw231_3), (hC HB hw232_0), (hC HB hw232_1), (hC HB hw232_2), (hC HB hw232_3)⟩ (fun hHeld => ?_); refine with_tabW spec_ArePaths.tab4 spec_ArePaths.bits4 (fun HT_ HW_ => ?_)
      generalize wr.drew = w13 at HB hx229_0 hx229_1 hx229_2 hx229_3 hx231_0 hx231_1 hx231_2 hx231_3 hx232_0 hx232_1 hx232_2 hx232_3 hHeld ⊢
      refine pa 0 10 (mb 24 1) HT_ ?_
      refine pa 1 11 (mb 24 3) HT_ ?_
      refine pa 2 12 (mb 24 7) HT_ ?_
      refine ta12 3 13 (mb 24 15) HT_ HW_ hHeld ?_
      refine oa 4 14 (mb 24 31) HT_ (fun K hK => ?_)
      refine gA Try.func91 #[.agg #[.int .i64 ((rd_T50 l0 x3_1).f0), .int .i64 ((rd_T50 l0 x3_1).f1), .int .i64 ((rd_T50 l0 x3_1).f2), .int .i64 ((rd_T50 l0 x3_1).f3)]] ?_
      with_reducible refine (spec_IsPath.calls ((rd_T50 l0 x3_1).f0) ((rd_T50 l0 x3_1).f1) ((rd_T50 l0 x3_1).f2) ((rd_T50 l0 x3_1).f3) true _ A4.out).mono ?_
      rintro e w14 ⟨rfl, hb⟩
      refine ⟨_, rfl, ?_⟩
      replace HB := bs HB hb
      (try clear hb)
      (try clear hb2)
      (try clear hk)
      (try clear hi)
      refine hK.out _ _ ⟨(hC HB hw229_0), (hC HB hw229_1), (hC HB hw229_2), (hC HB hw229_3), (hC HB hw231_0), (hC HB hw231_1), (hC HB hw231_2), (hC HB hw231_3), (hC HB hw232_0), (hC HB hw232_1), (hC HB hw232_2), (hC HB hw232_3)⟩ (fun hHeld => ?_)
      clear hK K
      refine nB ?_
      refine pa 5 15 (mb 24 63) HT_ ?_
      refine pa 6 16 (mb 24 127) HT_ ?_
      refine pa 7 17 (mb 24 255) HT_ ?_
      refine pa 8 18 (mb 24 511) HT_ ?_
      refine pa 9 19 (mb 24 1023) HT_ ?_
      refine pa 10 20 (mb 24 2047) HT_ ?_
      refine pa 11 21 (mb 24 4095) HT_ ?_
      refine pa 12 22 (mb 24 8191) HT_ ?_
      refine pa 13 23 (mb 24 16383) HT_ ?_
      refine pa 14 24 (mb 24 32767) HT_ ?_
      refine pa 16 26 (mb 24 98303) HT_ ?_
      refine pa 17 27 (mb 24 229375) HT_ ?_
      refine pa 18 28 (mb 24 491519) HT_ ?_
      refine pa 19 29 (mb 24 1015807) HT_ ?_
      refine ta12 15 25 (mb 24 1048575) HT_ HW_ hHeld ?_
      refine ta12 20 30 (mb 24 2097151) HT_ HW_ hHeld ?_
      refine pa 21 31 (mb 24 4194303) HT_ ?_
      refine pa 22 32 (mb 24 8388607) HT_ ?_
      refine pa 23 33 (mb 24 16777215) HT_ ?_
      refine eA HT_ ?_
      try go_wp2
      go_roundg k1
      case measure => have := HK1.out; omega
      case rel => exact ⟨(wrap64 (x3_1 + 1)), rS, H', ⟨by have := HK1.out; omega⟩, ⟨bA⟩⟩
     rw [if_neg c6] at H
     have c6b0 := decide_eq_false c6
     clear c6
     have H' := Aside0.mk H
     clear H
     try go_wp2
     have HBo := HB
     replace HB := db HB
     obtain ⟨p229, q229⟩ : 0 ≤ (x3_1 : Int) ∧ x3_1 < (l0.length : Int) := ⟨dA, dA⟩
     obtain ⟨ad229, e229, hx229_0, hx229_1, hx229_2, hx229_3⟩ := at_T50 HR0.out x3_1 p229 q229
     have hw229_3 := hx229_3
     have hw229_2 := hx229_2
     have hw229_1 := hx229_1
     have hw229_0 := hx229_0
     cases e229
     replace hx229_0 := hC HB hx229_0
     replace hx229_1 := hC HB hx229_1
     replace hx229_2 := hC HB hx229_2
     replace hx229_3 := hC HB hx229_3
     obtain ⟨p229, q229⟩ := eT p229 q229
     refine start_ (n := 24) (S := fun w' => w'.cell? (ad229.add ((x3_1).toNat * 4)) = some (.int .i64 ((rd_T50 l0 x3_1).f0)) ∧ w'.cell? ⟨(ad229.add ((x3_1).toNat * 4)).block, (ad229.add ((x3_1).toNat * 4)).off + 1, none⟩ = some (.int .i64 ((rd_T50 l0 x3_1).f1)) ∧ w'.cell? ⟨(ad229.add ((x3_1).toNat * 4)).block, (ad229.add ((x3_1).toNat * 4)).off + 2, none⟩ = some (.int .i64 ((rd_T50 l0 x3_1).f2)) ∧ w'.cell? ⟨(ad229.add ((x3_1).toNat * 4)).block, (ad229.add ((x3_1).toNat * 4)).off + 3, none⟩ = some (.int .i64 ((rd_T50 l0 x3_1).f3))) (ds := []) (mb 24 0) (by kernel_rfl) rfl rfl ⟨(hC HB hw229_0), (hC HB hw229_1), (hC HB hw229_2), (hC HB hw229_3)⟩ (fun hHeld => ?_); refine with_tabW spec_ArePaths.tab4 spec_ArePaths.bits4 (fun HT_ HW_ => ?_)
     generalize wr.drew = w15 at HB hx229_0 hx229_1 hx229_2 hx229_3 hHeld ⊢
     refine pa 0 10 (mb 24 1) HT_ ?_
     refine pa 1 11 (mb 24 3) HT_ ?_
     refine pa 2 12 (mb 24 7) HT_ ?_
     refine ta4 3 13 (mb 24 15) HT_ HW_ hHeld ?_
     refine oa 4 14 (mb 24 31) HT_ (fun K hK => ?_)
     refine gA Try.func91 #[.agg #[.int .i64 ((rd_T50 l0 x3_1).f0), .int .i64 ((rd_T50 l0 x3_1).f1), .int .i64 ((rd_T50 l0 x3_1).f2), .int .i64 ((rd_T50 l0 x3_1).f3)]] ?_
     with_reducible refine (spec_IsPath.calls ((rd_T50 l0 x3_1).f0) ((rd_T50 l0 x3_1).f1) ((rd_T50 l0 x3_1).f2) ((rd_T50 l0 x3_1).f3) true _ A4.out).mono ?_
     rintro e w16 ⟨rfl, hb⟩
     refine ⟨_, rfl, ?_⟩
     replace HB := bs HB hb
     (try clear hb)
     (try clear hb2)
     (try clear hk)
     (try clear hi)
     refine hK.out _ _ ⟨(hC HB hw229_0), (hC HB hw229_1), (hC HB hw229_2), (hC HB hw229_3)⟩ (fun hHeld => ?_)
     clear hK K
     refine nB ?_
     refine pa 5 15 (mb 24 63) HT_ ?_
     refine pa 6 16 (mb 24 127) HT_ ?_
     refine pa 7 17 (mb 24 255) HT_ ?_
     refine pa 8 18 (mb 24 511) HT_ ?_
     refine pa 9 19 (mb 24 1023) HT_ ?_
     refine pu 10 20 (mb 24 2047) HT_ ?_
     refine pu 11 21 (mb 24 4095) HT_ ?_
     refine pu 12 22 (mb 24 8191) HT_ ?_
     refine pu 13 23 (mb 24 16383) HT_ ?_
     refine pu 14 24 (mb 24 32767) HT_ ?_
     refine pu 15 25 (mb 24 65535) HT_ ?_
     refine pu 16 26 (mb 24 131071) HT_ ?_
     refine pu 17 27 (mb 24 262143) HT_ ?_
     refine pu 18 28 (mb 24 524287) HT_ ?_
     refine pu 19 29 (mb 24 1048575) HT_ ?_
     refine pu 20 30 (mb 24 2097151) HT_ ?_
     refine pu 21 31 (mb 24 4194303) HT_ ?_
     refine pa 22 32 (mb 24 8388607) HT_ ?_
     refine pa 23 33 (mb 24 16777215) HT_ ?_
     refine eA HT_ ?_
     try go_wp2
     go_roundg k1
     case measure => have := HK1.out; omega
     case rel => exact ⟨(wrap64 (x3_1 + 1)), rS, H', ⟨by have := HK1.out; omega⟩, ⟨bA⟩⟩
    replace c5 := Bool.eq_false_iff.mpr c5
    subst c5
    have H1 : (some false) = some r := by rw [if_neg (show ¬ (false = true) by decide)] at H; exact H
    clear H
    have H := H1
    clear H1
    obtain rfl := Option.some.inj H
    try go_wp2
    have HBo := HB
    replace HB := db HB
    obtain ⟨p229, q229⟩ : 0 ≤ (x3_1 : Int) ∧ x3_1 < (l0.length : Int) := ⟨dA, dA⟩
    obtain ⟨ad229, e229, hx229_0, hx229_1, hx229_2, hx229_3⟩ := at_T50 HR0.out x3_1 p229 q229
    have hw229_3 := hx229_3
    have hw229_2 := hx229_2
    have hw229_1 := hx229_1
    have hw229_0 := hx229_0
    cases e229
    replace hx229_0 := hC HB hx229_0
    replace hx229_1 := hC HB hx229_1
    replace hx229_2 := hC HB hx229_2
    replace hx229_3 := hC HB hx229_3
    obtain ⟨p229, q229⟩ := eT p229 q229
    refine start_ (n := 24) (S := fun w' => w'.cell? (ad229.add ((x3_1).toNat * 4)) = some (.int .i64 ((rd_T50 l0 x3_1).f0)) ∧ w'.cell? ⟨(ad229.add ((x3_1).toNat * 4)).block, (ad229.add ((x3_1).toNat * 4)).off + 1, none⟩ = some (.int .i64 ((rd_T50 l0 x3_1).f1)) ∧ w'.cell? ⟨(ad229.add ((x3_1).toNat * 4)).block, (ad229.add ((x3_1).toNat * 4)).off + 2, none⟩ = some (.int .i64 ((rd_T50 l0 x3_1).f2)) ∧ w'.cell? ⟨(ad229.add ((x3_1).toNat * 4)).block, (ad229.add ((x3_1).toNat * 4)).off + 3, none⟩ = some (.int .i64 ((rd_T50 l0 x3_1).f3))) (ds := []) (mb 24 0) (by kernel_rfl) rfl rfl ⟨(hC HB hw229_0), (hC HB hw229_1), (hC HB hw229_2), (hC HB hw229_3)⟩ (fun hHeld => ?_); refine with_tabW spec_ArePaths.tab4 spec_ArePaths.bits4 (fun HT_ HW_ => ?_)
    generalize wr.drew = w17 at HB hx229_0 hx229_1 hx229_2 hx229_3 hHeld ⊢
    refine pa 0 10 (mb 24 1) HT_ ?_
    refine pa 1 11 (mb 24 3) HT_ ?_
    refine pa 2 12 (mb 24 7) HT_ ?_
    refine ta4 3 13 (mb 24 15) HT_ HW_ hHeld ?_
    refine oa 4 14 (mb 24 31) HT_ (fun K hK => ?_)
    refine gA Try.func91 #[.agg #[.int .i64 ((rd_T50 l0 x3_1).f0), .int .i64 ((rd_T50 l0 x3_1).f1), .int .i64 ((rd_T50 l0 x3_1).f2), .int .i64 ((rd_T50 l0 x3_1).f3)]] ?_
    with_reducible refine (spec_IsPath.calls ((rd_T50 l0 x3_1).f0) ((rd_T50 l0 x3_1).f1) ((rd_T50 l0 x3_1).f2) ((rd_T50 l0 x3_1).f3) false _ A4.out).mono ?_
    rintro e w18 ⟨rfl, hb⟩
    refine ⟨_, rfl, ?_⟩
    replace HB := bs HB hb
    (try clear hb)
    (try clear hb2)
    (try clear hk)
    (try clear hi)
    refine hK.out _ _ ⟨(hC HB hw229_0), (hC HB hw229_1), (hC HB hw229_2), (hC HB hw229_3)⟩ (fun hHeld => ?_)
    clear hK K
    refine nB ?_
    refine pa 5 15 (mb 24 63) HT_ ?_
    refine pa 6 16 (mb 24 127) HT_ ?_
    refine pu 7 17 (mb 24 255) HT_ ?_
    refine pu 8 18 (mb 24 511) HT_ ?_
    refine pu 9 19 (mb 24 1023) HT_ ?_
    refine pu 10 20 (mb 24 2047) HT_ ?_
    refine pu 11 21 (mb 24 4095) HT_ ?_
    refine pu 12 22 (mb 24 8191) HT_ ?_
    refine pu 13 23 (mb 24 16383) HT_ ?_
    refine pu 14 24 (mb 24 32767) HT_ ?_
    refine pu 15 25 (mb 24 65535) HT_ ?_
    refine pu 16 26 (mb 24 131071) HT_ ?_
    refine pu 17 27 (mb 24 262143) HT_ ?_
    refine pu 18 28 (mb 24 524287) HT_ ?_
    refine pu 19 29 (mb 24 1048575) HT_ ?_
    refine pu 20 30 (mb 24 2097151) HT_ ?_
    refine pu 21 31 (mb 24 4194303) HT_ ?_
    refine pu 22 32 (mb 24 8388607) HT_ ?_
    refine pa 23 33 (mb 24 16777215) HT_ ?_
    refine eA HT_ ?_
    try go_wp2
    go_ret
    exact ⟨rA, bA⟩
   rw [if_neg c2] at H
   have c2b0 := decide_eq_false c2
   clear c2
   obtain rfl := Option.some.inj H
   go_wp2
   go_ret
   exact ⟨rA, bA⟩

/-! ### spec_FindPath: function 144 -/
def spec_FindPath.l0 : Nat → List (S50) → Int → Int → Option (Int)
 | 0, _, _, _ => none
 | k + 1, x0, x1, x5 => if x5 < (x0.length : Int) then (if 0 ≤ x5 then (if ((rd_T50 x0 x5).f0) = x1 then (some x5) else (spec_FindPath.l0 k x0 x1 (wrap64 (x5 + 1)))) else (none)) else (some (-1))
def spec_FindPath.f (k : Nat) (l0 : List (S50)) (a1 : Int) : Option (Int) := spec_FindPath.l0 k l0 a1 0
theorem spec_FindPath.mono_l : ∀ k, (∀ y0 y1 y2, LeO (spec_FindPath.l0 k y0 y1 y2) (spec_FindPath.l0 (k + 1) y0 y1 y2))
 | 0 => fun _ _ _ r h => by simp [spec_FindPath.l0] at h
 | k + 1 => by
  have ih0 := spec_FindPath.mono_l k
  ·
   intro y0 y1 y2
   unfold spec_FindPath.l0
   exact mz1 ih0
theorem spec_FindPath.mono : ∀ a0 a1 k, LeO (spec_FindPath.f k a0 a1) (spec_FindPath.f (k + 1) a0 a1) := by
 intro a0 a1 k
 have ih0 := spec_FindPath.mono_l k
 unfold spec_FindPath.f
 exact mz1 ih0
set_option maxHeartbeats 8000000 in
set_option maxRecDepth 100000 in
theorem spec_FindPath.calls (k : Nat) (A0 : Option Addr) (c0 : Nat) (l0 : List (S50)) (a1 : Int) (r : Int) (w : World) (hr0 : Kd.C k50 w A0 l0.length l0) (hc0 : l0.length ≤ c0) (h : spec_FindPath.f k l0 a1 = some r) :
  Calls Try.prog 144 #[.slice A0 l0.length c0, .int .i64 a1] w fun e w' => e = .returned (.int .i64 r) ∧ Drawn0 w w' := by
 have HR0 := Aside0.mk hr0
 have HC0 := Aside0.mk hc0
 clear hr0 hc0
 have H : (spec_FindPath.l0 k l0 a1 0) = some r := h
 clear h
 have H' := Aside0.mk H
 clear H
 go_enter Try.func144, Try.ntmps144
 go_wp2
 go_loopg [5] k (fun kq v5 w' => ∃ (x5_1 : Int), v5 = .int .i64 x5_1 ∧ Aside0 (spec_FindPath.l0 kq l0 a1 x5_1 = some r) ∧ Aside0 (kq ≤ k) ∧ Drawn0 w w')
 case atStart => exact ⟨(0), rS, H', ⟨Nat.le_refl _⟩, by repeat (first | exact Drawn0.refl _ | apply Drawn0.step)⟩
 case round =>
  clear H'
  obtain ⟨x5_1, rfl, HA, HK1, ⟨m1, rfl⟩⟩ := hrel
  cases gk with
  | zero => exact absurd HA.out (by simp [spec_FindPath.l0])
  | succ k1 =>
   have H := HA.out
   clear HA
   simp only [spec_FindPath.l0] at H
   by_cases c3 : x5_1 < (l0.length : Int)
   ·
    rw [if_pos c3] at H
    have c3b0 := decide_eq_true c3
    clear c3
    have c4 : 0 ≤ x5_1 := ifN H
    replace H := ifT H
    have c4b0 := decide_eq_true c4
    clear c4
    by_cases c5 : ((rd_T50 l0 x5_1).f0) = a1
    ·
     rw [if_pos c5] at H
     have c5b0 : (((rd_T50 l0 x5_1).f0) == a1) = true := beq_iff_eq.mpr c5
     have c5b1 : (((rd_T50 l0 x5_1).f0) != a1) = false := bne_eq_false_iff_eq.mpr c5
     clear c5
     obtain rfl := Option.some.inj H
     obtain ⟨p233, q233⟩ : 0 ≤ (x5_1 : Int) ∧ x5_1 < (l0.length : Int) := ⟨dA, dA⟩
     obtain ⟨ad233, e233, hx233_0, hx233_1, hx233_2, hx233_3⟩ := at_T50 HR0.out x5_1 p233 q233
     cases e233
     obtain ⟨p233, q233⟩ := eT p233 q233
     go_wp2
     go_ret
     exact ⟨rS, dD⟩
    rw [if_neg c5] at H
    have c5b0 : (((rd_T50 l0 x5_1).f0) == a1) = false := beq_eq_false_iff_ne.mpr c5
    have c5b1 : (((rd_T50 l0 x5_1).f0) != a1) = true := bne_iff_ne.mpr c5
    have H' := Aside0.mk H
    clear H
    obtain ⟨p233, q233⟩ : 0 ≤ (x5_1 : Int) ∧ x5_1 < (l0.length : Int) := ⟨dA, dA⟩
    obtain ⟨ad233, e233, hx233_0, hx233_1, hx233_2, hx233_3⟩ := at_T50 HR0.out x5_1 p233 q233
    cases e233
    obtain ⟨p233, q233⟩ := eT p233 q233
    go_wp2
    go_roundg k1
    case measure => have := HK1.out; omega
    case rel => exact ⟨(wrap64 (x5_1 + 1)), rS, H', ⟨by have := HK1.out; omega⟩, by repeat (first | exact Drawn0.refl _ | apply Drawn0.step)⟩
   rw [if_neg c3] at H
   have c3b0 := decide_eq_false c3
   clear c3
   obtain rfl := Option.some.inj H
   go_wp2
   go_ret
   exact ⟨rS, dD⟩

/-! ### spec_Interleave: function 167 -/
mutual
def spec_Interleave.l0 : Nat → Int → Int → Int → Int → List Int → Int → Option (Bool)
 | 0, _, _, _, _, _, _ => none
 | k + 1, x0, x1, x2, x3, x9, x10 => if x10 < 4 then (spec_Interleave.l1 k x0 x1 x2 x3 x9 x10 0) else (spec_Interleave.l2 k x1 x2 x3 0 (Int.tmod (wrap64 (x0 + 1)) 8))
def spec_Interleave.l1 : Nat → Int → Int → Int → Int → List Int → Int → Int → Option (Bool)
 | 0, _, _, _, _, _, _, _ => none
 | k + 1, x0, x1, x2, x3, x9, x10, x11 => if x11 < x10 then (if 0 ≤ x10 then (if x10 < (x9.length : Int) then (if 0 ≤ x11 then (if x11 < (x9.length : Int) then (if (rd x9 x10) = (rd x9 x11) then (some false) else (spec_Interleave.l1 k x0 x1 x2 x3 x9 x10 (wrap64 (x11 + 1)))) else (none)) else (none)) else (none)) else (none)) else (if 0 ≤ x10 then (if x10 < (x9.length : Int) then ((spec_l1In.f (rd x9 x10) 0 7).bind fun t240 => (if t240 = true then (spec_Interleave.l0 k x0 x1 x2 x3 x9 (wrap64 (x10 + 1))) else (some false))) else (none)) else (none))
def spec_Interleave.l2 : Nat → Int → Int → Int → Int → Int → Option (Bool)
 | 0, _, _, _, _, _ => none
 | k + 1, x1, x2, x3, x12, x13 => if x13 = x1 then (some (x12 == 1)) else (if x13 = x2 then (spec_Interleave.l2 k x1 x2 x3 (wrap64 (x12 + 1)) (Int.tmod (wrap64 (x13 + 1)) 8)) else (if x13 = x3 then (spec_Interleave.l2 k x1 x2 x3 (wrap64 (x12 + 1)) (Int.tmod (wrap64 (x13 + 1)) 8)) else (spec_Interleave.l2 k x1 x2 x3 x12 (Int.tmod (wrap64 (x13 + 1)) 8))))
end
def spec_Interleave.f (k : Nat) (a0 : Int) (a1 : Int) (a2 : Int) (a3 : Int) : Option (Bool) := spec_Interleave.l0 k a0 a1 a2 a3 (([a0, a1, a2, a3] : List Int)) 0
theorem spec_Interleave.mono_l : ∀ k, (∀ y0 y1 y2 y3 y4 y5, LeO (spec_Interleave.l0 k y0 y1 y2 y3 y4 y5) (spec_Interleave.l0 (k + 1) y0 y1 y2 y3 y4 y5)) ∧ (∀ y0 y1 y2 y3 y4 y5 y6, LeO (spec_Interleave.l1 k y0 y1 y2 y3 y4 y5 y6) (spec_Interleave.l1 (k + 1) y0 y1 y2 y3 y4 y5 y6)) ∧ (∀ y0 y1 y2 y3 y4, LeO (spec_Interleave.l2 k y0 y1 y2 y3 y4) (spec_Interleave.l2 (k + 1) y0 y1 y2 y3 y4))
 | 0 => ⟨fun _ _ _ _ _ _ r h => by simp [spec_Interleave.l0] at h, fun _ _ _ _ _ _ _ r h => by simp [spec_Interleave.l1] at h, fun _ _ _ _ _ r h => by simp [spec_Interleave.l2] at h⟩
 | k + 1 => by
  obtain ⟨ih0, ih1, ih2⟩ := spec_Interleave.mono_l k
  refine ⟨?_, ?_, ?_⟩
  ·
   intro y0 y1 y2 y3 y4 y5
   unfold spec_Interleave.l0
   exact mz3 ih0 ih1 ih2
  ·
   intro y0 y1 y2 y3 y4 y5 y6
   unfold spec_Interleave.l1
   exact mz3 ih0 ih1 ih2
  ·
   intro y0 y1 y2 y3 y4
   unfold spec_Interleave.l2
   exact mz3 ih0 ih1 ih2
theorem spec_Interleave.mono : ∀ a0 a1 a2 a3 k, LeO (spec_Interleave.f k a0 a1 a2 a3) (spec_Interleave.f (k + 1) a0 a1 a2 a3) := by
 intro a0 a1 a2 a3 k
 obtain ⟨ih0, ih1, ih2⟩ := spec_Interleave.mono_l k
 unfold spec_Interleave.f
 exact mz3 ih0 ih1 ih2
set_option maxHeartbeats 8000000 in
set_option maxRecDepth 100000 in
theorem spec_Interleave.calls (k : Nat) (a0 : Int) (a1 : Int) (a2 : Int) (a3 : Int) (r : Bool) (w : World) (h : spec_Interleave.f k a0 a1 a2 a3 = some r) :
  Calls Try.prog 167 #[.int .i64 a0, .int .i64 a1, .int .i64 a2, .int .i64 a3] w fun e w' => e = .returned (.bool r) ∧ Below w.heap.size w w' := by
 have HB := Aside0.mk (Below.refl w.heap.size w)
 have H : (spec_Interleave.l0 k a0 a1 a2 a3 (([a0, a1, a2, a3] : List Int)) 0) = some r := h
 clear h
 obtain ⟨y234, hy234⟩ : ∃ y_ : List Int, y_ = (([a0, a1, a2, a3] : List Int)) := ⟨_, rfl⟩
 replace H : (spec_Interleave.l0 k a0 a1 a2 a3 y234 0) = some r := rH H hy234
 have Ny234 := Aside0.mk hy234
 clear hy234
 have H' := Aside0.mk H
 clear H
 go_enter Try.func167, Try.ntmps167
 go_wp2_with (first | ((with_reducible refine gate_dst (N := 18) rfl ?_); refine Kd.R_lit (Kd.int .i64) _ 3 ?hg (N := 18) ?hd (xs := ([a0, a1, a2, a3] : List Int)) (inner := [.int .i64 a0, .int .i64 a1, .int .i64 a2, .int .i64 a3]) (ok := fun _ => True) (okp := fun _ => True) ?hr ?hp (fun _ hk => hk) trivial (Below.refl _ _) (Nat.le_refl _) (by simp) ?_; (case hd => rfl); (case hg => rfl); (case hr => first | (go_simp; done) | (go_simp; rfl)); (case hp => exact (Reps.one (show Kd.M (Kd.int .i64) _ _ _ a0 [.int .i64 a0] from rfl) (Reps.one (show Kd.M (Kd.int .i64) _ _ _ a1 [.int .i64 a1] from rfl) (Reps.one (show Kd.M (Kd.int .i64) _ _ _ a2 [.int .i64 a2] from rfl) (Reps.one (show Kd.M (Kd.int .i64) _ _ _ a3 [.int .i64 a3] from rfl) (Reps.none _ _)))))); intro v235 w5 ho6 hb hg_ hnew_; clear hg_ hnew_; (first | rw [← Ny234.out] at ho6 | (simp only [Int.reduceToNat] at ho6; rw [← Ny234.out] at ho6)); have HO236 := rl w ho6; replace HB := bs HB hb; clear hb ho6))
 repeat (go_quiet (first | ((with_reducible refine gate_dst (N := 18) rfl ?_); refine Kd.R_lit (Kd.int .i64) _ 3 ?hg (N := 18) ?hd (xs := ([a0, a1, a2, a3] : List Int)) (inner := [.int .i64 a0, .int .i64 a1, .int .i64 a2, .int .i64 a3]) (ok := fun _ => True) (okp := fun _ => True) ?hr ?hp (fun _ hk => hk) trivial (Below.refl _ _) (Nat.le_refl _) (by simp) ?_; (case hd => rfl); (case hg => rfl); (case hr => first | (go_simp; done) | (go_simp; rfl)); (case hp => exact (Reps.one (show Kd.M (Kd.int .i64) _ _ _ a0 [.int .i64 a0] from rfl) (Reps.one (show Kd.M (Kd.int .i64) _ _ _ a1 [.int .i64 a1] from rfl) (Reps.one (show Kd.M (Kd.int .i64) _ _ _ a2 [.int .i64 a2] from rfl) (Reps.one (show Kd.M (Kd.int .i64) _ _ _ a3 [.int .i64 a3] from rfl) (Reps.none _ _)))))); intro v235 w5 ho6 hb hg_ hnew_; clear hg_ hnew_; (first | rw [← Ny234.out] at ho6 | (simp only [Int.reduceToNat] at ho6; rw [← Ny234.out] at ho6)); have HO236 := rl w ho6; replace HB := bs HB hb; clear hb ho6)); try go_wp2_with (first | ((with_reducible refine gate_dst (N := 18) rfl ?_); refine Kd.R_lit (Kd.int .i64) _ 3 ?hg (N := 18) ?hd (xs := ([a0, a1, a2, a3] : List Int)) (inner := [.int .i64 a0, .int .i64 a1, .int .i64 a2, .int .i64 a3]) (ok := fun _ => True) (okp := fun _ => True) ?hr ?hp (fun _ hk => hk) trivial (Below.refl _ _) (Nat.le_refl _) (by simp) ?_; (case hd => rfl); (case hg => rfl); (case hr => first | (go_simp; done) | (go_simp; rfl)); (case hp => exact (Reps.one (show Kd.M (Kd.int .i64) _ _ _ a0 [.int .i64 a0] from rfl) (Reps.one (show Kd.M (Kd.int .i64) _ _ _ a1 [.int .i64 a1] from rfl) (Reps.one (show Kd.M (Kd.int .i64) _ _ _ a2 [.int .i64 a2] from rfl) (Reps.one (show Kd.M (Kd.int .i64) _ _ _ a3 [.int .i64 a3] from rfl) (Reps.none _ _)))))); intro v235 w5 ho6 hb hg_ hnew_; clear hg_ hnew_; (first | rw [← Ny234.out] at ho6 | (simp only [Int.reduceToNat] at ho6; rw [← Ny234.out] at ho6)); have HO236 := rl w ho6; replace HB := bs HB hb; clear hb ho6)))
 go_loopg [10] k (fun kq v10 w' => ∃ (x10_1 : Int), v10 = .int .i64 x10_1 ∧ Aside0 (spec_Interleave.l0 kq a0 a1 a2 a3 y234 x10_1 = some r) ∧ Aside0 (kq ≤ k) ∧ Aside0 (Kd.R (Kd.int .i64) 3 w' w.heap.size (fun _ => True) v235 y234) ∧ Aside0 (Below w.heap.size w w'))
 case atStart => exact ⟨(0), rS, H', ⟨Nat.le_refl _⟩, ⟨rK HO236⟩, ⟨bA⟩⟩
 case round =>
  clear H'
  obtain ⟨x10_1, rfl, HA, HK1, HO_9, HB⟩ := hrel
  cases gk with
  | zero => exact absurd HA.out (by simp [spec_Interleave.l0])
  | succ k1 =>
   have H := HA.out
   clear HA
   simp only [spec_Interleave.l0] at H
   by_cases c7 : x10_1 < 4
   ·
    rw [if_pos c7] at H
    have c7b0 := decide_eq_true c7
    clear c7
    have H' := Aside0.mk H
    clear H
    go_wp2
    repeat (go_quiet (fail); try go_wp2)
    go_loopg [11] k1 (fun kq v11 w' => ∃ (x11_2 : Int), v11 = .int .i64 x11_2 ∧ Aside0 (spec_Interleave.l1 kq a0 a1 a2 a3 y234 x10_1 x11_2 = some r) ∧ Aside0 (kq ≤ k1) ∧ Aside0 (Kd.R (Kd.int .i64) 3 w' w.heap.size (fun _ => True) v235 y234) ∧ Aside0 (Below w.heap.size w w'))
    case atStart => exact ⟨(0), rS, H', ⟨Nat.le_refl _⟩, ⟨rK HO_9⟩, ⟨bA⟩⟩
    case round =>
     clear H'
     obtain ⟨x11_2, rfl, HA, HK2, HO_9, HB⟩ := hrel
     cases gk with
     | zero => exact absurd HA.out (by simp [spec_Interleave.l1])
     | succ k2 =>
      have H := HA.out
      clear HA
      simp only [spec_Interleave.l1] at H
      by_cases c8 : x11_2 < x10_1
      ·
       rw [if_pos c8] at H
       have c8b0 := decide_eq_true c8
       clear c8
       have c9 : 0 ≤ x10_1 := ifN H
       replace H := ifT H
       have c9b0 := decide_eq_true c9
       clear c9
       have c10 : x10_1 < (y234.length : Int) := ifN H
       replace H := ifT H
       have c10b0 := decide_eq_true c10
       clear c10
       have c11 : 0 ≤ x11_2 := ifN H
       replace H := ifT H
       have c11b0 := decide_eq_true c11
       clear c11
       have c12 : x11_2 < (y234.length : Int) := ifN H
       replace H := ifT H
       have c12b0 := decide_eq_true c12
       clear c12
       by_cases c13 : (rd y234 x10_1) = (rd y234 x11_2)
       ·
        rw [if_pos c13] at H
        have c13b0 : ((rd y234 x10_1) == (rd y234 x11_2)) = true := beq_iff_eq.mpr c13
        have c13b1 : ((rd y234 x10_1) != (rd y234 x11_2)) = false := bne_eq_false_iff_eq.mpr c13
        clear c13
        obtain rfl := Option.some.inj H
        obtain ⟨Ao14, co14, eo14⟩ := Kd.R_slice HO_9.out
        subst eo14
        obtain ⟨p237, q237⟩ : 0 ≤ (x10_1 : Int) ∧ x10_1 < (y234.length : Int) := ⟨dA, dA⟩
        obtain ⟨ad237, e237, hx237_0⟩ := Kd.at_int (Kd.R_reads' HO_9.out).2.2 x10_1 p237 q237
        cases e237
        obtain ⟨p237, q237⟩ := eT p237 q237
        obtain ⟨p238, q238⟩ : 0 ≤ (x11_2 : Int) ∧ x11_2 < (y234.length : Int) := ⟨dA, dA⟩
        obtain ⟨ad238, e238, hx238_0⟩ := Kd.at_int (Kd.R_reads' HO_9.out).2.2 x11_2 p238 q238
        obtain rfl : ad237 = ad238 := (by injection e238)
        obtain ⟨p238, q238⟩ := eT p238 q238
        go_wp2
        repeat (go_quiet (fail); try go_wp2)
        go_ret
        exact ⟨rA, bA⟩
       rw [if_neg c13] at H
       have c13b0 : ((rd y234 x10_1) == (rd y234 x11_2)) = false := beq_eq_false_iff_ne.mpr c13
       have c13b1 : ((rd y234 x10_1) != (rd y234 x11_2)) = true := bne_iff_ne.mpr c13
       have H' := Aside0.mk H
       clear H
       obtain ⟨Ao15, co15, eo15⟩ := Kd.R_slice HO_9.out
       subst eo15
       obtain ⟨p237, q237⟩ : 0 ≤ (x10_1 : Int) ∧ x10_1 < (y234.length : Int) := ⟨dA, dA⟩
       obtain ⟨ad237, e237, hx237_0⟩ := Kd.at_int (Kd.R_reads' HO_9.out).2.2 x10_1 p237 q237
       cases e237
       obtain ⟨p237, q237⟩ := eT p237 q237
       obtain ⟨p238, q238⟩ : 0 ≤ (x11_2 : Int) ∧ x11_2 < (y234.length : Int) := ⟨dA, dA⟩
       obtain ⟨ad238, e238, hx238_0⟩ := Kd.at_int (Kd.R_reads' HO_9.out).2.2 x11_2 p238 q238
       obtain rfl : ad237 = ad238 := (by injection e238)
       obtain ⟨p238, q238⟩ := eT p238 q238
       go_wp2
       repeat (go_quiet (fail); try go_wp2)
       go_roundg k2
       case measure => have := HK1.out; have := HK2.out; omega
       case rel => exact ⟨(wrap64 (x11_2 + 1)), rS, H', ⟨by have := HK1.out; have := HK2.out; omega⟩, ⟨rK HO_9⟩, ⟨bA⟩⟩
      rw [if_neg c8] at H
      have c8b0 := decide_eq_false c8
      clear c8
      have c16 : 0 ≤ x10_1 := ifN H
      replace H := ifT H
      have c16b0 := decide_eq_true c16
      clear c16
      have c17 : x10_1 < (y234.length : Int) := ifN H
      replace H := ifT H
      have c17b0 := decide_eq_true c17
      clear c17
      obtain ⟨t240, A18, H⟩ := bindE H
      try dsimp only at H
      by_cases c19 : t240 = true
      ·
       subst c19
       have H1 : (spec_Interleave.l0 k2 a0 a1 a2 a3 y234 (wrap64 (x10_1 + 1))) = some r := by rw [if_pos rfl] at H; exact H
       clear H
       have H := H1
       clear H1
       have H' := Aside0.mk H
       clear H
       obtain ⟨Ao20, co20, eo20⟩ := Kd.R_slice HO_9.out
       subst eo20
       obtain ⟨p239, q239⟩ : 0 ≤ (x10_1 : Int) ∧ x10_1 < (y234.length : Int) := ⟨dA, dA⟩
       obtain ⟨ad239, e239, hx239_0⟩ := Kd.at_int (Kd.R_reads' HO_9.out).2.2 x10_1 p239 q239
       cases e239
       obtain ⟨p239, q239⟩ := eT p239 q239
       go_wp2_with (first | (go_at_call 111; (with_reducible refine (spec_l1In.calls (rd y234 x10_1) 0 7 true _ A18.out).mono ?_); rintro e w' ⟨rfl, ⟨nd, rfl⟩⟩; (try first | exact ⟨rfl, _, World.drewN_drewN _ _ _⟩ | exact ⟨rfl, _, Eq.trans (World.drewN_drewN _ _ _) (congrArg (World.drewN _) (Nat.add_assoc _ _ _))⟩)))
       repeat (go_quiet (first | (go_at_call 111; (with_reducible refine (spec_l1In.calls (rd y234 x10_1) 0 7 true _ A18.out).mono ?_); rintro e w' ⟨rfl, ⟨nd, rfl⟩⟩; (try first | exact ⟨rfl, _, World.drewN_drewN _ _ _⟩ | exact ⟨rfl, _, Eq.trans (World.drewN_drewN _ _ _) (congrArg (World.drewN _) (Nat.add_assoc _ _ _))⟩))); try go_wp2_with (first | (go_at_call 111; (with_reducible refine (spec_l1In.calls (rd y234 x10_1) 0 7 true _ A18.out).mono ?_); rintro e w' ⟨rfl, ⟨nd, rfl⟩⟩; (try first | exact ⟨rfl, _, World.drewN_drewN _ _ _⟩ | exact ⟨rfl, _, Eq.trans (World.drewN_drewN _ _ _) (congrArg (World.drewN _) (Nat.add_assoc _ _ _))⟩))))
       go_roundg k2
       case measure => have := HK1.out; have := HK2.out; omega
       case rel => exact ⟨(wrap64 (x10_1 + 1)), rS, H', ⟨by have := HK1.out; have := HK2.out; omega⟩, ⟨rK HO_9⟩, ⟨bA⟩⟩
      replace c19 := Bool.eq_false_iff.mpr c19
      subst c19
      have H1 : (some false) = some r := by rw [if_neg (show ¬ (false = true) by decide)] at H; exact H
      clear H
      have H := H1
      clear H1
      obtain rfl := Option.some.inj H
      obtain ⟨Ao21, co21, eo21⟩ := Kd.R_slice HO_9.out
      subst eo21
      obtain ⟨p239, q239⟩ : 0 ≤ (x10_1 : Int) ∧ x10_1 < (y234.length : Int) := ⟨dA, dA⟩
      obtain ⟨ad239, e239, hx239_0⟩ := Kd.at_int (Kd.R_reads' HO_9.out).2.2 x10_1 p239 q239
      cases e239
      obtain ⟨p239, q239⟩ := eT p239 q239
      go_wp2_with (first | (go_at_call 111; (with_reducible refine (spec_l1In.calls (rd y234 x10_1) 0 7 false _ A18.out).mono ?_); rintro e w' ⟨rfl, ⟨nd, rfl⟩⟩; (try first | exact ⟨rfl, _, World.drewN_drewN _ _ _⟩ | exact ⟨rfl, _, Eq.trans (World.drewN_drewN _ _ _) (congrArg (World.drewN _) (Nat.add_assoc _ _ _))⟩)))
      repeat (go_quiet (first | (go_at_call 111; (with_reducible refine (spec_l1In.calls (rd y234 x10_1) 0 7 false _ A18.out).mono ?_); rintro e w' ⟨rfl, ⟨nd, rfl⟩⟩; (try first | exact ⟨rfl, _, World.drewN_drewN _ _ _⟩ | exact ⟨rfl, _, Eq.trans (World.drewN_drewN _ _ _) (congrArg (World.drewN _) (Nat.add_assoc _ _ _))⟩))); try go_wp2_with (first | (go_at_call 111; (with_reducible refine (spec_l1In.calls (rd y234 x10_1) 0 7 false _ A18.out).mono ?_); rintro e w' ⟨rfl, ⟨nd, rfl⟩⟩; (try first | exact ⟨rfl, _, World.drewN_drewN _ _ _⟩ | exact ⟨rfl, _, Eq.trans (World.drewN_drewN _ _ _) (congrArg (World.drewN _) (Nat.add_assoc _ _ _))⟩))))
      go_ret
      exact ⟨rA, bA⟩
   rw [if_neg c7] at H
   have c7b0 := decide_eq_false c7
   clear c7
   have H' := Aside0.mk H
   clear H
   go_wp2
   repeat (go_quiet (fail); try go_wp2)
   go_loopg [12, 13] k1 (fun kq v12 v13 w' => ∃ (x12_2 : Int) (x13_2 : Int), v12 = .int .i64 x12_2 ∧ v13 = .int .i64 x13_2 ∧ Aside0 (spec_Interleave.l2 kq a1 a2 a3 x12_2 x13_2 = some r) ∧ Aside0 (kq ≤ k1) ∧ Aside0 (Below w.heap.size w w'))
   case atStart => exact ⟨(0), (Int.tmod (wrap64 (a0 + 1)) 8), rS, rS, H', ⟨Nat.le_refl _⟩, ⟨bA⟩⟩
   case round =>
    clear H'
    obtain ⟨x12_2, x13_2, rfl, rfl, HA, HK2, HB⟩ := hrel
    cases gk with
    | zero => exact absurd HA.out (by simp [spec_Interleave.l2])
    | succ k2 =>
     have H := HA.out
     clear HA
     simp only [spec_Interleave.l2] at H
     by_cases c22 : x13_2 = a1
     ·
      rw [if_pos c22] at H
      have c22b0 : (x13_2 == a1) = true := beq_iff_eq.mpr c22
      have c22b1 : (x13_2 != a1) = false := bne_eq_false_iff_eq.mpr c22
      clear c22
      obtain rfl := Option.some.inj H
      go_wp2
      repeat (go_quiet (fail); try go_wp2)
      go_ret
      exact ⟨rA, bA⟩
     rw [if_neg c22] at H
     have c22b0 : (x13_2 == a1) = false := beq_eq_false_iff_ne.mpr c22
     have c22b1 : (x13_2 != a1) = true := bne_iff_ne.mpr c22
     by_cases c23 : x13_2 = a2
     ·
      rw [if_pos c23] at H
      have c23b0 : (x13_2 == a2) = true := beq_iff_eq.mpr c23
      have c23b1 : (x13_2 != a2) = false := bne_eq_false_iff_eq.mpr c23
      clear c23
      have H' := Aside0.mk H
      clear H
      go_wp2
      repeat (go_quiet (fail); try go_wp2)
      go_roundg k2
      case measure => have := HK1.out; have := HK2.out; omega
      case rel => exact ⟨(wrap64 (x12_2 + 1)), (Int.tmod (wrap64 (x13_2 + 1)) 8), rS, rS, H', ⟨by have := HK1.out; have := HK2.out; omega⟩, ⟨bA⟩⟩
     rw [if_neg c23] at H
     have c23b0 : (x13_2 == a2) = false := beq_eq_false_iff_ne.mpr c23
     have c23b1 : (x13_2 != a2) = true := bne_iff_ne.mpr c23
     by_cases c24 : x13_2 = a3
     ·
      rw [if_pos c24] at H
      have c24b0 : (x13_2 == a3) = true := beq_iff_eq.mpr c24
      have c24b1 : (x13_2 != a3) = false := bne_eq_false_iff_eq.mpr c24
      clear c24
      have H' := Aside0.mk H
      clear H
      go_wp2
      repeat (go_quiet (fail); try go_wp2)
      go_roundg k2
      case measure => have := HK1.out; have := HK2.out; omega
      case rel => exact ⟨(wrap64 (x12_2 + 1)), (Int.tmod (wrap64 (x13_2 + 1)) 8), rS, rS, H', ⟨by have := HK1.out; have := HK2.out; omega⟩, ⟨bA⟩⟩
     rw [if_neg c24] at H
     have c24b0 : (x13_2 == a3) = false := beq_eq_false_iff_ne.mpr c24
     have c24b1 : (x13_2 != a3) = true := bne_iff_ne.mpr c24
     have H' := Aside0.mk H
     clear H
     go_wp2
     repeat (go_quiet (fail); try go_wp2)
     go_roundg k2
     case measure => have := HK1.out; have := HK2.out; omega
     case rel => exact ⟨(x12_2), (Int.tmod (wrap64 (x13_2 + 1)) 8), rS, rS, H', ⟨by have := HK1.out; have := HK2.out; omega⟩, ⟨bA⟩⟩

/-! ### spec_InPlace: function 168 -/
def spec_InPlace.f (a0 : Int) : Option (Int) := (spec_l1In.f a0 0 3).bind fun t241 => (if t241 = true then (some (wrap64 (2 * a0))) else (some (-1)))
set_option maxHeartbeats 8000000 in
set_option maxRecDepth 100000 in
theorem spec_InPlace.calls (a0 : Int) (r : Int) (w : World) (h : spec_InPlace.f a0 = some r) :
  Calls Try.prog 168 #[.int .i64 a0] w fun e w' => e = .returned (.int .i64 r) ∧ Drawn0 w w' := by
 have H : ((spec_l1In.f a0 0 3).bind fun t241 => (if t241 = true then (some (wrap64 (2 * a0))) else (some (-1)))) = some r := h
 clear h
 obtain ⟨t241, A2, H⟩ := bindE H
 try dsimp only at H
 by_cases c3 : t241 = true
 ·
  subst c3
  have H1 : (some (wrap64 (2 * a0))) = some r := by rw [if_pos rfl] at H; exact H
  clear H
  have H := H1
  clear H1
  obtain rfl := Option.some.inj H
  go_enter Try.func168, Try.ntmps168
  go_wp2_with (first | ((with_reducible refine gate_callee (f := 111) rfl ?_); refine gL (some 4) Try.func111 #[.int .i64 a0, .int .i64 0, .int .i64 3] ?_; (with_reducible refine (spec_l1In.calls a0 0 3 true _ A2.out).mono ?_); rintro e w' ⟨rfl, ⟨nd, rfl⟩⟩; refine ⟨_, rfl, ?_⟩))
  go_ret
  exact ⟨rS, dD⟩
 replace c3 := Bool.eq_false_iff.mpr c3
 subst c3
 have H1 : (some (-1)) = some r := by rw [if_neg (show ¬ (false = true) by decide)] at H; exact H
 clear H
 have H := H1
 clear H1
 obtain rfl := Option.some.inj H
 go_enter Try.func168, Try.ntmps168
 go_wp2_with (first | ((with_reducible refine gate_callee (f := 111) rfl ?_); refine gL (some 4) Try.func111 #[.int .i64 a0, .int .i64 0, .int .i64 3] ?_; (with_reducible refine (spec_l1In.calls a0 0 3 false _ A2.out).mono ?_); rintro e w' ⟨rfl, ⟨nd, rfl⟩⟩; refine ⟨_, rfl, ?_⟩))
 go_ret
 exact ⟨rS, dD⟩

/-! ### spec_OutPlace: function 169 -/
def spec_OutPlace.f (a0 : Int) : Option (Int) := (spec_l1In.f a0 0 3).bind fun t242 => (if t242 = true then (some (wrap64 ((wrap64 (2 * a0)) + 1))) else (some (-1)))
set_option maxHeartbeats 8000000 in
set_option maxRecDepth 100000 in
theorem spec_OutPlace.calls (a0 : Int) (r : Int) (w : World) (h : spec_OutPlace.f a0 = some r) :
  Calls Try.prog 169 #[.int .i64 a0] w fun e w' => e = .returned (.int .i64 r) ∧ Drawn0 w w' := by
 have H : ((spec_l1In.f a0 0 3).bind fun t242 => (if t242 = true then (some (wrap64 ((wrap64 (2 * a0)) + 1))) else (some (-1)))) = some r := h
 clear h
 obtain ⟨t242, A2, H⟩ := bindE H
 try dsimp only at H
 by_cases c3 : t242 = true
 ·
  subst c3
  have H1 : (some (wrap64 ((wrap64 (2 * a0)) + 1))) = some r := by rw [if_pos rfl] at H; exact H
  clear H
  have H := H1
  clear H1
  obtain rfl := Option.some.inj H
  go_enter Try.func169, Try.ntmps169
  go_wp2_with (first | ((with_reducible refine gate_callee (f := 111) rfl ?_); refine gL (some 4) Try.func111 #[.int .i64 a0, .int .i64 0, .int .i64 3] ?_; (with_reducible refine (spec_l1In.calls a0 0 3 true _ A2.out).mono ?_); rintro e w' ⟨rfl, ⟨nd, rfl⟩⟩; refine ⟨_, rfl, ?_⟩))
  go_ret
  exact ⟨rS, dD⟩
 replace c3 := Bool.eq_false_iff.mpr c3
 subst c3
 have H1 : (some (-1)) = some r := by rw [if_neg (show ¬ (false = true) by decide)] at H; exact H
 clear H
 have H := H1
 clear H1
 obtain rfl := Option.some.inj H
 go_enter Try.func169, Try.ntmps169
 go_wp2_with (first | ((with_reducible refine gate_callee (f := 111) rfl ?_); refine gL (some 4) Try.func111 #[.int .i64 a0, .int .i64 0, .int .i64 3] ?_; (with_reducible refine (spec_l1In.calls a0 0 3 false _ A2.out).mono ?_); rintro e w' ⟨rfl, ⟨nd, rfl⟩⟩; refine ⟨_, rfl, ?_⟩))
 go_ret
 exact ⟨rS, dD⟩

/-! ### spec_Conflict: function 145 -/
def spec_Conflict.j0 : Nat → Bool → Int → Int → Int → Int → Int → Int → Int → Int → Option (Bool)
 | 0, _, _, _, _, _, _, _, _, _ => none
 | k + 1, x5, x244000, x244001, x244002, x244003, x245000, x245001, x245002, x245003 => if x5 = true then (some false) else (if x244001 = 2 then (if x245002 = x244002 then (some true) else (some (x245003 == x244002))) else (if x245001 = 2 then (if x244002 = x245002 then (some true) else (some (x244003 == x245002))) else (if x244002 = x245002 then (some false) else (if x244003 = x245003 then (some true) else ((spec_InPlace.f x244002).bind fun t247 => ((spec_OutPlace.f x244003).bind fun t248 => ((spec_InPlace.f x245002).bind fun t249 => ((spec_OutPlace.f x245003).bind fun t250 => ((spec_Interleave.f k t247 t248 t249 t250).bind fun t251 => (some t251))))))))))
def spec_Conflict.f (k : Nat) (a0_0 : Int) (a0_1 : Int) (a0_2 : Int) (a0_3 : Int) (a1_0 : Int) (a1_1 : Int) (a1_2 : Int) (a1_3 : Int) : Option (Bool) := (spec_IsPath.f a0_0 a0_1 a0_2 a0_3).bind fun t245 => (if t245 = true then ((spec_IsPath.f a1_0 a1_1 a1_2 a1_3).bind fun t246 => (if t246 = true then (if a0_1 = 2 then (spec_Conflict.j0 k (a1_1 == 2) a0_0 a0_1 a0_2 a0_3 a1_0 a1_1 a1_2 a1_3) else (spec_Conflict.j0 k false a0_0 a0_1 a0_2 a0_3 a1_0 a1_1 a1_2 a1_3)) else (spec_Conflict.j0 k true a0_0 a0_1 a0_2 a0_3 a1_0 a1_1 a1_2 a1_3))) else (spec_Conflict.j0 k true a0_0 a0_1 a0_2 a0_3 a1_0 a1_1 a1_2 a1_3))
theorem spec_Conflict.mono_l : ∀ k, (∀ y0 y1 y2 y3 y4 y5 y6 y7 y8, LeO (spec_Conflict.j0 k y0 y1 y2 y3 y4 y5 y6 y7 y8) (spec_Conflict.j0 (k + 1) y0 y1 y2 y3 y4 y5 y6 y7 y8))
 | 0 => fun _ _ _ _ _ _ _ _ _ r h => by simp [spec_Conflict.j0] at h
 | k + 1 => by
  have ih0 := spec_Conflict.mono_l k
  ·
   intro y0 y1 y2 y3 y4 y5 y6 y7 y8
   unfold spec_Conflict.j0
   exact mz2 ih0 spec_Interleave.mono
theorem spec_Conflict.mono : ∀ a0 a1 a2 a3 a4 a5 a6 a7 k, LeO (spec_Conflict.f k a0 a1 a2 a3 a4 a5 a6 a7) (spec_Conflict.f (k + 1) a0 a1 a2 a3 a4 a5 a6 a7) := by
 intro a0 a1 a2 a3 a4 a5 a6 a7 k
 have ih0 := spec_Conflict.mono_l k
 unfold spec_Conflict.f
 exact mz2 ih0 spec_Interleave.mono
def spec_Conflict.T11 : Bool × List (List Nat × List Nat) := (true, [([], []), ([0], [0]), ([1], [1]), ([], []), ([3], [3]), ([4, 2], [4]), ([], []), ([6], [6]), ([7, 5], [7]), ([], []), ([9], [9]), ([10, 8], [10]), ([2, 5, 8, 11, 11], [2, 5, 8, 11]), ([12, 12, 0, 1, 2, 3, 4, 5, 6, 7, 8, 9, 10, 11, 12], [12])])
def spec_Conflict.B11 : List Nat := [0, 1, 3, 0, 8, 31, 0, 64, 255, 0, 512, 2047, 4095, 8191]
theorem spec_Conflict.tab11 : rtab .any (opsOf Try.f145 11) = spec_Conflict.T11 := by kernel_rfl
theorem spec_Conflict.bits11 : waitsOk spec_Conflict.T11.2 spec_Conflict.B11 = true := by kernel_rfl
set_option maxHeartbeats 8000000 in
set_option maxRecDepth 100000 in
theorem spec_Conflict.calls (k : Nat) (a0_0 : Int) (a0_1 : Int) (a0_2 : Int) (a0_3 : Int) (a1_0 : Int) (a1_1 : Int) (a1_2 : Int) (a1_3 : Int) (r : Bool) (w : World) (h : spec_Conflict.f k a0_0 a0_1 a0_2 a0_3 a1_0 a1_1 a1_2 a1_3 = some r) :
  Calls Try.prog 145 #[.agg #[.int .i64 a0_0, .int .i64 a0_1, .int .i64 a0_2, .int .i64 a0_3], .agg #[.int .i64 a1_0, .int .i64 a1_1, .int .i64 a1_2, .int .i64 a1_3]] w fun e w' => e = .returned (.bool r) ∧ Below w.heap.size w w' := by
 have hu50 := Try.underlying50
 have HB := Aside0.mk (Below.refl w.heap.size w)
 have H : ((spec_IsPath.f a0_0 a0_1 a0_2 a0_3).bind fun t245 => (if t245 = true then ((spec_IsPath.f a1_0 a1_1 a1_2 a1_3).bind fun t246 => (if t246 = true then (if a0_1 = 2 then (spec_Conflict.j0 k (a1_1 == 2) a0_0 a0_1 a0_2 a0_3 a1_0 a1_1 a1_2 a1_3) else (spec_Conflict.j0 k false a0_0 a0_1 a0_2 a0_3 a1_0 a1_1 a1_2 a1_3)) else (spec_Conflict.j0 k true a0_0 a0_1 a0_2 a0_3 a1_0 a1_1 a1_2 a1_3))) else (spec_Conflict.j0 k true a0_0 a0_1 a0_2 a0_3 a1_0 a1_1 a1_2 a1_3))) = some r := h
 clear h
 have HC3 := Aside0.mk H
 clear H
 go_enter Try.func145, Try.ntmps145
 go_upto_region 1 with (first | ((with_reducible refine gate_dst (N := 2) rfl ?_); refine bE (N := 2) (cs := #[.int .i64 a0_0, .int .i64 a0_1, .int .i64 a0_2, .int .i64 a0_3]) (t := 50) ?_; intro gb243 hg w4 hbox hb; have BK243 := Aside0.mk (hbox); have GW243 := gw w hg; have GE243 := gw w hg; replace HB := bs HB hb; clear hb hbox hg) | ((with_reducible refine gate_dst (N := 3) rfl ?_); refine bE (N := 3) (cs := #[.int .i64 a1_0, .int .i64 a1_1, .int .i64 a1_2, .int .i64 a1_3]) (t := 50) ?_; intro gb244 hg w5 hbox hb; have BK244 := Aside0.mk (hbox); have GW244 := gw w hg; have GE244 := gw w hg; replace HB := bs HB hb; have NB243_244 := nl BK243 hg; have NB244_243 := nr BK243 hg; replace BK243 := kb BK243 hb; clear hb hbox hg))
 (try simp only [Act.put, List.setIfInBounds_toArray, List.set_cons_zero, List.set_cons_succ])
 go_cut [5] (fun v5 wc => ∃ (kq : Nat) (x5_2 : Bool), v5 = .bool x5_2 ∧ Aside0 (spec_Conflict.j0 kq x5_2 a0_0 a0_1 a0_2 a0_3 a1_0 a1_1 a1_2 a1_3 = some r) ∧ Aside0 (kq ≤ k) ∧ Aside0 (wc.heap[gb243]? = some (.cells #[.int .i64 a0_0, .int .i64 a0_1, .int .i64 a0_2, .int .i64 a0_3] 50 (0, 0))) ∧ Aside0 (wc.heap[gb244]? = some (.cells #[.int .i64 a1_0, .int .i64 a1_1, .int .i64 a1_2, .int .i64 a1_3] 50 (0, 0))) ∧ Aside0 (Below w.heap.size w wc))
 case first =>
  have H := HC3.out
  clear HC3
  obtain ⟨t245, A6, H⟩ := bindE H
  try dsimp only at H
  by_cases c7 : t245 = true
  ·
   subst c7
   have H1 : ((spec_IsPath.f a1_0 a1_1 a1_2 a1_3).bind fun t246 => (if t246 = true then (if a0_1 = 2 then (spec_Conflict.j0 k (a1_1 == 2) a0_0 a0_1 a0_2 a0_3 a1_0 a1_1 a1_2 a1_3) else (spec_Conflict.j0 k false a0_0 a0_1 a0_2 a0_3 a1_0 a1_1 a1_2 a1_3)) else (spec_Conflict.j0 k true a0_0 a0_1 a0_2 a0_3 a1_0 a1_1 a1_2 a1_3))) = some r := by rw [if_pos rfl] at H; exact H
   clear H
   have H := H1
   clear H1
   obtain ⟨t246, A8, H⟩ := bindE H
   try dsimp only at H
   by_cases c9 : t246 = true
   ·
    subst c9
    have H1 : (if a0_1 = 2 then (spec_Conflict.j0 k (a1_1 == 2) a0_0 a0_1 a0_2 a0_3 a1_0 a1_1 a1_2 a1_3) else (spec_Conflict.j0 k false a0_0 a0_1 a0_2 a0_3 a1_0 a1_1 a1_2 a1_3)) = some r := by rw [if_pos rfl] at H; exact H
    clear H
    have H := H1
    clear H1
    by_cases c10 : a0_1 = 2
    ·
     rw [if_pos c10] at H
     have c10b0 : (a0_1 == 2) = true := beq_iff_eq.mpr c10
     have c10b1 : (a0_1 != 2) = false := bne_eq_false_iff_eq.mpr c10
     clear c10
     (first | rw [c10b0] | (simp only [i64_w, i32_w]; rw [c10b0]) | skip)
     have H' := Aside0.mk H
     clear H
     have hnb11 := NB243_244.out
     have hnc11 := NB244_243.out
     obtain ⟨_, _, _, _, _, _, _, _⟩ := blkc4 BK243
     go_wp2_with (first | ((with_reducible refine gate_callee (f := 91) rfl ?_); refine gL (some 7) Try.func91 #[.agg #[.int .i64 a0_0, .int .i64 a0_1, .int .i64 a0_2, .int .i64 a0_3]] ?_; (with_reducible refine (spec_IsPath.calls a0_0 a0_1 a0_2 a0_3 true _ A6.out).mono ?_); rintro e w13 ⟨rfl, hb⟩; refine ⟨_, rfl, ?_⟩; replace BK243 := kb BK243 hb; replace BK244 := kb BK244 hb; replace HB := bs HB hb; (try clear hb); have hcz14_0 : w13.cell? ⟨gb244, 0, none⟩ = some (.int .i64 a1_0) := bC BK244 0; have hcz14_1 : w13.cell? ⟨gb244, 1, none⟩ = some (.int .i64 a1_1) := bC BK244 1; have hcz14_2 : w13.cell? ⟨gb244, 2, none⟩ = some (.int .i64 a1_2) := bC BK244 2; have hcz14_3 : w13.cell? ⟨gb244, 3, none⟩ = some (.int .i64 a1_3) := bC BK244 3; have hfz14_0 := blk_frozen BK244.out 0; have hfz14_1 := blk_frozen BK244.out 1; have hfz14_2 := blk_frozen BK244.out 2; have hfz14_3 := blk_frozen BK244.out 3) | (go_at_call 91; (with_reducible refine (spec_IsPath.calls a1_0 a1_1 a1_2 a1_3 true _ A8.out).mono ?_); rintro e w15 ⟨rfl, hb⟩; replace BK243 := kb BK243 hb; replace BK244 := kb BK244 hb; replace HB := bs HB hb; (try clear hb); obtain ⟨_, _, _, _, _, _, _, _⟩ := blkc4 BK243; obtain ⟨_, _, _, _, _, _, _, _⟩ := blkc4 BK244))
     go_meet
     case rel => exact ⟨_, ((a1_1 == 2)), rS, H', ⟨oL⟩, ⟨bK BK243⟩, ⟨bK BK244⟩, ⟨bG⟩⟩
    rw [if_neg c10] at H
    have c10b0 : (a0_1 == 2) = false := beq_eq_false_iff_ne.mpr c10
    have c10b1 : (a0_1 != 2) = true := bne_iff_ne.mpr c10
    (first | rw [c10b0] | (simp only [i64_w, i32_w]; rw [c10b0]) | skip)
    have H' := Aside0.mk H
    clear H
    have hnb18 := NB243_244.out
    have hnc18 := NB244_243.out
    obtain ⟨_, _, _, _, _, _, _, _⟩ := blkc4 BK243
    go_wp2_with (first | ((with_reducible refine gate_callee (f := 91) rfl ?_); refine gL (some 7) Try.func91 #[.agg #[.int .i64 a0_0, .int .i64 a0_1, .int .i64 a0_2, .int .i64 a0_3]] ?_; (with_reducible refine (spec_IsPath.calls a0_0 a0_1 a0_2 a0_3 true _ A6.out).mono ?_); rintro e w20 ⟨rfl, hb⟩; refine ⟨_, rfl, ?_⟩; replace BK243 := kb BK243 hb; replace BK244 := kb BK244 hb; replace HB := bs HB hb; (try clear hb); have hcz21_0 : w20.cell? ⟨gb244, 0, none⟩ = some (.int .i64 a1_0) := bC BK244 0; have hcz21_1 : w20.cell? ⟨gb244, 1, none⟩ = some (.int .i64 a1_1) := bC BK244 1; have hcz21_2 : w20.cell? ⟨gb244, 2, none⟩ = some (.int .i64 a1_2) := bC BK244 2; have hcz21_3 : w20.cell? ⟨gb244, 3, none⟩ = some (.int .i64 a1_3) := bC BK244 3; have hfz21_0 := blk_frozen BK244.out 0; have hfz21_1 := blk_frozen BK244.out 1; have hfz21_2 := blk_frozen BK244.out 2; have hfz21_3 := blk_frozen BK244.out 3) | (go_at_call 91; (with_reducible refine (spec_IsPath.calls a1_0 a1_1 a1_2 a1_3 true _ A8.out).mono ?_); rintro e w22 ⟨rfl, hb⟩; replace BK243 := kb BK243 hb; replace BK244 := kb BK244 hb; replace HB := bs HB hb; (try clear hb); obtain ⟨_, _, _, _, _, _, _, _⟩ := blkc4 BK243))
    go_meet
    case rel => exact ⟨_, (false), rS, H', ⟨oL⟩, ⟨bK BK243⟩, ⟨bK BK244⟩, ⟨bG⟩⟩
   replace c9 := Bool.eq_false_iff.mpr c9
   subst c9
   have H1 : (spec_Conflict.j0 k true a0_0 a0_1 a0_2 a0_3 a1_0 a1_1 a1_2 a1_3) = some r := by rw [if_neg (show ¬ (false = true) by decide)] at H; exact H
   clear H
   have H := H1
   clear H1
   have H' := Aside0.mk H
   clear H
   have hnb24 := NB243_244.out
   have hnc24 := NB244_243.out
   obtain ⟨_, _, _, _, _, _, _, _⟩ := blkc4 BK243
   go_wp2_with (first | ((with_reducible refine gate_callee (f := 91) rfl ?_); refine gL (some 7) Try.func91 #[.agg #[.int .i64 a0_0, .int .i64 a0_1, .int .i64 a0_2, .int .i64 a0_3]] ?_; (with_reducible refine (spec_IsPath.calls a0_0 a0_1 a0_2 a0_3 true _ A6.out).mono ?_); rintro e w26 ⟨rfl, hb⟩; refine ⟨_, rfl, ?_⟩; replace BK243 := kb BK243 hb; replace BK244 := kb BK244 hb; replace HB := bs HB hb; (try clear hb); have hcz27_0 : w26.cell? ⟨gb244, 0, none⟩ = some (.int .i64 a1_0) := bC BK244 0; have hcz27_1 : w26.cell? ⟨gb244, 1, none⟩ = some (.int .i64 a1_1) := bC BK244 1; have hcz27_2 : w26.cell? ⟨gb244, 2, none⟩ = some (.int .i64 a1_2) := bC BK244 2; have hcz27_3 : w26.cell? ⟨gb244, 3, none⟩ = some (.int .i64 a1_3) := bC BK244 3; have hfz27_0 := blk_frozen BK244.out 0; have hfz27_1 := blk_frozen BK244.out 1; have hfz27_2 := blk_frozen BK244.out 2; have hfz27_3 := blk_frozen BK244.out 3) | (go_at_call 91; (with_reducible refine (spec_IsPath.calls a1_0 a1_1 a1_2 a1_3 false _ A8.out).mono ?_); rintro e w28 ⟨rfl, hb⟩; replace BK243 := kb BK243 hb; replace BK244 := kb BK244 hb; replace HB := bs HB hb; (try clear hb)))
   go_meet
   case rel => exact ⟨_, (true), rS, H', ⟨oL⟩, ⟨bK BK243⟩, ⟨bK BK244⟩, ⟨bG⟩⟩
  replace c7 := Bool.eq_false_iff.mpr c7
  subst c7
  have H1 : (spec_Conflict.j0 k true a0_0 a0_1 a0_2 a0_3 a1_0 a1_1 a1_2 a1_3) = some r := by rw [if_neg (show ¬ (false = true) by decide)] at H; exact H
  clear H
  have H := H1
  clear H1
  have H' := Aside0.mk H
  clear H
  have hnb29 := NB243_244.out
  have hnc29 := NB244_243.out
  obtain ⟨_, _, _, _, _, _, _, _⟩ := blkc4 BK243
  go_wp2_with (first | ((with_reducible refine gate_callee (f := 91) rfl ?_); refine gL (some 7) Try.func91 #[.agg #[.int .i64 a0_0, .int .i64 a0_1, .int .i64 a0_2, .int .i64 a0_3]] ?_; (with_reducible refine (spec_IsPath.calls a0_0 a0_1 a0_2 a0_3 false _ A6.out).mono ?_); rintro e w31 ⟨rfl, hb⟩; refine ⟨_, rfl, ?_⟩; replace BK243 := kb BK243 hb; replace BK244 := kb BK244 hb; replace HB := bs HB hb; (try clear hb)))
  go_meet
  case rel => exact ⟨_, (true), rS, H', ⟨oL⟩, ⟨bK BK243⟩, ⟨bK BK244⟩, ⟨bG⟩⟩
 case rest =>
  clear HC3
  obtain ⟨kq, x5_2, rfl, HA, HJ2, BK243, BK244, HB⟩ := hcut
  cases kq with
  | zero => exact absurd HA.out (by simp [spec_Conflict.j0])
  | succ kj2 =>
   have H := HA.out
   clear HA
   simp only [spec_Conflict.j0] at H
   by_cases c32 : x5_2 = true
   ·
    subst c32
    have H1 : (some false) = some r := by rw [if_pos rfl] at H; exact H
    clear H
    have H := H1
    clear H1
    obtain rfl := Option.some.inj H
    go_wp2
    go_ret
    exact ⟨rA, bG⟩
   replace c32 := Bool.eq_false_iff.mpr c32
   subst c32
   have H1 : (if a0_1 = 2 then (if a1_2 = a0_2 then (some true) else (some (a1_3 == a0_2))) else (if a1_1 = 2 then (if a0_2 = a1_2 then (some true) else (some (a0_3 == a1_2))) else (if a0_2 = a1_2 then (some false) else (if a0_3 = a1_3 then (some true) else ((spec_InPlace.f a0_2).bind fun t247 => ((spec_OutPlace.f a0_3).bind fun t248 => ((spec_InPlace.f a1_2).bind fun t249 => ((spec_OutPlace.f a1_3).bind fun t250 => ((spec_Interleave.f kj2 t247 t248 t249 t250).bind fun t251 => (some t251)))))))))) = some r := by rw [if_neg (show ¬ (false = true) by decide)] at H; exact H
   clear H
   have H := H1
   clear H1
   by_cases c33 : a0_1 = 2
   ·
    rw [if_pos c33] at H
    have c33b0 : (a0_1 == 2) = true := beq_iff_eq.mpr c33
    have c33b1 : (a0_1 != 2) = false := bne_eq_false_iff_eq.mpr c33
    clear c33
    by_cases c34 : a1_2 = a0_2
    ·
     rw [if_pos c34] at H
     have c34b0 : (a1_2 == a0_2) = true := beq_iff_eq.mpr c34
     have c34b1 : (a1_2 != a0_2) = false := bne_eq_false_iff_eq.mpr c34
     clear c34
     obtain rfl := Option.some.inj H
     have hnb35 := NB243_244.out
     have hnc35 := NB244_243.out
     obtain ⟨_, _, _, _, _, _, _, _⟩ := blkc4 BK243
     obtain ⟨_, _, _, _, _, _, _, _⟩ := blkc4 BK244
     go_wp2
     go_ret
     exact ⟨rA, bG⟩
    rw [if_neg c34] at H
    have c34b0 : (a1_2 == a0_2) = false := beq_eq_false_iff_ne.mpr c34
    have c34b1 : (a1_2 != a0_2) = true := bne_iff_ne.mpr c34
    obtain rfl := Option.some.inj H
    have hnb38 := NB243_244.out
    have hnc38 := NB244_243.out
    obtain ⟨_, _, _, _, _, _, _, _⟩ := blkc4 BK243
    obtain ⟨_, _, _, _, _, _, _, _⟩ := blkc4 BK244
    go_wp2
    go_ret
    exact ⟨rA, bG⟩
   rw [if_neg c33] at H
   have c33b0 : (a0_1 == 2) = false := beq_eq_false_iff_ne.mpr c33
   have c33b1 : (a0_1 != 2) = true := bne_iff_ne.mpr c33
   by_cases c41 : a1_1 = 2
   ·
    rw [if_pos c41] at H
    have c41b0 : (a1_1 == 2) = true := beq_iff_eq.mpr c41
    have c41b1 : (a1_1 != 2) = false := bne_eq_false_iff_eq.mpr c41
    clear c41
    by_cases c42 : a0_2 = a1_2
    ·
     rw [if_pos c42] at H
     have c42b0 : (a0_2 == a1_2) = true := beq_iff_eq.mpr c42
     have c42b1 : (a0_2 != a1_2) = false := bne_eq_false_iff_eq.mpr c42
     clear c42
     obtain rfl := Option.some.inj H
     have hnb43 := NB243_244.out
     have hnc43 := NB244_243.out
     obtain ⟨_, _, _, _, _, _, _, _⟩ := blkc4 BK243
     obtain ⟨_, _, _, _, _, _, _, _⟩ := blkc4 BK244
     go_wp2
     go_ret
     exact ⟨rA, bG⟩
    rw [if_neg c42] at H
    have c42b0 : (a0_2 == a1_2) = false := beq_eq_false_iff_ne.mpr c42
    have c42b1 : (a0_2 != a1_2) = true := bne_iff_ne.mpr c42
    obtain rfl := Option.some.inj H
    have hnb46 := NB243_244.out
    have hnc46 := NB244_243.out
    obtain ⟨_, _, _, _, _, _, _, _⟩ := blkc4 BK243
    obtain ⟨_, _, _, _, _, _, _, _⟩ := blkc4 BK244
    go_wp2
    go_ret
    exact ⟨rA, bG⟩
   rw [if_neg c41] at H
   have c41b0 : (a1_1 == 2) = false := beq_eq_false_iff_ne.mpr c41
   have c41b1 : (a1_1 != 2) = true := bne_iff_ne.mpr c41
   by_cases c49 : a0_2 = a1_2
   ·
    rw [if_pos c49] at H
    have c49b0 : (a0_2 == a1_2) = true := beq_iff_eq.mpr c49
    have c49b1 : (a0_2 != a1_2) = false := bne_eq_false_iff_eq.mpr c49
    clear c49
    obtain rfl := Option.some.inj H
    have hnb50 := NB243_244.out
    have hnc50 := NB244_243.out
    obtain ⟨_, _, _, _, _, _, _, _⟩ := blkc4 BK243
    obtain ⟨_, _, _, _, _, _, _, _⟩ := blkc4 BK244
    go_wp2
    go_ret
    exact ⟨rA, bG⟩
   rw [if_neg c49] at H
   have c49b0 : (a0_2 == a1_2) = false := beq_eq_false_iff_ne.mpr c49
   have c49b1 : (a0_2 != a1_2) = true := bne_iff_ne.mpr c49
   by_cases c53 : a0_3 = a1_3
   ·
    rw [if_pos c53] at H
    have c53b0 : (a0_3 == a1_3) = true := beq_iff_eq.mpr c53
    have c53b1 : (a0_3 != a1_3) = false := bne_eq_false_iff_eq.mpr c53
    clear c53
    obtain rfl := Option.some.inj H
    have hnb54 := NB243_244.out
    have hnc54 := NB244_243.out
    obtain ⟨_, _, _, _, _, _, _, _⟩ := blkc4 BK243
    obtain ⟨_, _, _, _, _, _, _, _⟩ := blkc4 BK244
    go_wp2
    go_ret
    exact ⟨rA, bG⟩
   rw [if_neg c53] at H
   have c53b0 : (a0_3 == a1_3) = false := beq_eq_false_iff_ne.mpr c53
   have c53b1 : (a0_3 != a1_3) = true := bne_iff_ne.mpr c53
   obtain ⟨t247, A57, H⟩ := bindE H
   try dsimp only at H
   obtain ⟨t248, A58, H⟩ := bindE H
   try dsimp only at H
   obtain ⟨t249, A59, H⟩ := bindE H
   try dsimp only at H
   obtain ⟨t250, A60, H⟩ := bindE H
   try dsimp only at H
   obtain ⟨t251, A61, H⟩ := bindE H
   try dsimp only at H
   obtain rfl := Option.some.inj H
   have hnb62 := NB243_244.out
   have hnc62 := NB244_243.out
   obtain ⟨_, _, _, _, _, _, _, _⟩ := blkc4 BK243
   obtain ⟨_, _, _, _, _, _, _, _⟩ := blkc4 BK244
   try go_wp2
   replace BK243 := dk BK243
   replace BK244 := dk BK244
   have HBo := HB
   replace HB := db HB
   refine start_ (n := 14) (S := fun w' => w'.cell? ⟨gb243, 0, none⟩ = some (.int .i64 a0_0) ∧ w'.cell? ⟨gb243, 1, none⟩ = some (.int .i64 a0_1) ∧ w'.cell? ⟨gb243, 2, none⟩ = some (.int .i64 a0_2) ∧ w'.cell? ⟨gb243, 3, none⟩ = some (.int .i64 a0_3) ∧ w'.cell? ⟨gb244, 0, none⟩ = some (.int .i64 a1_0) ∧ w'.cell? ⟨gb244, 1, none⟩ = some (.int .i64 a1_1) ∧ w'.cell? ⟨gb244, 2, none⟩ = some (.int .i64 a1_2) ∧ w'.cell? ⟨gb244, 3, none⟩ = some (.int .i64 a1_3)) (ds := []) (mb 14 0) (by kernel_rfl) rfl rfl (cm4 BK243 (cn4 BK244)) (fun hHeld => ?_); refine with_tabW spec_Conflict.tab11 spec_Conflict.bits11 (fun HT_ HW_ => ?_)
   generalize wc.drew = w65 at BK243 BK244 HB hHeld ⊢
   refine pa 0 68 (mb 14 1) HT_ ?_
   refine pa 3 71 (mb 14 9) HT_ ?_
   refine pa 6 74 (mb 14 73) HT_ ?_
   refine pa 9 77 (mb 14 585) HT_ ?_
   refine ta8 1 69 (mb 14 587) HT_ HW_ hHeld ?_
   refine ta8 4 72 (mb 14 603) HT_ HW_ hHeld ?_
   refine ta8 7 75 (mb 14 731) HT_ HW_ hHeld ?_
   refine ta8 10 78 (mb 14 1755) HT_ HW_ hHeld ?_
   refine oa 2 70 (mb 14 1759) HT_ (fun K hK => ?_)
   refine gA Try.func168 #[.int .i64 a0_2] ?_
   with_reducible refine (spec_InPlace.calls a0_2 t247 _ A57.out).mono ?_
   rintro e w' ⟨rfl, ⟨nd, rfl⟩⟩
   refine ⟨_, rfl, ?_⟩
   refine hK.out _ _ (cm4 BK243 (cn4 BK244)) (fun hHeld => ?_)
   clear hK K
   refine nB ?_
   refine oa 5 73 (mb 14 1791) HT_ (fun K hK => ?_)
   refine gA Try.func169 #[.int .i64 a0_3] ?_
   with_reducible refine (spec_OutPlace.calls a0_3 t248 _ A58.out).mono ?_
   rintro e w' ⟨rfl, ⟨nd, rfl⟩⟩
   refine ⟨_, rfl, ?_⟩
   refine hK.out _ _ (cm4 BK243 (cn4 BK244)) (fun hHeld => ?_)
   clear hK K
   refine nB ?_
   refine oa 8 76 (mb 14 2047) HT_ (fun K hK => ?_)
   refine gA Try.func168 #[.int .i64 a1_2] ?_
   with_reducible refine (spec_InPlace.calls a1_2 t249 _ A59.out).mono ?_
   rintro e w' ⟨rfl, ⟨nd, rfl⟩⟩
   refine ⟨_, rfl, ?_⟩
   refine hK.out _ _ (cm4 BK243 (cn4 BK244)) (fun hHeld => ?_)
   clear hK K
   refine nB ?_
   refine oa 11 79 (mb 14 4095) HT_ (fun K hK => ?_)
   refine gA Try.func169 #[.int .i64 a1_3] ?_
   with_reducible refine (spec_OutPlace.calls a1_3 t250 _ A60.out).mono ?_
   rintro e w' ⟨rfl, ⟨nd, rfl⟩⟩
   refine ⟨_, rfl, ?_⟩
   refine hK.out _ _ (cm4 BK243 (cn4 BK244)) (fun hHeld => ?_)
   clear hK K
   refine nB ?_
   refine oa 12 80 (mb 14 8191) HT_ (fun K hK => ?_)
   refine gA Try.func167 #[.int .i64 t247, .int .i64 t248, .int .i64 t249, .int .i64 t250] ?_
   with_reducible refine (spec_Interleave.calls kj2 t247 t248 t249 t250 t251 _ A61.out).mono ?_
   rintro e w66 ⟨rfl, hb⟩
   refine ⟨_, rfl, ?_⟩
   replace BK243 := kb BK243 hb
   replace BK244 := kb BK244 hb
   replace HB := bs HB hb
   (try clear hb)
   (try clear hb2)
   (try clear hk)
   (try clear hi)
   refine hK.out _ _ (cm4 BK243 (cn4 BK244)) (fun hHeld => ?_)
   clear hK K
   refine nB ?_
   refine pa 13 4 (mb 14 16383) HT_ ?_
   refine eA HT_ ?_
   try go_wp2
   go_ret
   exact ⟨rA, bG⟩

/-! ### spec_IsTogether: function 112 -/
mutual
def spec_IsTogether.l0 : Nat → List (S50) → List Int → Int → Option (Bool)
 | 0, _, _, _ => none
 | k + 1, x0, x1, x5 => if x5 < (x1.length : Int) then (if 0 ≤ x5 then ((spec_FindPath.f k x0 (rd x1 x5)).bind fun t254 => (if t254 < 0 then (spec_IsTogether.j1 k x0 x1 x5 t254 true) else (if x5 > 0 then (if 0 ≤ (wrap64 (x5 - 1)) then (if (wrap64 (x5 - 1)) < (x1.length : Int) then (spec_IsTogether.j1 k x0 x1 x5 t254 (decide ((rd x1 (wrap64 (x5 - 1))) ≥ (rd x1 x5)))) else (none)) else (none)) else (spec_IsTogether.j1 k x0 x1 x5 t254 false)))) else (none)) else ((spec_ArePaths.f k x0).bind fun t252 => (some t252))
def spec_IsTogether.j1 : Nat → List (S50) → List Int → Int → Int → Bool → Option (Bool)
 | 0, _, _, _, _, _ => none
 | k + 1, x0, x1, x5, x6, x37 => if x37 = true then (some false) else (spec_IsTogether.l1 k x0 x1 x5 x6 0)
def spec_IsTogether.l1 : Nat → List (S50) → List Int → Int → Int → Int → Option (Bool)
 | 0, _, _, _, _, _ => none
 | k + 1, x0, x1, x5, x6, x7 => if x7 < x5 then (if 0 ≤ x6 then (if x6 < (x0.length : Int) then (if 0 ≤ x7 then (if x7 < (x1.length : Int) then ((spec_FindPath.f k x0 (rd x1 x7)).bind fun t259 => (if 0 ≤ t259 then (if t259 < (x0.length : Int) then ((spec_Conflict.f k ((rd_T50 x0 x6).f0) ((rd_T50 x0 x6).f1) ((rd_T50 x0 x6).f2) ((rd_T50 x0 x6).f3) ((rd_T50 x0 t259).f0) ((rd_T50 x0 t259).f1) ((rd_T50 x0 t259).f2) ((rd_T50 x0 t259).f3)).bind fun t261 => (if t261 = true then (some false) else (spec_IsTogether.l1 k x0 x1 x5 x6 (wrap64 (x7 + 1))))) else (none)) else (none))) else (none)) else (none)) else (none)) else (none)) else (spec_IsTogether.l0 k x0 x1 (wrap64 (x5 + 1)))
end
def spec_IsTogether.f (k : Nat) (l0 : List (S50)) (l1 : List Int) : Option (Bool) := spec_IsTogether.l0 k l0 l1 0
theorem spec_IsTogether.mono_l : ∀ k, (∀ y0 y1 y2, LeO (spec_IsTogether.l0 k y0 y1 y2) (spec_IsTogether.l0 (k + 1) y0 y1 y2)) ∧ (∀ y0 y1 y2 y3 y4, LeO (spec_IsTogether.j1 k y0 y1 y2 y3 y4) (spec_IsTogether.j1 (k + 1) y0 y1 y2 y3 y4)) ∧ (∀ y0 y1 y2 y3 y4, LeO (spec_IsTogether.l1 k y0 y1 y2 y3 y4) (spec_IsTogether.l1 (k + 1) y0 y1 y2 y3 y4))
 | 0 => ⟨fun _ _ _ r h => by simp [spec_IsTogether.l0] at h, fun _ _ _ _ _ r h => by simp [spec_IsTogether.j1] at h, fun _ _ _ _ _ r h => by simp [spec_IsTogether.l1] at h⟩
 | k + 1 => by
  obtain ⟨ih0, ih1, ih2⟩ := spec_IsTogether.mono_l k
  refine ⟨?_, ?_, ?_⟩
  ·
   intro y0 y1 y2
   unfold spec_IsTogether.l0
   exact mz6 ih0 ih1 ih2 spec_ArePaths.mono spec_Conflict.mono spec_FindPath.mono
  ·
   intro y0 y1 y2 y3 y4
   unfold spec_IsTogether.j1
   exact mz6 ih0 ih1 ih2 spec_ArePaths.mono spec_Conflict.mono spec_FindPath.mono
  ·
   intro y0 y1 y2 y3 y4
   unfold spec_IsTogether.l1
   exact mz6 ih0 ih1 ih2 spec_ArePaths.mono spec_Conflict.mono spec_FindPath.mono
theorem spec_IsTogether.mono : ∀ a0 a1 k, LeO (spec_IsTogether.f k a0 a1) (spec_IsTogether.f (k + 1) a0 a1) := by
 intro a0 a1 k
 obtain ⟨ih0, ih1, ih2⟩ := spec_IsTogether.mono_l k
 unfold spec_IsTogether.f
 exact mz6 ih0 ih1 ih2 spec_ArePaths.mono spec_Conflict.mono spec_FindPath.mono
def spec_IsTogether.T5 : Bool × List (List Nat × List Nat) := (true, [([], []), ([0], [0]), ([1], [1]), ([2], [2]), ([3, 2], [2, 3]), ([4, 2, 2], [2, 4]), ([5], [5]), ([5], [5]), ([7, 5], [5, 7]), ([6, 8, 5], [5, 6, 8]), ([9, 5], [5, 9]), ([5], [5]), ([5], [5]), ([11, 12, 5], [5, 11, 12]), ([13, 5], [5, 13]), ([10, 14, 5], [5, 10, 14]), ([5, 15, 2], [2, 5, 15]), ([2, 16], [2, 16])])
def spec_IsTogether.B5 : List Nat := [0, 1, 3, 7, 15, 31, 63, 63, 191, 511, 1023, 63, 63, 6207, 14399, 32767, 65535, 131071]
theorem spec_IsTogether.tab5 : rtab .any (opsOf Try.f112 5) = spec_IsTogether.T5 := by kernel_rfl
theorem spec_IsTogether.bits5 : waitsOk spec_IsTogether.T5.2 spec_IsTogether.B5 = true := by kernel_rfl
def spec_IsTogether.T10 : Bool × List (List Nat × List Nat) := (true, [([], []), ([], []), ([0, 1], [0, 1]), ([2], [2]), ([], []), ([], []), ([], []), ([], []), ([6, 7], [6, 7]), ([8], [8]), ([5, 9], [5, 9]), ([4, 10], [4, 10]), ([11], [11]), ([3, 12, 10], [3, 12])])
def spec_IsTogether.B10 : List Nat := [0, 0, 3, 7, 0, 0, 0, 0, 192, 448, 992, 2032, 4080, 8191]
theorem spec_IsTogether.tab10 : rtab .any (opsOf Try.f112 10) = spec_IsTogether.T10 := by kernel_rfl
theorem spec_IsTogether.bits10 : waitsOk spec_IsTogether.T10.2 spec_IsTogether.B10 = true := by kernel_rfl
set_option maxHeartbeats 8000000 in
set_option maxRecDepth 100000 in
theorem spec_IsTogether.calls (k : Nat) (A0 : Option Addr) (c0 : Nat) (l0 : List (S50)) (A1 : Option Addr) (c1 : Nat) (l1 : List Int) (r : Bool) (w : World) (hr0 : Kd.C k50 w A0 l0.length l0) (hc0 : l0.length ≤ c0) (hr1 : Kd.C (Kd.int .i64) w A1 l1.length l1) (hc1 : l1.length ≤ c1) (h : spec_IsTogether.f k l0 l1 = some r) :
  Calls Try.prog 112 #[.slice A0 l0.length c0, .slice A1 l1.length c1] w fun e w' => e = .returned (.bool r) ∧ Below w.heap.size w w' := by
 have hu50 := Try.underlying50
 have HR0 := Aside0.mk hr0
 have HC0 := Aside0.mk hc0
 clear hr0 hc0
 have HR1 := Aside0.mk hr1
 have HC1 := Aside0.mk hc1
 clear hr1 hc1
 have HB := Aside0.mk (Below.refl w.heap.size w)
 have H : (spec_IsTogether.l0 k l0 l1 0) = some r := h
 clear h
 have H' := Aside0.mk H
 clear H
 go_enter Try.func112, Try.ntmps112
 go_wp2
 go_loopg [5] k (fun kq v5 w' => ∃ (x5_1 : Int), v5 = .int .i64 x5_1 ∧ Aside0 (spec_IsTogether.l0 kq l0 l1 x5_1 = some r) ∧ Aside0 (kq ≤ k) ∧ Aside0 (Below w.heap.size w w'))
 case atStart => exact ⟨(0), rS, H', ⟨Nat.le_refl _⟩, ⟨bA⟩⟩
 case round =>
  clear H'
  obtain ⟨x5_1, rfl, HA, HK1, HB⟩ := hrel
  cases gk with
  | zero => exact absurd HA.out (by simp [spec_IsTogether.l0])
  | succ k1 =>
   have H := HA.out
   clear HA
   simp only [spec_IsTogether.l0] at H
   by_cases c3 : x5_1 < (l1.length : Int)
   ·
    rw [if_pos c3] at H
    have c3b0 := decide_eq_true c3
    clear c3
    have c4 : 0 ≤ x5_1 := ifN H
    replace H := ifT H
    have c4b0 := decide_eq_true c4
    clear c4
    obtain ⟨t254, A5, H⟩ := bindE H
    try dsimp only at H
    have HC6 := Aside0.mk H
    clear H
    obtain ⟨p253, q253⟩ : 0 ≤ (x5_1 : Int) ∧ x5_1 < (l1.length : Int) := ⟨dA, dA⟩
    obtain ⟨ad253, e253, hx253_0⟩ := Kd.at_int (Kd.C_below HR1.out HB.out) x5_1 p253 q253
    cases e253
    obtain ⟨p253, q253⟩ := eT p253 q253
    go_upto_region 5 with (first | ((with_reducible refine gate_callee (f := 144) rfl ?_); refine gL (some 19) Try.func144 #[.slice A0 l0.length c0, .int .i64 (rd l1 x5_1)] ?_; (with_reducible refine (spec_FindPath.calls k1 _ _ l0 (rd l1 x5_1) t254 _ ?_ ?_ A5.out).mono ?_); exact cB HR0; exact HC0.out; rintro e w' ⟨rfl, ⟨nd, rfl⟩⟩; refine ⟨_, rfl, ?_⟩))
    (try simp only [Act.put, List.setIfInBounds_toArray, List.set_cons_zero, List.set_cons_succ])
    go_cut [37] (fun v37 wc => ∃ (kq : Nat) (x37_5 : Bool), v37 = .bool x37_5 ∧ Aside0 (spec_IsTogether.j1 kq l0 l1 x5_1 t254 x37_5 = some r) ∧ Aside0 (kq ≤ k1) ∧ Aside0 (Below w.heap.size w wc))
    case first =>
     have H := HC6.out
     clear HC6
     by_cases c7 : t254 < 0
     ·
      rw [if_pos c7] at H
      have c7b0 := decide_eq_true c7
      clear c7
      (first | rw [c7b0] | (simp only [i64_w, i32_w]; rw [c7b0]) | skip)
      have H' := Aside0.mk H
      clear H
      try go_wp2
      have HBo := HB
      replace HB := db HB
      refine start_ (n := 18) (S := fun w' => True) (ds := []) (mb 18 0) (by kernel_rfl) rfl rfl trivial (fun hHeld => ?_); refine with_tabW spec_IsTogether.tab5 spec_IsTogether.bits5 (fun HT_ HW_ => ?_)
      generalize wr.drew = w8 at HB hHeld ⊢
      refine pa 0 20 (mb 18 1) HT_ ?_
      refine pa 1 21 (mb 18 3) HT_ ?_
      refine pa 2 22 (mb 18 7) HT_ ?_
      refine pu 3 23 (mb 18 15) HT_ ?_
      refine pu 4 24 (mb 18 31) HT_ ?_
      refine pu 5 25 (mb 18 63) HT_ ?_
      refine pu 6 26 (mb 18 127) HT_ ?_
      refine pu 7 27 (mb 18 255) HT_ ?_
      refine pu 8 28 (mb 18 511) HT_ ?_
      refine pu 9 29 (mb 18 1023) HT_ ?_
      refine pu 10 30 (mb 18 2047) HT_ ?_
      refine pu 11 31 (mb 18 4095) HT_ ?_
      refine pu 12 32 (mb 18 8191) HT_ ?_
      refine pu 13 33 (mb 18 16383) HT_ ?_
      refine pu 14 34 (mb 18 32767) HT_ ?_
      refine pu 15 35 (mb 18 65535) HT_ ?_
      refine pu 16 36 (mb 18 131071) HT_ ?_
      refine pa 17 37 (mb 18 262143) HT_ ?_
      refine eA HT_ ?_
      try go_wp2
      go_meet
      case rel => exact ⟨_, (true), rS, H', ⟨by have := HK1.out; first | omega | exact Nat.le_refl _⟩, ⟨bA⟩⟩
     rw [if_neg c7] at H
     have c7b0 := decide_eq_false c7
     clear c7
     (first | rw [c7b0] | (simp only [i64_w, i32_w]; rw [c7b0]) | skip)
     by_cases c9 : x5_1 > 0
     ·
      rw [if_pos c9] at H
      have c9b0 := decide_eq_true c9
      clear c9
      obtain ⟨ji10, hji10⟩ : ∃ j_ : Int, (wrap64 (x5_1 - 1)) = j_ := ⟨_, rfl⟩
      replace H : (if 0 ≤ (ji10) then (if (ji10) < (l1.length : Int) then (spec_IsTogether.j1 k1 l0 l1 x5_1 t254 (decide ((rd l1 (ji10)) ≥ (rd l1 x5_1)))) else (none)) else (none)) = some r := by first | (rw [hji10] at H; exact H) | (simp only [hji10] at H ⊢; exact H)
      have hji10w : (IntKind.i64.wrap (x5_1 - 1)) = ji10 := (i64_w _).trans hji10
      have c11 : 0 ≤ (ji10) := ifN H
      replace H := ifT H
      have c11b0 := decide_eq_true c11
      clear c11
      have c12 : (ji10) < (l1.length : Int) := ifN H
      replace H := ifT H
      have c12b0 := decide_eq_true c12
      clear c12
      have H' := Aside0.mk H
      clear H
      try go_wp2
      have HBo := HB
      replace HB := db HB
      obtain ⟨p255, q255⟩ : 0 ≤ ((ji10) : Int) ∧ (ji10) < (l1.length : Int) := ⟨dA, dA⟩
      obtain ⟨ad255, e255, hx255_0⟩ := Kd.at_int HR1.out (ji10) p255 q255
      have hw255_0 := hx255_0
      obtain rfl : ad253 = ad255 := (by injection e255)
      replace hx255_0 := hC HB hx255_0
      obtain ⟨p255, q255⟩ := eT p255 q255
      obtain ⟨p256, q256⟩ : 0 ≤ (x5_1 : Int) ∧ x5_1 < (l1.length : Int) := ⟨dA, dA⟩
      obtain ⟨ad256, e256, hx256_0⟩ := Kd.at_int HR1.out x5_1 p256 q256
      have hw256_0 := hx256_0
      obtain rfl : ad253 = ad256 := (by injection e256)
      replace hx256_0 := hC HB hx256_0
      obtain ⟨p256, q256⟩ := eT p256 q256
      refine start_ (n := 18) (S := fun w' => w'.cell? (ad253.add ((ji10)).toNat) = some (.int .i64 (rd l1 (ji10))) ∧ w'.cell? (ad253.add (x5_1).toNat) = some (.int .i64 (rd l1 x5_1))) (ds := []) (mb 18 0) (by kernel_rfl) rfl rfl ⟨(hC HB hw255_0), (hC HB hw256_0)⟩ (fun hHeld => ?_); refine with_tabW spec_IsTogether.tab5 spec_IsTogether.bits5 (fun HT_ HW_ => ?_)
      generalize wr.drew = w13 at HB hx255_0 hx256_0 hHeld ⊢
      refine pa 0 20 (mb 18 1) HT_ ?_
      refine pa 1 21 (mb 18 3) HT_ ?_
      refine pa 2 22 (mb 18 7) HT_ ?_
      refine pa 3 23 (mb 18 15) HT_ ?_
      refine pa 4 24 (mb 18 31) HT_ ?_
      refine pa 5 25 (mb 18 63) HT_ ?_
      refine pa 6 26 (mb 18 127) HT_ ?_
      refine pa 7 27 (mb 18 255) HT_ ?_
      refine pa 8 28 (mb 18 511) HT_ ?_
      refine pa 9 29 (mb 18 1023) HT_ ?_
      refine pa 11 31 (mb 18 3071) HT_ ?_
      refine pa 12 32 (mb 18 7167) HT_ ?_
      refine pa 13 33 (mb 18 15359) HT_ ?_
      refine ta2 10 30 (mb 18 16383) HT_ HW_ hHeld ?_
      refine ta2 14 34 (mb 18 32767) HT_ HW_ hHeld ?_
      refine pa 15 35 (mb 18 65535) HT_ ?_
      refine pa 16 36 (mb 18 131071) HT_ ?_
      refine pa 17 37 (mb 18 262143) HT_ ?_
      refine eA HT_ ?_
      try go_wp2
      go_meet
      case rel => exact ⟨_, (decide ((rd l1 (ji10)) ≥ (rd l1 x5_1))), (by first | rfl | (simp; done) | (simp only [← hji10] <;> (first | rfl | simp)) | (simp [*]; done)), H', ⟨by have := HK1.out; first | omega | exact Nat.le_refl _⟩, ⟨bA⟩⟩
     rw [if_neg c9] at H
     have c9b0 := decide_eq_false c9
     clear c9
     have H' := Aside0.mk H
     clear H
     try go_wp2
     have HBo := HB
     replace HB := db HB
     refine start_ (n := 18) (S := fun w' => True) (ds := []) (mb 18 0) (by kernel_rfl) rfl rfl trivial (fun hHeld => ?_); refine with_tabW spec_IsTogether.tab5 spec_IsTogether.bits5 (fun HT_ HW_ => ?_)
     generalize wr.drew = w14 at HB hHeld ⊢
     refine pa 0 20 (mb 18 1) HT_ ?_
     refine pa 1 21 (mb 18 3) HT_ ?_
     refine pa 2 22 (mb 18 7) HT_ ?_
     refine pa 3 23 (mb 18 15) HT_ ?_
     refine pa 4 24 (mb 18 31) HT_ ?_
     refine pa 5 25 (mb 18 63) HT_ ?_
     refine pu 6 26 (mb 18 127) HT_ ?_
     refine pu 7 27 (mb 18 255) HT_ ?_
     refine pu 8 28 (mb 18 511) HT_ ?_
     refine pu 9 29 (mb 18 1023) HT_ ?_
     refine pu 10 30 (mb 18 2047) HT_ ?_
     refine pu 11 31 (mb 18 4095) HT_ ?_
     refine pu 12 32 (mb 18 8191) HT_ ?_
     refine pu 13 33 (mb 18 16383) HT_ ?_
     refine pu 14 34 (mb 18 32767) HT_ ?_
     refine pu 15 35 (mb 18 65535) HT_ ?_
     refine pa 16 36 (mb 18 131071) HT_ ?_
     refine pa 17 37 (mb 18 262143) HT_ ?_
     refine eA HT_ ?_
     try go_wp2
     go_meet
     case rel => exact ⟨_, (false), rS, H', ⟨by have := HK1.out; first | omega | exact Nat.le_refl _⟩, ⟨bA⟩⟩
    case rest =>
     clear HC6
     obtain ⟨kq, x37_5, rfl, HA, HJ5, HB⟩ := hcut
     cases kq with
     | zero => exact absurd HA.out (by simp [spec_IsTogether.j1])
     | succ kj5 =>
      have H := HA.out
      clear HA
      simp only [spec_IsTogether.j1] at H
      by_cases c15 : x37_5 = true
      ·
       subst c15
       have H1 : (some false) = some r := by rw [if_pos rfl] at H; exact H
       clear H
       have H := H1
       clear H1
       obtain rfl := Option.some.inj H
       go_wp2
       go_ret
       exact ⟨rA, bA⟩
      replace c15 := Bool.eq_false_iff.mpr c15
      subst c15
      have H1 : (spec_IsTogether.l1 kj5 l0 l1 x5_1 t254 0) = some r := by rw [if_neg (show ¬ (false = true) by decide)] at H; exact H
      clear H
      have H := H1
      clear H1
      have H' := Aside0.mk H
      clear H
      go_wp2
      go_loopg [7] kj5 (fun kq v7 w' => ∃ (x7_3 : Int), v7 = .int .i64 x7_3 ∧ Aside0 (spec_IsTogether.l1 kq l0 l1 x5_1 t254 x7_3 = some r) ∧ Aside0 (kq ≤ kj5) ∧ Aside0 (Below w.heap.size w w'))
      case atStart => exact ⟨(0), rS, H', ⟨Nat.le_refl _⟩, ⟨bA⟩⟩
      case round =>
       clear H'
       obtain ⟨x7_3, rfl, HA, HK3, HB⟩ := hrel
       cases gk with
       | zero => exact absurd HA.out (by simp [spec_IsTogether.l1])
       | succ k3 =>
        have H := HA.out
        clear HA
        simp only [spec_IsTogether.l1] at H
        by_cases c16 : x7_3 < x5_1
        ·
         rw [if_pos c16] at H
         have c16b0 := decide_eq_true c16
         clear c16
         have c17 : 0 ≤ t254 := ifN H
         replace H := ifT H
         have c17b0 := decide_eq_true c17
         clear c17
         have c18 : t254 < (l0.length : Int) := ifN H
         replace H := ifT H
         have c18b0 := decide_eq_true c18
         clear c18
         have c19 : 0 ≤ x7_3 := ifN H
         replace H := ifT H
         have c19b0 := decide_eq_true c19
         clear c19
         have c20 : x7_3 < (l1.length : Int) := ifN H
         replace H := ifT H
         have c20b0 := decide_eq_true c20
         clear c20
         obtain ⟨t259, A21, H⟩ := bindE H
         try dsimp only at H
         have c22 : 0 ≤ t259 := ifN H
         replace H := ifT H
         have c22b0 := decide_eq_true c22
         clear c22
         have c23 : t259 < (l0.length : Int) := ifN H
         replace H := ifT H
         have c23b0 := decide_eq_true c23
         clear c23
         obtain ⟨t261, A24, H⟩ := bindE H
         try dsimp only at H
         by_cases c25 : t261 = true
         ·
          subst c25
          have H1 : (some false) = some r := by rw [if_pos rfl] at H; exact H
          clear H
          have H := H1
          clear H1
          obtain rfl := Option.some.inj H
          try go_wp2
          have HBo := HB
          replace HB := db HB
          obtain ⟨p257, q257⟩ : 0 ≤ (t254 : Int) ∧ t254 < (l0.length : Int) := ⟨dA, dA⟩
          obtain ⟨ad257, e257, hx257_0, hx257_1, hx257_2, hx257_3⟩ := at_T50 HR0.out t254 p257 q257
          have hw257_3 := hx257_3
          have hw257_2 := hx257_2
          have hw257_1 := hx257_1
          have hw257_0 := hx257_0
          cases e257
          replace hx257_0 := hC HB hx257_0
          replace hx257_1 := hC HB hx257_1
          replace hx257_2 := hC HB hx257_2
          replace hx257_3 := hC HB hx257_3
          obtain ⟨p257, q257⟩ := eT p257 q257
          obtain ⟨p258, q258⟩ : 0 ≤ (x7_3 : Int) ∧ x7_3 < (l1.length : Int) := ⟨dA, dA⟩
          obtain ⟨ad258, e258, hx258_0⟩ := Kd.at_int HR1.out x7_3 p258 q258
          have hw258_0 := hx258_0
          obtain rfl : ad253 = ad258 := (by injection e258)
          replace hx258_0 := hC HB hx258_0
          obtain ⟨p258, q258⟩ := eT p258 q258
          obtain ⟨p260, q260⟩ : 0 ≤ (t259 : Int) ∧ t259 < (l0.length : Int) := ⟨dA, dA⟩
          obtain ⟨ad260, e260, hx260_0, hx260_1, hx260_2, hx260_3⟩ := at_T50 HR0.out t259 p260 q260
          have hw260_3 := hx260_3
          have hw260_2 := hx260_2
          have hw260_1 := hx260_1
          have hw260_0 := hx260_0
          obtain rfl : ad257 = ad260 := (by injection e260)
          replace hx260_0 := hC HB hx260_0
          replace hx260_1 := hC HB hx260_1
          replace hx260_2 := hC HB hx260_2
          replace hx260_3 := hC HB hx260_3
          obtain ⟨p260, q260⟩ := eT p260 q260
          refine start_ (n := 14) (S := fun w' => w'.cell? (ad257.add ((t254).toNat * 4)) = some (.int .i64 ((rd_T50 l0 t254).f0)) ∧ w'.cell? ⟨(ad257.add ((t254).toNat * 4)).block, (ad257.add ((t254).toNat * 4)).off + 1, none⟩ = some (.int .i64 ((rd_T50 l0 t254).f1)) ∧ w'.cell? ⟨(ad257.add ((t254).toNat * 4)).block, (ad257.add ((t254).toNat * 4)).off + 2, none⟩ = some (.int .i64 ((rd_T50 l0 t254).f2)) ∧ w'.cell? ⟨(ad257.add ((t254).toNat * 4)).block, (ad257.add ((t254).toNat * 4)).off + 3, none⟩ = some (.int .i64 ((rd_T50 l0 t254).f3)) ∧ w'.cell? (ad253.add (x7_3).toNat) = some (.int .i64 (rd l1 x7_3)) ∧ w'.cell? (ad257.add ((t259).toNat * 4)) = some (.int .i64 ((rd_T50 l0 t259).f0)) ∧ w'.cell? ⟨(ad257.add ((t259).toNat * 4)).block, (ad257.add ((t259).toNat * 4)).off + 1, none⟩ = some (.int .i64 ((rd_T50 l0 t259).f1)) ∧ w'.cell? ⟨(ad257.add ((t259).toNat * 4)).block, (ad257.add ((t259).toNat * 4)).off + 2, none⟩ = some (.int .i64 ((rd_T50 l0 t259).f2)) ∧ w'.cell? ⟨(ad257.add ((t259).toNat * 4)).block, (ad257.add ((t259).toNat * 4)).off + 3, none⟩ = some (.int .i64 ((rd_T50 l0 t259).f3))) (ds := []) (mb 14 0) (by kernel_rfl) rfl rfl ⟨(hC HB hw257_0), (hC HB hw257_1), (hC HB hw257_2), (hC HB hw257_3), (hC HB hw258_0), (hC HB hw260_0), (hC HB hw260_1), (hC HB hw260_2), (hC HB hw260_3)⟩ (fun hHeld => ?_); refine with_tabW spec_IsTogether.tab10 spec_IsTogether.bits10 (fun HT_ HW_ => ?_)
          generalize wr.drew = w26 at HB hx257_0 hx257_1 hx257_2 hx257_3 hx258_0 hx260_0 hx260_1 hx260_2 hx260_3 hHeld ⊢
          refine pa 0 43 (mb 14 1) HT_ ?_
          refine pa 1 44 (mb 14 3) HT_ ?_
          refine pa 2 45 (mb 14 7) HT_ ?_
          refine pa 4 47 (mb 14 23) HT_ ?_
          refine pa 5 48 (mb 14 55) HT_ ?_
          refine pa 6 49 (mb 14 119) HT_ ?_
          refine pa 7 50 (mb 14 247) HT_ ?_
          refine pa 8 51 (mb 14 503) HT_ ?_
          refine ta9 3 46 (mb 14 511) HT_ HW_ hHeld ?_
          refine ta9 9 52 (mb 14 1023) HT_ HW_ hHeld ?_
          refine oa 10 53 (mb 14 2047) HT_ (fun K hK => ?_)
          refine gA Try.func144 #[.slice (some ad257) l0.length c0, .int .i64 (rd l1 x7_3)] ?_
          with_reducible refine (spec_FindPath.calls k3 _ _ l0 (rd l1 x7_3) t259 _ ?side1 ?side2 A21.out).mono ?_
          (case side1 => exact cB HR0)
          (case side2 => exact HC0.out)
          rintro e w' ⟨rfl, ⟨nd, rfl⟩⟩
          refine ⟨_, rfl, ?_⟩
          refine hK.out _ _ ⟨(hC HB hw257_0), (hC HB hw257_1), (hC HB hw257_2), (hC HB hw257_3), (hC HB hw258_0), (hC HB hw260_0), (hC HB hw260_1), (hC HB hw260_2), (hC HB hw260_3)⟩ (fun hHeld => ?_)
          clear hK K
          refine nB ?_
          refine pa 11 54 (mb 14 4095) HT_ ?_
          refine ta9 12 55 (mb 14 8191) HT_ HW_ hHeld ?_
          refine oa 13 56 (mb 14 16383) HT_ (fun K hK => ?_)
          refine gA Try.func145 #[.agg #[.int .i64 ((rd_T50 l0 t254).f0), .int .i64 ((rd_T50 l0 t254).f1), .int .i64 ((rd_T50 l0 t254).f2), .int .i64 ((rd_T50 l0 t254).f3)], .agg #[.int .i64 ((rd_T50 l0 t259).f0), .int .i64 ((rd_T50 l0 t259).f1), .int .i64 ((rd_T50 l0 t259).f2), .int .i64 ((rd_T50 l0 t259).f3)]] ?_
          with_reducible refine (spec_Conflict.calls k3 ((rd_T50 l0 t254).f0) ((rd_T50 l0 t254).f1) ((rd_T50 l0 t254).f2) ((rd_T50 l0 t254).f3) ((rd_T50 l0 t259).f0) ((rd_T50 l0 t259).f1) ((rd_T50 l0 t259).f2) ((rd_T50 l0 t259).f3) true _ A24.out).mono ?_
          rintro e w27 ⟨rfl, hb⟩
          refine ⟨_, rfl, ?_⟩
          replace HB := bs HB hb
          (try clear hb)
          (try clear hb2)
          (try clear hk)
          (try clear hi)
          refine hK.out _ _ ⟨(hC HB hw257_0), (hC HB hw257_1), (hC HB hw257_2), (hC HB hw257_3), (hC HB hw258_0), (hC HB hw260_0), (hC HB hw260_1), (hC HB hw260_2), (hC HB hw260_3)⟩ (fun hHeld => ?_)
          clear hK K
          refine nB ?_
          refine eA HT_ ?_
          try go_wp2
          go_ret
          exact ⟨rA, bA⟩
         replace c25 := Bool.eq_false_iff.mpr c25
         subst c25
         have H1 : (spec_IsTogether.l1 k3 l0 l1 x5_1 t254 (wrap64 (x7_3 + 1))) = some r := by rw [if_neg (show ¬ (false = true) by decide)] at H; exact H
         clear H
         have H := H1
         clear H1
         have H' := Aside0.mk H
         clear H
         try go_wp2
         have HBo := HB
         replace HB := db HB
         obtain ⟨p257, q257⟩ : 0 ≤ (t254 : Int) ∧ t254 < (l0.length : Int) := ⟨dA, dA⟩
         obtain ⟨ad257, e257, hx257_0, hx257_1, hx257_2, hx257_3⟩ := at_T50 HR0.out t254 p257 q257
         have hw257_3 := hx257_3
         have hw257_2 := hx257_2
         have hw257_1 := hx257_1
         have hw257_0 := hx257_0
         cases e257
         replace hx257_0 := hC HB hx257_0
         replace hx257_1 := hC HB hx257_1
         replace hx257_2 := hC HB hx257_2
         replace hx257_3 := hC HB hx257_3
         obtain ⟨p257, q257⟩ := eT p257 q257
         obtain ⟨p258, q258⟩ : 0 ≤ (x7_3 : Int) ∧ x7_3 < (l1.length : Int) := ⟨dA, dA⟩
         obtain ⟨ad258, e258, hx258_0⟩ := Kd.at_int HR1.out x7_3 p258 q258
         have hw258_0 := hx258_0
         obtain rfl : ad253 = ad258 := (by injection e258)
         replace hx258_0 := hC HB hx258_0
         obtain ⟨p258, q258⟩ := eT p258 q258
         obtain ⟨p260, q260⟩ : 0 ≤ (t259 : Int) ∧ t259 < (l0.length : Int) := ⟨dA, dA⟩
         obtain ⟨ad260, e260, hx260_0, hx260_1, hx260_2, hx260_3⟩ := at_T50 HR0.out t259 p260 q260
         have hw260_3 := hx260_3
         have hw260_2 := hx260_2
         have hw260_1 := hx260_1
         have hw260_0 := hx260_0
         obtain rfl : ad257 = ad260 := (by injection e260)
         replace hx260_0 := hC HB hx260_0
         replace hx260_1 := hC HB hx260_1
         replace hx260_2 := hC HB hx260_2
         replace hx260_3 := hC HB hx260_3
         obtain ⟨p260, q260⟩ := eT p260 q260
         refine start_ (n := 14) (S := fun w' => w'.cell? (ad257.add ((t254).toNat * 4)) = some (.int .i64 ((rd_T50 l0 t254).f0)) ∧ w'.cell? ⟨(ad257.add ((t254).toNat * 4)).block, (ad257.add ((t254).toNat * 4)).off + 1, none⟩ = some (.int .i64 ((rd_T50 l0 t254).f1)) ∧ w'.cell? ⟨(ad257.add ((t254).toNat * 4)).block, (ad257.add ((t254).toNat * 4)).off + 2, none⟩ = some (.int .i64 ((rd_T50 l0 t254).f2)) ∧ w'.cell? ⟨(ad257.add ((t254).toNat * 4)).block, (ad257.add ((t254).toNat * 4)).off + 3, none⟩ = some (.int .i64 ((rd_T50 l0 t254).f3)) ∧ w'.cell? (ad253.add (x7_3).toNat) = some (.int .i64 (rd l1 x7_3)) ∧ w'.cell? (ad257.add ((t259).toNat * 4)) = some (.int .i64 ((rd_T50 l0 t259).f0)) ∧ w'.cell? ⟨(ad257.add ((t259).toNat * 4)).block, (ad257.add ((t259).toNat * 4)).off + 1, none⟩ = some (.int .i64 ((rd_T50 l0 t259).f1)) ∧ w'.cell? ⟨(ad257.add ((t259).toNat * 4)).block, (ad257.add ((t259).toNat * 4)).off + 2, none⟩ = some (.int .i64 ((rd_T50 l0 t259).f2)) ∧ w'.cell? ⟨(ad257.add ((t259).toNat * 4)).block, (ad257.add ((t259).toNat * 4)).off + 3, none⟩ = some (.int .i64 ((rd_T50 l0 t259).f3))) (ds := []) (mb 14 0) (by kernel_rfl) rfl rfl ⟨(hC HB hw257_0), (hC HB hw257_1), (hC HB hw257_2), (hC HB hw257_3), (hC HB hw258_0), (hC HB hw260_0), (hC HB hw260_1), (hC HB hw260_2), (hC HB hw260_3)⟩ (fun hHeld => ?_); refine with_tabW spec_IsTogether.tab10 spec_IsTogether.bits10 (fun HT_ HW_ => ?_)
         generalize wr.drew = w28 at HB hx257_0 hx257_1 hx257_2 hx257_3 hx258_0 hx260_0 hx260_1 hx260_2 hx260_3 hHeld ⊢
         refine pa 0 43 (mb 14 1) HT_ ?_
         refine pa 1 44 (mb 14 3) HT_ ?_
         refine pa 2 45 (mb 14 7) HT_ ?_
         refine pa 4 47 (mb 14 23) HT_ ?_
         refine pa 5 48 (mb 14 55) HT_ ?_
         refine pa 6 49 (mb 14 119) HT_ ?_
         refine pa 7 50 (mb 14 247) HT_ ?_
         refine pa 8 51 (mb 14 503) HT_ ?_
         refine ta9 3 46 (mb 14 511) HT_ HW_ hHeld ?_
         refine ta9 9 52 (mb 14 1023) HT_ HW_ hHeld ?_
         refine oa 10 53 (mb 14 2047) HT_ (fun K hK => ?_)
         refine gA Try.func144 #[.slice (some ad257) l0.length c0, .int .i64 (rd l1 x7_3)] ?_
         with_reducible refine (spec_FindPath.calls k3 _ _ l0 (rd l1 x7_3) t259 _ ?side1 ?side2 A21.out).mono ?_
         (case side1 => exact cB HR0)
         (case side2 => exact HC0.out)
         rintro e w' ⟨rfl, ⟨nd, rfl⟩⟩
         refine ⟨_, rfl, ?_⟩
         refine hK.out _ _ ⟨(hC HB hw257_0), (hC HB hw257_1), (hC HB hw257_2), (hC HB hw257_3), (hC HB hw258_0), (hC HB hw260_0), (hC HB hw260_1), (hC HB hw260_2), (hC HB hw260_3)⟩ (fun hHeld => ?_)
         clear hK K
         refine nB ?_
         refine pa 11 54 (mb 14 4095) HT_ ?_
         refine ta9 12 55 (mb 14 8191) HT_ HW_ hHeld ?_
         refine oa 13 56 (mb 14 16383) HT_ (fun K hK => ?_)
         refine gA Try.func145 #[.agg #[.int .i64 ((rd_T50 l0 t254).f0), .int .i64 ((rd_T50 l0 t254).f1), .int .i64 ((rd_T50 l0 t254).f2), .int .i64 ((rd_T50 l0 t254).f3)], .agg #[.int .i64 ((rd_T50 l0 t259).f0), .int .i64 ((rd_T50 l0 t259).f1), .int .i64 ((rd_T50 l0 t259).f2), .int .i64 ((rd_T50 l0 t259).f3)]] ?_
         with_reducible refine (spec_Conflict.calls k3 ((rd_T50 l0 t254).f0) ((rd_T50 l0 t254).f1) ((rd_T50 l0 t254).f2) ((rd_T50 l0 t254).f3) ((rd_T50 l0 t259).f0) ((rd_T50 l0 t259).f1) ((rd_T50 l0 t259).f2) ((rd_T50 l0 t259).f3) false _ A24.out).mono ?_
         rintro e w29 ⟨rfl, hb⟩
         refine ⟨_, rfl, ?_⟩
         replace HB := bs HB hb
         (try clear hb)
         (try clear hb2)
         (try clear hk)
         (try clear hi)
         refine hK.out _ _ ⟨(hC HB hw257_0), (hC HB hw257_1), (hC HB hw257_2), (hC HB hw257_3), (hC HB hw258_0), (hC HB hw260_0), (hC HB hw260_1), (hC HB hw260_2), (hC HB hw260_3)⟩ (fun hHeld => ?_)
         clear hK K
         refine nB ?_
         refine eA HT_ ?_
         try go_wp2
         go_roundg k3
         case measure => have := HK1.out; have := HJ5.out; have := HK3.out; omega
         case rel => exact ⟨(wrap64 (x7_3 + 1)), rS, H', ⟨by have := HK1.out; have := HJ5.out; have := HK3.out; omega⟩, ⟨bA⟩⟩
        rw [if_neg c16] at H
        have c16b0 := decide_eq_false c16
        clear c16
        have H' := Aside0.mk H
        clear H
        go_wp2
        go_roundg k3
        case measure => have := HK1.out; have := HJ5.out; have := HK3.out; omega
        case rel => exact ⟨(wrap64 (x5_1 + 1)), rS, H', ⟨by have := HK1.out; have := HJ5.out; have := HK3.out; omega⟩, ⟨bA⟩⟩
   rw [if_neg c3] at H
   have c3b0 := decide_eq_false c3
   clear c3
   obtain ⟨t252, A30, H⟩ := bindE H
   try dsimp only at H
   obtain rfl := Option.some.inj H
   go_wp2_with (first | ((with_reducible refine gate_callee (f := 33) rfl ?_); refine gL (some 58) Try.func33 #[.slice A0 l0.length c0] ?_; (with_reducible refine (spec_ArePaths.calls k1 _ _ l0 t252 _ ?_ ?_ A30.out).mono ?_); exact cB HR0; exact HC0.out; rintro e w31 ⟨rfl, hb⟩; refine ⟨_, rfl, ?_⟩; replace HB := bs HB hb; (try clear hb)))
   go_ret
   exact ⟨rA, bA⟩

/-! ### spec_LeastGreen: function 113 -/
def spec_LeastGreen.l0 : Nat → List (S50) → List Int → Int → Option (Int)
 | 0, _, _, _ => none
 | k + 1, x0, x1, x5 => if x5 < (x1.length : Int) then (if 0 ≤ x5 then ((spec_FindPath.f k x0 (rd x1 x5)).bind fun t263 => (if t263 ≥ 0 then (if 0 ≤ t263 then (if t263 < (x0.length : Int) then (if ((rd_T50 x0 t263).f1) = 2 then (some 7) else (spec_LeastGreen.l0 k x0 x1 (wrap64 (x5 + 1)))) else (none)) else (none)) else (spec_LeastGreen.l0 k x0 x1 (wrap64 (x5 + 1))))) else (none)) else (some 5)
def spec_LeastGreen.f (k : Nat) (l0 : List (S50)) (l1 : List Int) : Option (Int) := spec_LeastGreen.l0 k l0 l1 0
theorem spec_LeastGreen.mono_l : ∀ k, (∀ y0 y1 y2, LeO (spec_LeastGreen.l0 k y0 y1 y2) (spec_LeastGreen.l0 (k + 1) y0 y1 y2))
 | 0 => fun _ _ _ r h => by simp [spec_LeastGreen.l0] at h
 | k + 1 => by
  have ih0 := spec_LeastGreen.mono_l k
  ·
   intro y0 y1 y2
   unfold spec_LeastGreen.l0
   exact mz2 ih0 spec_FindPath.mono
theorem spec_LeastGreen.mono : ∀ a0 a1 k, LeO (spec_LeastGreen.f k a0 a1) (spec_LeastGreen.f (k + 1) a0 a1) := by
 intro a0 a1 k
 have ih0 := spec_LeastGreen.mono_l k
 unfold spec_LeastGreen.f
 exact mz2 ih0 spec_FindPath.mono
set_option maxHeartbeats 8000000 in
set_option maxRecDepth 100000 in
theorem spec_LeastGreen.calls (k : Nat) (A0 : Option Addr) (c0 : Nat) (l0 : List (S50)) (A1 : Option Addr) (c1 : Nat) (l1 : List Int) (r : Int) (w : World) (hr0 : Kd.C k50 w A0 l0.length l0) (hc0 : l0.length ≤ c0) (hr1 : Kd.C (Kd.int .i64) w A1 l1.length l1) (hc1 : l1.length ≤ c1) (h : spec_LeastGreen.f k l0 l1 = some r) :
  Calls Try.prog 113 #[.slice A0 l0.length c0, .slice A1 l1.length c1] w fun e w' => e = .returned (.int .i64 r) ∧ Drawn0 w w' := by
 have HR0 := Aside0.mk hr0
 have HC0 := Aside0.mk hc0
 clear hr0 hc0
 have HR1 := Aside0.mk hr1
 have HC1 := Aside0.mk hc1
 clear hr1 hc1
 have H : (spec_LeastGreen.l0 k l0 l1 0) = some r := h
 clear h
 have H' := Aside0.mk H
 clear H
 go_enter Try.func113, Try.ntmps113
 go_wp2
 go_loopg [5] k (fun kq v5 w' => ∃ (x5_1 : Int), v5 = .int .i64 x5_1 ∧ Aside0 (spec_LeastGreen.l0 kq l0 l1 x5_1 = some r) ∧ Aside0 (kq ≤ k) ∧ Drawn0 w w')
 case atStart => exact ⟨(0), rS, H', ⟨Nat.le_refl _⟩, by repeat (first | exact Drawn0.refl _ | apply Drawn0.step)⟩
 case round =>
  clear H'
  obtain ⟨x5_1, rfl, HA, HK1, ⟨m1, rfl⟩⟩ := hrel
  cases gk with
  | zero => exact absurd HA.out (by simp [spec_LeastGreen.l0])
  | succ k1 =>
   have H := HA.out
   clear HA
   simp only [spec_LeastGreen.l0] at H
   by_cases c3 : x5_1 < (l1.length : Int)
   ·
    rw [if_pos c3] at H
    have c3b0 := decide_eq_true c3
    clear c3
    have c4 : 0 ≤ x5_1 := ifN H
    replace H := ifT H
    have c4b0 := decide_eq_true c4
    clear c4
    obtain ⟨t263, A5, H⟩ := bindE H
    try dsimp only at H
    by_cases c6 : t263 ≥ 0
    ·
     rw [if_pos c6] at H
     have c6b0 := decide_eq_true c6
     clear c6
     have c7 : 0 ≤ t263 := ifN H
     replace H := ifT H
     have c7b0 := decide_eq_true c7
     clear c7
     have c8 : t263 < (l0.length : Int) := ifN H
     replace H := ifT H
     have c8b0 := decide_eq_true c8
     clear c8
     by_cases c9 : ((rd_T50 l0 t263).f1) = 2
     ·
      rw [if_pos c9] at H
      have c9b0 : (((rd_T50 l0 t263).f1) == 2) = true := beq_iff_eq.mpr c9
      have c9b1 : (((rd_T50 l0 t263).f1) != 2) = false := bne_eq_false_iff_eq.mpr c9
      clear c9
      obtain rfl := Option.some.inj H
      obtain ⟨p262, q262⟩ : 0 ≤ (x5_1 : Int) ∧ x5_1 < (l1.length : Int) := ⟨dA, dA⟩
      obtain ⟨ad262, e262, hx262_0⟩ := Kd.at_int HR1.out x5_1 p262 q262
      cases e262
      obtain ⟨p262, q262⟩ := eT p262 q262
      go_wp2_with (first | ((with_reducible refine gate_callee (f := 144) rfl ?_); refine gL (some 18) Try.func144 #[.slice A0 l0.length c0, .int .i64 (rd l1 x5_1)] ?_; (with_reducible refine (spec_FindPath.calls k1 _ _ l0 (rd l1 x5_1) t263 _ ?_ ?_ A5.out).mono ?_); exact cO HR0; exact HC0.out; rintro e w' ⟨rfl, ⟨nd, rfl⟩⟩; refine ⟨_, rfl, ?_⟩; have p264 : 0 ≤ (t263 : Int) := dA; have q264 : t263 < (l0.length : Int) := dA; obtain ⟨ad264, e264, hx264_0, hx264_1, hx264_2, hx264_3⟩ := at_T50 HR0.out t263 p264 q264; cases e264; replace p264 := eq_true p264; replace q264 := eq_true q264))
      go_ret
      exact ⟨rS, dD⟩
     rw [if_neg c9] at H
     have c9b0 : (((rd_T50 l0 t263).f1) == 2) = false := beq_eq_false_iff_ne.mpr c9
     have c9b1 : (((rd_T50 l0 t263).f1) != 2) = true := bne_iff_ne.mpr c9
     have H' := Aside0.mk H
     clear H
     obtain ⟨p262, q262⟩ : 0 ≤ (x5_1 : Int) ∧ x5_1 < (l1.length : Int) := ⟨dA, dA⟩
     obtain ⟨ad262, e262, hx262_0⟩ := Kd.at_int HR1.out x5_1 p262 q262
     cases e262
     obtain ⟨p262, q262⟩ := eT p262 q262
     go_wp2_with (first | ((with_reducible refine gate_callee (f := 144) rfl ?_); refine gL (some 18) Try.func144 #[.slice A0 l0.length c0, .int .i64 (rd l1 x5_1)] ?_; (with_reducible refine (spec_FindPath.calls k1 _ _ l0 (rd l1 x5_1) t263 _ ?_ ?_ A5.out).mono ?_); exact cO HR0; exact HC0.out; rintro e w' ⟨rfl, ⟨nd, rfl⟩⟩; refine ⟨_, rfl, ?_⟩; have p264 : 0 ≤ (t263 : Int) := dA; have q264 : t263 < (l0.length : Int) := dA; obtain ⟨ad264, e264, hx264_0, hx264_1, hx264_2, hx264_3⟩ := at_T50 HR0.out t263 p264 q264; cases e264; replace p264 := eq_true p264; replace q264 := eq_true q264))
     go_roundg k1
     case measure => have := HK1.out; omega
     case rel => exact ⟨(wrap64 (x5_1 + 1)), rS, H', ⟨by have := HK1.out; omega⟩, by repeat (first | exact Drawn0.refl _ | apply Drawn0.step)⟩
    rw [if_neg c6] at H
    have c6b0 := decide_eq_false c6
    clear c6
    have H' := Aside0.mk H
    clear H
    obtain ⟨p262, q262⟩ : 0 ≤ (x5_1 : Int) ∧ x5_1 < (l1.length : Int) := ⟨dA, dA⟩
    obtain ⟨ad262, e262, hx262_0⟩ := Kd.at_int HR1.out x5_1 p262 q262
    cases e262
    obtain ⟨p262, q262⟩ := eT p262 q262
    go_wp2_with (first | ((with_reducible refine gate_callee (f := 144) rfl ?_); refine gL (some 18) Try.func144 #[.slice A0 l0.length c0, .int .i64 (rd l1 x5_1)] ?_; (with_reducible refine (spec_FindPath.calls k1 _ _ l0 (rd l1 x5_1) t263 _ ?_ ?_ A5.out).mono ?_); exact cO HR0; exact HC0.out; rintro e w' ⟨rfl, ⟨nd, rfl⟩⟩; refine ⟨_, rfl, ?_⟩))
    go_roundg k1
    case measure => have := HK1.out; omega
    case rel => exact ⟨(wrap64 (x5_1 + 1)), rS, H', ⟨by have := HK1.out; omega⟩, by repeat (first | exact Drawn0.refl _ | apply Drawn0.step)⟩
   rw [if_neg c3] at H
   have c3b0 := decide_eq_false c3
   clear c3
   obtain rfl := Option.some.inj H
   go_wp2
   go_ret
   exact ⟨rS, dD⟩

/-! ### spec_l6Has: function 133 -/
def spec_l6Has.l0 : Nat → List Int → Int → Int → Option (Bool)
 | 0, _, _, _ => none
 | k + 1, x0, x1, x5 => if x5 < (x0.length : Int) then (if 0 ≤ x5 then (if (rd x0 x5) = x1 then (some true) else (spec_l6Has.l0 k x0 x1 (wrap64 (x5 + 1)))) else (none)) else (some false)
def spec_l6Has.f (k : Nat) (l0 : List Int) (a1 : Int) : Option (Bool) := spec_l6Has.l0 k l0 a1 0
theorem spec_l6Has.mono_l : ∀ k, (∀ y0 y1 y2, LeO (spec_l6Has.l0 k y0 y1 y2) (spec_l6Has.l0 (k + 1) y0 y1 y2))
 | 0 => fun _ _ _ r h => by simp [spec_l6Has.l0] at h
 | k + 1 => by
  have ih0 := spec_l6Has.mono_l k
  ·
   intro y0 y1 y2
   unfold spec_l6Has.l0
   exact mz1 ih0
theorem spec_l6Has.mono : ∀ a0 a1 k, LeO (spec_l6Has.f k a0 a1) (spec_l6Has.f (k + 1) a0 a1) := by
 intro a0 a1 k
 have ih0 := spec_l6Has.mono_l k
 unfold spec_l6Has.f
 exact mz1 ih0
set_option maxHeartbeats 8000000 in
set_option maxRecDepth 100000 in
theorem spec_l6Has.calls (k : Nat) (A0 : Option Addr) (c0 : Nat) (l0 : List Int) (a1 : Int) (r : Bool) (w : World) (hr0 : Kd.C (Kd.int .i64) w A0 l0.length l0) (hc0 : l0.length ≤ c0) (h : spec_l6Has.f k l0 a1 = some r) :
  Calls Try.prog 133 #[.slice A0 l0.length c0, .int .i64 a1] w fun e w' => e = .returned (.bool r) ∧ Drawn0 w w' := by
 have HR0 := Aside0.mk hr0
 have HC0 := Aside0.mk hc0
 clear hr0 hc0
 have H : (spec_l6Has.l0 k l0 a1 0) = some r := h
 clear h
 have H' := Aside0.mk H
 clear H
 go_enter Try.func133, Try.ntmps133
 go_wp2
 go_loopg [5] k (fun kq v5 w' => ∃ (x5_1 : Int), v5 = .int .i64 x5_1 ∧ Aside0 (spec_l6Has.l0 kq l0 a1 x5_1 = some r) ∧ Aside0 (kq ≤ k) ∧ Drawn0 w w')
 case atStart => exact ⟨(0), rS, H', ⟨Nat.le_refl _⟩, by repeat (first | exact Drawn0.refl _ | apply Drawn0.step)⟩
 case round =>
  clear H'
  obtain ⟨x5_1, rfl, HA, HK1, ⟨m1, rfl⟩⟩ := hrel
  cases gk with
  | zero => exact absurd HA.out (by simp [spec_l6Has.l0])
  | succ k1 =>
   have H := HA.out
   clear HA
   simp only [spec_l6Has.l0] at H
   by_cases c3 : x5_1 < (l0.length : Int)
   ·
    rw [if_pos c3] at H
    have c3b0 := decide_eq_true c3
    clear c3
    have c4 : 0 ≤ x5_1 := ifN H
    replace H := ifT H
    have c4b0 := decide_eq_true c4
    clear c4
    by_cases c5 : (rd l0 x5_1) = a1
    ·
     rw [if_pos c5] at H
     have c5b0 : ((rd l0 x5_1) == a1) = true := beq_iff_eq.mpr c5
     have c5b1 : ((rd l0 x5_1) != a1) = false := bne_eq_false_iff_eq.mpr c5
     clear c5
     obtain rfl := Option.some.inj H
     obtain ⟨p265, q265⟩ : 0 ≤ (x5_1 : Int) ∧ x5_1 < (l0.length : Int) := ⟨dA, dA⟩
     obtain ⟨ad265, e265, hx265_0⟩ := Kd.at_int HR0.out x5_1 p265 q265
     cases e265
     obtain ⟨p265, q265⟩ := eT p265 q265
     go_wp2
     go_ret
     exact ⟨rS, dD⟩
    rw [if_neg c5] at H
    have c5b0 : ((rd l0 x5_1) == a1) = false := beq_eq_false_iff_ne.mpr c5
    have c5b1 : ((rd l0 x5_1) != a1) = true := bne_iff_ne.mpr c5
    have H' := Aside0.mk H
    clear H
    obtain ⟨p265, q265⟩ : 0 ≤ (x5_1 : Int) ∧ x5_1 < (l0.length : Int) := ⟨dA, dA⟩
    obtain ⟨ad265, e265, hx265_0⟩ := Kd.at_int HR0.out x5_1 p265 q265
    cases e265
    obtain ⟨p265, q265⟩ := eT p265 q265
    go_wp2
    go_roundg k1
    case measure => have := HK1.out; omega
    case rel => exact ⟨(wrap64 (x5_1 + 1)), rS, H', ⟨by have := HK1.out; omega⟩, by repeat (first | exact Drawn0.refl _ | apply Drawn0.step)⟩
   rw [if_neg c3] at H
   have c3b0 := decide_eq_false c3
   clear c3
   obtain rfl := Option.some.inj H
   go_wp2
   go_ret
   exact ⟨rS, dD⟩

/-! ### spec_Covers: function 114 -/
mutual
def spec_Covers.l0 : Nat → List (S50) → List (List Int) → Int → Option (Bool)
 | 0, _, _, _ => none
 | k + 1, x0, x1, x5 => if x5 < (x1.length : Int) then (if 0 ≤ x5 then ((spec_IsTogether.f k x0 (rd_L4 x1 x5)).bind fun t267 => (if t267 = true then (spec_Covers.l0 k x0 x1 (wrap64 (x5 + 1))) else (some false))) else (none)) else (spec_Covers.l1 k x0 x1 0)
def spec_Covers.l1 : Nat → List (S50) → List (List Int) → Int → Option (Bool)
 | 0, _, _, _ => none
 | k + 1, x0, x1, x6 => if x6 < (x0.length : Int) then (spec_Covers.l2 k x0 x1 x6 false 0) else ((spec_ArePaths.f k x0).bind fun t268 => (some t268))
def spec_Covers.l2 : Nat → List (S50) → List (List Int) → Int → Bool → Int → Option (Bool)
 | 0, _, _, _, _, _ => none
 | k + 1, x0, x1, x6, x7, x8 => if x8 < (x1.length : Int) then (if x7 = true then (spec_Covers.l2 k x0 x1 x6 true (wrap64 (x8 + 1))) else (if 0 ≤ x8 then (if 0 ≤ x6 then (if x6 < (x0.length : Int) then ((spec_l6Has.f k (rd_L4 x1 x8) ((rd_T50 x0 x6).f0)).bind fun t271 => (spec_Covers.l2 k x0 x1 x6 t271 (wrap64 (x8 + 1)))) else (none)) else (none)) else (none))) else (if x7 = true then (spec_Covers.l1 k x0 x1 (wrap64 (x6 + 1))) else (some false))
end
def spec_Covers.f (k : Nat) (l0 : List (S50)) (l1 : List (List Int)) : Option (Bool) := spec_Covers.l0 k l0 l1 0
theorem spec_Covers.mono_l : ∀ k, (∀ y0 y1 y2, LeO (spec_Covers.l0 k y0 y1 y2) (spec_Covers.l0 (k + 1) y0 y1 y2)) ∧ (∀ y0 y1 y2, LeO (spec_Covers.l1 k y0 y1 y2) (spec_Covers.l1 (k + 1) y0 y1 y2)) ∧ (∀ y0 y1 y2 y3 y4, LeO (spec_Covers.l2 k y0 y1 y2 y3 y4) (spec_Covers.l2 (k + 1) y0 y1 y2 y3 y4))
 | 0 => ⟨fun _ _ _ r h => by simp [spec_Covers.l0] at h, fun _ _ _ r h => by simp [spec_Covers.l1] at h, fun _ _ _ _ _ r h => by simp [spec_Covers.l2] at h⟩
 | k + 1 => by
  obtain ⟨ih0, ih1, ih2⟩ := spec_Covers.mono_l k
  refine ⟨?_, ?_, ?_⟩
  ·
   intro y0 y1 y2
   unfold spec_Covers.l0
   exact mz6 ih0 ih1 ih2 spec_ArePaths.mono spec_IsTogether.mono spec_l6Has.mono
  ·
   intro y0 y1 y2
   unfold spec_Covers.l1
   exact mz6 ih0 ih1 ih2 spec_ArePaths.mono spec_IsTogether.mono spec_l6Has.mono
  ·
   intro y0 y1 y2 y3 y4
   unfold spec_Covers.l2
   exact mz6 ih0 ih1 ih2 spec_ArePaths.mono spec_IsTogether.mono spec_l6Has.mono
theorem spec_Covers.mono : ∀ a0 a1 k, LeO (spec_Covers.f k a0 a1) (spec_Covers.f (k + 1) a0 a1) := by
 intro a0 a1 k
 obtain ⟨ih0, ih1, ih2⟩ := spec_Covers.mono_l k
 unfold spec_Covers.f
 exact mz6 ih0 ih1 ih2 spec_ArePaths.mono spec_IsTogether.mono spec_l6Has.mono
set_option maxHeartbeats 8000000 in
set_option maxRecDepth 100000 in
theorem spec_Covers.calls (k : Nat) (A0 : Option Addr) (c0 : Nat) (l0 : List (S50)) (A1 : Option Addr) (c1 : Nat) (l1 : List (List Int)) (r : Bool) (w : World) (hr0 : Kd.C k50 w A0 l0.length l0) (hc0 : l0.length ≤ c0) (hr1 : Kd.C (Kd.slice 3 (Kd.int .i64)) w A1 l1.length l1) (hc1 : l1.length ≤ c1) (h : spec_Covers.f k l0 l1 = some r) :
  Calls Try.prog 114 #[.slice A0 l0.length c0, .slice A1 l1.length c1] w fun e w' => e = .returned (.bool r) ∧ Below w.heap.size w w' := by
 have HR0 := Aside0.mk hr0
 have HC0 := Aside0.mk hc0
 clear hr0 hc0
 have HR1 := Aside0.mk hr1
 have HC1 := Aside0.mk hc1
 clear hr1 hc1
 have HB := Aside0.mk (Below.refl w.heap.size w)
 have H : (spec_Covers.l0 k l0 l1 0) = some r := h
 clear h
 have H' := Aside0.mk H
 clear H
 go_enter Try.func114, Try.ntmps114
 go_wp2
 repeat (go_quiet (fail); try go_wp2)
 go_loopg [5] k (fun kq v5 w' => ∃ (x5_1 : Int), v5 = .int .i64 x5_1 ∧ Aside0 (spec_Covers.l0 kq l0 l1 x5_1 = some r) ∧ Aside0 (kq ≤ k) ∧ Aside0 (Below w.heap.size w w'))
 case atStart => exact ⟨(0), rS, H', ⟨Nat.le_refl _⟩, ⟨bA⟩⟩
 case round =>
  clear H'
  obtain ⟨x5_1, rfl, HA, HK1, HB⟩ := hrel
  cases gk with
  | zero => exact absurd HA.out (by simp [spec_Covers.l0])
  | succ k1 =>
   have H := HA.out
   clear HA
   simp only [spec_Covers.l0] at H
   by_cases c3 : x5_1 < (l1.length : Int)
   ·
    rw [if_pos c3] at H
    have c3b0 := decide_eq_true c3
    clear c3
    have c4 : 0 ≤ x5_1 := ifN H
    replace H := ifT H
    have c4b0 := decide_eq_true c4
    clear c4
    obtain ⟨t267, A5, H⟩ := bindE H
    try dsimp only at H
    by_cases c6 : t267 = true
    ·
     subst c6
     have H1 : (spec_Covers.l0 k1 l0 l1 (wrap64 (x5_1 + 1))) = some r := by rw [if_pos rfl] at H; exact H
     clear H
     have H := H1
     clear H1
     have H' := Aside0.mk H
     clear H
     obtain ⟨p266, q266⟩ : 0 ≤ (x5_1 : Int) ∧ x5_1 < (l1.length : Int) := ⟨dA, dA⟩
     obtain ⟨ad266, A266_0, c266_0, e266, hx266_0, hl266_0, hi266_0⟩ := at_L4 HR1.out x5_1 p266 q266
     cases e266
     replace hx266_0 := hC HB hx266_0
     have HR266_0 := Aside0.mk hi266_0
     have HC266_0 := Aside0.mk hl266_0
     clear hi266_0 hl266_0
     obtain ⟨p266, q266⟩ := eT p266 q266
     go_wp2_with (first | (go_at_call 112; (with_reducible refine (spec_IsTogether.calls k1 _ _ l0 _ _ (rd_L4 l1 x5_1) true _ ?_ ?_ ?_ ?_ A5.out).mono ?_); exact cB HR0; exact HC0.out; exact cB HR266_0; exact HC266_0.out; rintro e w7 ⟨rfl, hb⟩; replace HB := bs HB hb; (try clear hb)))
     repeat (go_quiet (first | (go_at_call 112; (with_reducible refine (spec_IsTogether.calls k1 _ _ l0 _ _ (rd_L4 l1 x5_1) true _ ?_ ?_ ?_ ?_ A5.out).mono ?_); exact cB HR0; exact HC0.out; exact cB HR266_0; exact HC266_0.out; rintro e w7 ⟨rfl, hb⟩; replace HB := bs HB hb; (try clear hb))); try go_wp2_with (first | (go_at_call 112; (with_reducible refine (spec_IsTogether.calls k1 _ _ l0 _ _ (rd_L4 l1 x5_1) true _ ?_ ?_ ?_ ?_ A5.out).mono ?_); exact cB HR0; exact HC0.out; exact cB HR266_0; exact HC266_0.out; rintro e w7 ⟨rfl, hb⟩; replace HB := bs HB hb; (try clear hb))))
     go_roundg k1
     case measure => have := HK1.out; omega
     case rel => exact ⟨(wrap64 (x5_1 + 1)), rS, H', ⟨by have := HK1.out; omega⟩, ⟨bA⟩⟩
    replace c6 := Bool.eq_false_iff.mpr c6
    subst c6
    have H1 : (some false) = some r := by rw [if_neg (show ¬ (false = true) by decide)] at H; exact H
    clear H
    have H := H1
    clear H1
    obtain rfl := Option.some.inj H
    obtain ⟨p266, q266⟩ : 0 ≤ (x5_1 : Int) ∧ x5_1 < (l1.length : Int) := ⟨dA, dA⟩
    obtain ⟨ad266, A266_0, c266_0, e266, hx266_0, hl266_0, hi266_0⟩ := at_L4 HR1.out x5_1 p266 q266
    cases e266
    replace hx266_0 := hC HB hx266_0
    have HR266_0 := Aside0.mk hi266_0
    have HC266_0 := Aside0.mk hl266_0
    clear hi266_0 hl266_0
    obtain ⟨p266, q266⟩ := eT p266 q266
    go_wp2_with (first | (go_at_call 112; (with_reducible refine (spec_IsTogether.calls k1 _ _ l0 _ _ (rd_L4 l1 x5_1) false _ ?_ ?_ ?_ ?_ A5.out).mono ?_); exact cB HR0; exact HC0.out; exact cB HR266_0; exact HC266_0.out; rintro e w8 ⟨rfl, hb⟩; replace HB := bs HB hb; (try clear hb)))
    repeat (go_quiet (first | (go_at_call 112; (with_reducible refine (spec_IsTogether.calls k1 _ _ l0 _ _ (rd_L4 l1 x5_1) false _ ?_ ?_ ?_ ?_ A5.out).mono ?_); exact cB HR0; exact HC0.out; exact cB HR266_0; exact HC266_0.out; rintro e w8 ⟨rfl, hb⟩; replace HB := bs HB hb; (try clear hb))); try go_wp2_with (first | (go_at_call 112; (with_reducible refine (spec_IsTogether.calls k1 _ _ l0 _ _ (rd_L4 l1 x5_1) false _ ?_ ?_ ?_ ?_ A5.out).mono ?_); exact cB HR0; exact HC0.out; exact cB HR266_0; exact HC266_0.out; rintro e w8 ⟨rfl, hb⟩; replace HB := bs HB hb; (try clear hb))))
    go_ret
    exact ⟨rA, bA⟩
   rw [if_neg c3] at H
   have c3b0 := decide_eq_false c3
   clear c3
   have H' := Aside0.mk H
   clear H
   go_wp2
   repeat (go_quiet (fail); try go_wp2)
   go_loopg [6] k1 (fun kq v6 w' => ∃ (x6_2 : Int), v6 = .int .i64 x6_2 ∧ Aside0 (spec_Covers.l1 kq l0 l1 x6_2 = some r) ∧ Aside0 (kq ≤ k1) ∧ Aside0 (Below w.heap.size w w'))
   case atStart => exact ⟨(0), rS, H', ⟨Nat.le_refl _⟩, ⟨bA⟩⟩
   case round =>
    clear H'
    obtain ⟨x6_2, rfl, HA, HK2, HB⟩ := hrel
    cases gk with
    | zero => exact absurd HA.out (by simp [spec_Covers.l1])
    | succ k2 =>
     have H := HA.out
     clear HA
     simp only [spec_Covers.l1] at H
     by_cases c9 : x6_2 < (l0.length : Int)
     ·
      rw [if_pos c9] at H
      have c9b0 := decide_eq_true c9
      clear c9
      have H' := Aside0.mk H
      clear H
      go_wp2
      repeat (go_quiet (fail); try go_wp2)
      go_loopg [7, 8] k2 (fun kq v7 v8 w' => ∃ (x7_3 : Bool) (x8_3 : Int), v7 = .bool x7_3 ∧ v8 = .int .i64 x8_3 ∧ Aside0 (spec_Covers.l2 kq l0 l1 x6_2 x7_3 x8_3 = some r) ∧ Aside0 (kq ≤ k2) ∧ Aside0 (Below w.heap.size w w'))
      case atStart => exact ⟨(false), (0), rS, rS, H', ⟨Nat.le_refl _⟩, ⟨bA⟩⟩
      case round =>
       clear H'
       obtain ⟨x7_3, x8_3, rfl, rfl, HA, HK3, HB⟩ := hrel
       cases gk with
       | zero => exact absurd HA.out (by simp [spec_Covers.l2])
       | succ k3 =>
        have H := HA.out
        clear HA
        simp only [spec_Covers.l2] at H
        by_cases c10 : x8_3 < (l1.length : Int)
        ·
         rw [if_pos c10] at H
         have c10b0 := decide_eq_true c10
         clear c10
         by_cases c11 : x7_3 = true
         ·
          subst c11
          have H1 : (spec_Covers.l2 k3 l0 l1 x6_2 true (wrap64 (x8_3 + 1))) = some r := by rw [if_pos rfl] at H; exact H
          clear H
          have H := H1
          clear H1
          have H' := Aside0.mk H
          clear H
          go_wp2
          repeat (go_quiet (fail); try go_wp2)
          go_roundg k3
          case measure => have := HK1.out; have := HK2.out; have := HK3.out; omega
          case rel => exact ⟨(true), (wrap64 (x8_3 + 1)), rS, rS, H', ⟨by have := HK1.out; have := HK2.out; have := HK3.out; omega⟩, ⟨bA⟩⟩
         replace c11 := Bool.eq_false_iff.mpr c11
         subst c11
         have H1 : (if 0 ≤ x8_3 then (if 0 ≤ x6_2 then (if x6_2 < (l0.length : Int) then ((spec_l6Has.f k3 (rd_L4 l1 x8_3) ((rd_T50 l0 x6_2).f0)).bind fun t271 => (spec_Covers.l2 k3 l0 l1 x6_2 t271 (wrap64 (x8_3 + 1)))) else (none)) else (none)) else (none)) = some r := by rw [if_neg (show ¬ (false = true) by decide)] at H; exact H
         clear H
         have H := H1
         clear H1
         have c12 : 0 ≤ x8_3 := ifN H
         replace H := ifT H
         have c12b0 := decide_eq_true c12
         clear c12
         have c13 : 0 ≤ x6_2 := ifN H
         replace H := ifT H
         have c13b0 := decide_eq_true c13
         clear c13
         have c14 : x6_2 < (l0.length : Int) := ifN H
         replace H := ifT H
         have c14b0 := decide_eq_true c14
         clear c14
         obtain ⟨t271, A15, H⟩ := bindE H
         try dsimp only at H
         have H' := Aside0.mk H
         clear H
         obtain ⟨p269, q269⟩ : 0 ≤ (x8_3 : Int) ∧ x8_3 < (l1.length : Int) := ⟨dA, dA⟩
         obtain ⟨ad269, A269_0, c269_0, e269, hx269_0, hl269_0, hi269_0⟩ := at_L4 HR1.out x8_3 p269 q269
         cases e269
         replace hx269_0 := hC HB hx269_0
         have HR269_0 := Aside0.mk hi269_0
         have HC269_0 := Aside0.mk hl269_0
         clear hi269_0 hl269_0
         obtain ⟨p269, q269⟩ := eT p269 q269
         obtain ⟨p270, q270⟩ : 0 ≤ (x6_2 : Int) ∧ x6_2 < (l0.length : Int) := ⟨dA, dA⟩
         obtain ⟨ad270, e270, hx270_0, hx270_1, hx270_2, hx270_3⟩ := at_T50 (Kd.C_below HR0.out HB.out) x6_2 p270 q270
         cases e270
         obtain ⟨p270, q270⟩ := eT p270 q270
         go_wp2_with (first | (go_at_call 133; (with_reducible refine (spec_l6Has.calls k3 _ _ (rd_L4 l1 x8_3) ((rd_T50 l0 x6_2).f0) t271 _ ?_ ?_ A15.out).mono ?_); exact cB HR269_0; exact HC269_0.out; rintro e w' ⟨rfl, ⟨nd, rfl⟩⟩; (try first | exact ⟨rfl, _, World.drewN_drewN _ _ _⟩ | exact ⟨rfl, _, Eq.trans (World.drewN_drewN _ _ _) (congrArg (World.drewN _) (Nat.add_assoc _ _ _))⟩)))
         repeat (go_quiet (first | (go_at_call 133; (with_reducible refine (spec_l6Has.calls k3 _ _ (rd_L4 l1 x8_3) ((rd_T50 l0 x6_2).f0) t271 _ ?_ ?_ A15.out).mono ?_); exact cB HR269_0; exact HC269_0.out; rintro e w' ⟨rfl, ⟨nd, rfl⟩⟩; (try first | exact ⟨rfl, _, World.drewN_drewN _ _ _⟩ | exact ⟨rfl, _, Eq.trans (World.drewN_drewN _ _ _) (congrArg (World.drewN _) (Nat.add_assoc _ _ _))⟩))); try go_wp2_with (first | (go_at_call 133; (with_reducible refine (spec_l6Has.calls k3 _ _ (rd_L4 l1 x8_3) ((rd_T50 l0 x6_2).f0) t271 _ ?_ ?_ A15.out).mono ?_); exact cB HR269_0; exact HC269_0.out; rintro e w' ⟨rfl, ⟨nd, rfl⟩⟩; (try first | exact ⟨rfl, _, World.drewN_drewN _ _ _⟩ | exact ⟨rfl, _, Eq.trans (World.drewN_drewN _ _ _) (congrArg (World.drewN _) (Nat.add_assoc _ _ _))⟩))))
         go_roundg k3
         case measure => have := HK1.out; have := HK2.out; have := HK3.out; omega
         case rel => exact ⟨(t271), (wrap64 (x8_3 + 1)), rS, rS, H', ⟨by have := HK1.out; have := HK2.out; have := HK3.out; omega⟩, ⟨bA⟩⟩
        rw [if_neg c10] at H
        have c10b0 := decide_eq_false c10
        clear c10
        by_cases c16 : x7_3 = true
        ·
         subst c16
         have H1 : (spec_Covers.l1 k3 l0 l1 (wrap64 (x6_2 + 1))) = some r := by rw [if_pos rfl] at H; exact H
         clear H
         have H := H1
         clear H1
         have H' := Aside0.mk H
         clear H
         go_wp2
         repeat (go_quiet (fail); try go_wp2)
         go_roundg k3
         case measure => have := HK1.out; have := HK2.out; have := HK3.out; omega
         case rel => exact ⟨(wrap64 (x6_2 + 1)), rS, H', ⟨by have := HK1.out; have := HK2.out; have := HK3.out; omega⟩, ⟨bA⟩⟩
        replace c16 := Bool.eq_false_iff.mpr c16
        subst c16
        have H1 : (some false) = some r := by rw [if_neg (show ¬ (false = true) by decide)] at H; exact H
        clear H
        have H := H1
        clear H1
        obtain rfl := Option.some.inj H
        go_wp2
        repeat (go_quiet (fail); try go_wp2)
        go_ret
        exact ⟨rA, bA⟩
     rw [if_neg c9] at H
     have c9b0 := decide_eq_false c9
     clear c9
     obtain ⟨t268, A17, H⟩ := bindE H
     try dsimp only at H
     obtain rfl := Option.some.inj H
     go_wp2_with (first | (go_at_call 33; (with_reducible refine (spec_ArePaths.calls k2 _ _ l0 t268 _ ?_ ?_ A17.out).mono ?_); exact cB HR0; exact HC0.out; rintro e w18 ⟨rfl, hb⟩; replace HB := bs HB hb; (try clear hb)))
     repeat (go_quiet (first | (go_at_call 33; (with_reducible refine (spec_ArePaths.calls k2 _ _ l0 t268 _ ?_ ?_ A17.out).mono ?_); exact cB HR0; exact HC0.out; rintro e w18 ⟨rfl, hb⟩; replace HB := bs HB hb; (try clear hb))); try go_wp2_with (first | (go_at_call 33; (with_reducible refine (spec_ArePaths.calls k2 _ _ l0 t268 _ ?_ ?_ A17.out).mono ?_); exact cB HR0; exact HC0.out; rintro e w18 ⟨rfl, hb⟩; replace HB := bs HB hb; (try clear hb))))
     go_ret
     exact ⟨rA, bA⟩

/-! ### spec_l8Stages: function 115 -/
def spec_l8Stages.l0 : Nat → List (S85) → List (List Int) → Int → Option ((List (List Int)))
 | 0, _, _, _ => none
 | k + 1, x0, x3, x4 => if x4 < (x0.length : Int) then (if 0 ≤ x4 then (if x3.length < 5864062014805 then (spec_l8Stages.l0 k x0 (x3 ++ [(rd_T85 x0 x4).f0]) (wrap64 (x4 + 1))) else (none)) else (none)) else (some x3)
def spec_l8Stages.f (k : Nat) (l0 : List (S85)) : Option ((List (List Int))) := spec_l8Stages.l0 k l0 (([] : List (List Int))) 0
theorem spec_l8Stages.mono_l : ∀ k, (∀ y0 y1 y2, LeO (spec_l8Stages.l0 k y0 y1 y2) (spec_l8Stages.l0 (k + 1) y0 y1 y2))
 | 0 => fun _ _ _ r h => by simp [spec_l8Stages.l0] at h
 | k + 1 => by
  have ih0 := spec_l8Stages.mono_l k
  ·
   intro y0 y1 y2
   unfold spec_l8Stages.l0
   exact mz1 ih0
theorem spec_l8Stages.mono : ∀ a0 k, LeO (spec_l8Stages.f k a0) (spec_l8Stages.f (k + 1) a0) := by
 intro a0 k
 have ih0 := spec_l8Stages.mono_l k
 unfold spec_l8Stages.f
 exact mz1 ih0
set_option maxHeartbeats 8000000 in
set_option maxRecDepth 100000 in
theorem spec_l8Stages.calls (k : Nat) (P0_ : Nat → Prop) (A0 : Option Addr) (c0 : Nat) (l0 : List (S85)) (r : List (List Int)) (w : World) (hs0 : Kd.V k85 85 w w.heap.size (fun k_ => P0_ k_) (.slice A0 l0.length c0) l0) (h : spec_l8Stages.f k l0 = some r) :
  Calls Try.prog 115 #[.slice A0 l0.length c0] w fun e w' => ∃ v0_ : Value, e = .returned (v0_) ∧ Kd.N (Kd.slice 3 (Kd.int .i64)) 35 w' w.heap.size (fun k_ => (P0_ k_ ∨ w.heap.size ≤ k_)) v0_ r ∧ Below w.heap.size w w' := by
 have HO0 := Aside0.mk (show Kd.V k85 85 w w.heap.size (fun k_ => (P0_ k_ ∨ w.heap.size ≤ k_)) (.slice A0 l0.length c0) l0 from Kd.V_mono hs0 (fun k_ hk => .inl hk))
 have HB := Aside0.mk (Below.refl w.heap.size w)
 have H : (spec_l8Stages.l0 k l0 (([] : List (List Int))) 0) = some r := h
 clear h
 obtain ⟨y272, hy272⟩ : ∃ y_ : List (List Int), y_ = (([] : List (List Int))) := ⟨_, rfl⟩
 replace H : (spec_l8Stages.l0 k l0 y272 0) = some r := rH H hy272
 have Ny272 := Aside0.mk hy272
 clear hy272
 have H' := Aside0.mk H
 clear H
 go_enter Try.func115, Try.ntmps115
 go_wp2_with (first | ((with_reducible refine gate_dst (N := 5) rfl ?_); refine Kd.N_lit (Kd.slice 3 (Kd.int .i64)) _ 35 ?hg (N' := 5) ?hd (xs := ([] : List (List Int))) (inner := []) (ok := (fun k_ => (P0_ k_ ∨ w.heap.size ≤ k_))) (okp := (fun k_ => (P0_ k_ ∨ w.heap.size ≤ k_))) ?hr ?hp (fun _ hk => hk) ((show ∀ k_, w.heap.size ≤ k_ → (fun k_ => (P0_ k_ ∨ w.heap.size ≤ k_)) k_ from fun k_ hk => (.inr (Nat.le_trans (below_size bA) hk))) _ (Nat.le_refl _)) (Below.refl _ _) (Nat.le_refl _) (by simp) ?_; (case hd => rfl); (case hg => rfl); (case hr => first | (go_simp; done) | (go_simp; rfl)); (case hp => exact (Reps.none _ _)); intro v273 w2 ho3 hb hg_ hnew_; clear hg_ hnew_; (first | rw [← Ny272.out] at ho3 | (simp only [Int.reduceToNat] at ho3; rw [← Ny272.out] at ho3)); have n0_ := Aside0.mk (Kd.V_elder' (by (with_reducible repeat (first | apply Kd.V_alloc | apply Kd.V_drewN | apply Kd.V_drew)); exact HO0.out) (by first | exact Kd.N_base ho3 | exact Kd.N_base (Kd.S_N ho3)) hb); have n1_ := Aside0.mk (Kd.N_lower ho3 (below_size bA)); have n2_ := bs HB hb; clear HO0; clear HB; have HO0 := n0_; have HO274 := n1_; have HB := n2_; clear n0_ n1_ n2_; clear hb ho3))
 go_loopg [3, 4] k (fun kq v3 v4 w' => ∃ (x3_1 : List (List Int)) (x4_1 : Int), v4 = .int .i64 x4_1 ∧ Aside0 (spec_l8Stages.l0 kq l0 x3_1 x4_1 = some r) ∧ Aside0 (kq ≤ k) ∧ Aside0 (Kd.V k85 85 w' w.heap.size (fun k_ => (P0_ k_ ∨ w.heap.size ≤ k_) ∧ some k_ ≠ (v3 : Value).ownBlock) (.slice A0 l0.length c0) l0) ∧ Aside0 (Kd.N (Kd.slice 3 (Kd.int .i64)) 35 w' w.heap.size (fun k_ => (P0_ k_ ∨ w.heap.size ≤ k_)) v3 x3_1) ∧ Aside0 (Below w.heap.size w w'))
 case atStart => exact ⟨(y272), (0), rS, H', ⟨Nat.le_refl _⟩, ⟨by (with_reducible repeat (first | apply Kd.V_alloc | apply Kd.V_drewN | apply Kd.V_drew)); exact HO0.out⟩, ⟨by (with_reducible repeat (first | apply Kd.N_alloc | apply Kd.N_drewN | apply Kd.N_drew)); exact HO274.out⟩, ⟨bA⟩⟩
 case round =>
  clear H'
  obtain ⟨x3_1, x4_1, rfl, HA, HK1, HO_0, HO_3, HB⟩ := hrel
  cases gk with
  | zero => exact absurd HA.out (by simp [spec_l8Stages.l0])
  | succ k1 =>
   have H := HA.out
   clear HA
   simp only [spec_l8Stages.l0] at H
   by_cases c4 : x4_1 < (l0.length : Int)
   ·
    rw [if_pos c4] at H
    have c4b0 := decide_eq_true c4
    clear c4
    have c5 : 0 ≤ x4_1 := ifN H
    replace H := ifT H
    have c5b0 := decide_eq_true c5
    clear c5
    have c6 : x3_1.length < 5864062014805 := ifN H
    replace H := ifT H
    have LMc6 := Aside0.mk c6
    clear c6
    obtain ⟨y276, hy276⟩ : ∃ y_ : List (List Int), y_ = (x3_1 ++ [(rd_T85 l0 x4_1).f0]) := ⟨_, rfl⟩
    replace H : (spec_l8Stages.l0 k1 l0 y276 (wrap64 (x4_1 + 1))) = some r := rH H hy276
    have Ny276 := Aside0.mk hy276
    clear hy276
    have H' := Aside0.mk H
    clear H
    obtain ⟨p275, q275⟩ : 0 ≤ (x4_1 : Int) ∧ x4_1 < (l0.length : Int) := ⟨dA, dA⟩
    obtain ⟨ad275, A275_0, c275_0, e275, hx275_0, hx275_1, hl275_0, hi275_0⟩ := at_T85 (Kd.V_reads' HO_0.out).2.2 x4_1 p275 q275
    cases e275
    obtain ⟨ce275, hce275, hMe275, hcc275⟩ := Kd.V_get HO_0.out z85 x4_1 p275 (by first | exact q275 | exact dA | (have e_ := (Kd.V_reads' HO_0.out).1; omega))
    obtain ⟨ua275_0, uc275_0, rfl, ul275_0, ge275_0⟩ := k85_openF hMe275
    have hv275_0 := hcc275 0 _ rfl
    rw [Nat.add_zero] at hv275_0
    replace hv275_0 := Option.some.inj (hv275_0.symm.trans hx275_0)
    injection hv275_0 with hva_ hvn_ hvc_
    rw [hva_] at ge275_0
    rw [hvc_] at ul275_0
    have HL275_0 := Aside0.mk (show Kd.V (Kd.int .i64) 3 _ w.heap.size _ _ ((rd_T85 l0 x4_1).f0) from Kd.V_mk ul275_0 ge275_0)
    clear hva_ hvn_ hvc_ ge275_0 ul275_0
    clear hcc275 hce275
    have HR275_0 := Aside0.mk hi275_0
    have HC275_0 := Aside0.mk hl275_0
    clear hi275_0 hl275_0
    obtain ⟨p275, q275⟩ := eT p275 q275
    go_wp2_with (first | ((with_reducible refine gate_builtin (b := .append) (xs := #[.tmp 12, .tmp 18]) rfl ?_); at_builtin; refine Kd.N_append (Kd.slice 3 (Kd.int .i64)) (w0 := w) w.heap.size rfl (.tmp 12) (.tmp 18) 103 35 (.slice none 0 0) 24 rfl Try.underlying103 info35 rfl (by decide) (by omega) u3 x3_1 ((rd_T85 l0 x4_1).f0) [.slice A275_0 ((rd_T85 l0 x4_1).f0).length c275_0] (fun k_ => (P0_ k_ ∨ w.heap.size ≤ k_)) (fun k_ => ((fun k_ => (P0_ k_ ∨ w.heap.size ≤ k_))) k_ ∧ some k_ ≠ (u3 : Value).ownBlock) rfl rfl ?aP (fun _ hk => hk) ?aF ?aO ?aB ?aS ?aL ?_; (case aP => exact (Kd.FK_slice_mk (Kd.V_reads' (Kd.V_mono (ok' := (fun k_ => ((fun k_ => (P0_ k_ ∨ w.heap.size ≤ k_))) k_ ∧ some k_ ≠ (u3 : Value).ownBlock)) (HL275_0.out) (fun k_ hk => ⟨hk.1, hk.2⟩))).2.1 (Kd.V_F (Kd.V_mono (ok' := (fun k_ => ((fun k_ => (P0_ k_ ∨ w.heap.size ≤ k_))) k_ ∧ some k_ ≠ (u3 : Value).ownBlock)) (HL275_0.out) (fun k_ hk => ⟨hk.1, hk.2⟩))))); (case aB => exact bA); (case aF => exact (fun k_ hk => (.inr (Nat.le_trans (below_size bA) hk)))); (case aO => exact (by (with_reducible repeat (first | apply Kd.N_alloc | apply Kd.N_drewN | apply Kd.N_drew)); exact HO_3.out)); (case aS => exact (below_size bA)); (case aL => have := LMc6.out; omega); intro v277 w7 ho hb hg hat; rw [← Ny276.out] at ho; have n0_ := Aside0.mk (Kd.V_afterv (ok := (fun k_ => (P0_ k_ ∨ w.heap.size ≤ k_))) (by (with_reducible repeat (first | apply Kd.V_alloc | apply Kd.V_drewN | apply Kd.V_drew)); exact HO_0.out) hg hat); have n1_ := Aside0.mk (Kd.V_afterv (ok := (fun k_ => (P0_ k_ ∨ w.heap.size ≤ k_))) (by (with_reducible repeat (first | apply Kd.V_alloc | apply Kd.V_drewN | apply Kd.V_drew)); exact HL275_0.out) hg hat); have n2_ := Aside0.mk (hb); have n3_ := Aside0.mk (ho); clear HO_0; clear HL275_0; clear HB; clear HO_3; have HO_0 := n0_; have HL275_0 := n1_; have HB := n2_; have HO278 := n3_; clear n0_ n1_ n2_ n3_; clear ho hb hg hat))
    go_roundg k1
    case measure => have := HK1.out; omega
    case rel => exact ⟨(y276), (wrap64 (x4_1 + 1)), rS, H', ⟨by have := HK1.out; omega⟩, ⟨by (with_reducible repeat (first | apply Kd.V_alloc | apply Kd.V_drewN | apply Kd.V_drew)); exact HO_0.out⟩, ⟨by (with_reducible repeat (first | apply Kd.N_alloc | apply Kd.N_drewN | apply Kd.N_drew)); exact HO278.out⟩, ⟨bA⟩⟩
   rw [if_neg c4] at H
   have c4b0 := decide_eq_false c4
   clear c4
   obtain rfl := Option.some.inj H
   go_wp2
   go_ret
   exact ⟨_, rA, by (with_reducible repeat (first | apply Kd.N_alloc | apply Kd.N_drewN | apply Kd.N_drew)); exact HO_3.out, bA⟩

/-! ### spec_IsPlan: function 61 -/
def spec_IsPlan.l0 : Nat → List (S50) → List (S85) → Int → Option (Bool)
 | 0, _, _, _ => none
 | k + 1, x0, x1, x5 => if x5 < (x1.length : Int) then (if 0 ≤ x5 then (if (((rd_T85 x1 x5).f0).length : Int) = 0 then (some false) else ((spec_IsTogether.f k x0 ((rd_T85 x1 x5).f0)).bind fun t286 => (if t286 = true then ((spec_LeastGreen.f k x0 ((rd_T85 x1 x5).f0)).bind fun t289 => ((spec_l1In.f ((rd_T85 x1 x5).f1) t289 60).bind fun t290 => (if t290 = true then (spec_IsPlan.l0 k x0 x1 (wrap64 (x5 + 1))) else (some false)))) else (some false)))) else (none)) else ((spec_l8Stages.f k x1).bind fun t280 => ((spec_Covers.f k x0 t280).bind fun t283 => (some t283)))
def spec_IsPlan.f (k : Nat) (l0 : List (S50)) (l1 : List (S85)) : Option (Bool) := (spec_l1In.f (l1.length : Int) 1 6).bind fun t279 => (if t279 = true then (spec_IsPlan.l0 k l0 l1 0) else (some false))
theorem spec_IsPlan.mono_l : ∀ k, (∀ y0 y1 y2, LeO (spec_IsPlan.l0 k y0 y1 y2) (spec_IsPlan.l0 (k + 1) y0 y1 y2))
 | 0 => fun _ _ _ r h => by simp [spec_IsPlan.l0] at h
 | k + 1 => by
  have ih0 := spec_IsPlan.mono_l k
  ·
   intro y0 y1 y2
   unfold spec_IsPlan.l0
   exact mz5 ih0 spec_Covers.mono spec_IsTogether.mono spec_LeastGreen.mono spec_l8Stages.mono
theorem spec_IsPlan.mono : ∀ a0 a1 k, LeO (spec_IsPlan.f k a0 a1) (spec_IsPlan.f (k + 1) a0 a1) := by
 intro a0 a1 k
 have ih0 := spec_IsPlan.mono_l k
 unfold spec_IsPlan.f
 exact mz5 ih0 spec_Covers.mono spec_IsTogether.mono spec_LeastGreen.mono spec_l8Stages.mono
def spec_IsPlan.T6 : Bool × List (List Nat × List Nat) := (true, [([], []), ([], []), ([0, 1], [0, 1]), ([2], [2]), ([3], [3]), ([4], [4]), ([5], [5]), ([6], [6]), ([7], [7]), ([7], [7]), ([7], [7]), ([9, 10, 7], [7, 9, 10]), ([11, 7], [7, 11]), ([12, 7], [7, 12]), ([8, 13, 7, 7], [7, 8, 13]), ([14, 7], [7, 14]), ([7, 15], [7, 15]), ([16, 14], [16]), ([17], [17]), ([17], [17]), ([18, 19, 17], [17, 18, 19]), ([20, 17], [17, 20]), ([21, 17], [17, 21]), ([17], [17]), ([17], [17]), ([17], [17]), ([24, 25, 17], [17, 24, 25]), ([26, 17], [17, 26]), ([27, 17], [17, 27]), ([23, 28, 17, 17], [17, 23, 28]), ([22, 29, 29, 17], [17, 22, 29]), ([30, 17], [17, 30]), ([17, 31], [17, 31])])
def spec_IsPlan.B6 : List Nat := [0, 0, 3, 7, 15, 31, 63, 127, 255, 255, 255, 1791, 3839, 7935, 16383, 32767, 65535, 131071, 262143, 262143, 1048575, 2097151, 4194303, 262143, 262143, 262143, 50593791, 117702655, 251920383, 528744447, 1073741823, 2147483647, 4294967295]
theorem spec_IsPlan.tab6 : rtab .any (opsOf Try.f61 6) = spec_IsPlan.T6 := by kernel_rfl
theorem spec_IsPlan.bits6 : waitsOk spec_IsPlan.T6.2 spec_IsPlan.B6 = true := by kernel_rfl
set_option maxHeartbeats 8000000 in
set_option maxRecDepth 100000 in
theorem spec_IsPlan.calls (k : Nat) (A0 : Option Addr) (c0 : Nat) (l0 : List (S50)) (A1 : Option Addr) (c1 : Nat) (l1 : List (S85)) (r : Bool) (w : World) (hr0 : Kd.C k50 w A0 l0.length l0) (hc0 : l0.length ≤ c0) (hr1 : Kd.C k85 w A1 l1.length l1) (hc1 : l1.length ≤ c1) (h : spec_IsPlan.f k l0 l1 = some r) :
  Calls Try.prog 61 #[.slice A0 l0.length c0, .slice A1 l1.length c1] w fun e w' => e = .returned (.bool r) ∧ Below w.heap.size w w' := by
 have HR0 := Aside0.mk hr0
 have HC0 := Aside0.mk hc0
 clear hr0 hc0
 have HR1 := Aside0.mk hr1
 have HC1 := Aside0.mk hc1
 clear hr1 hc1
 have HB := Aside0.mk (Below.refl w.heap.size w)
 have H : ((spec_l1In.f (l1.length : Int) 1 6).bind fun t279 => (if t279 = true then (spec_IsPlan.l0 k l0 l1 0) else (some false))) = some r := h
 clear h
 obtain ⟨t279, A3, H⟩ := bindE H
 try dsimp only at H
 by_cases c4 : t279 = true
 ·
  subst c4
  have H1 : (spec_IsPlan.l0 k l0 l1 0) = some r := by rw [if_pos rfl] at H; exact H
  clear H
  have H := H1
  clear H1
  have H' := Aside0.mk H
  clear H
  go_enter Try.func61, Try.ntmps61
  go_wp2_with (first | ((with_reducible refine gate_callee (f := 111) rfl ?_); refine gL (some 8) Try.func111 #[.int .i64 (l1.length : Int), .int .i64 1, .int .i64 6] ?_; (with_reducible refine (spec_l1In.calls (l1.length : Int) 1 6 true _ A3.out).mono ?_); rintro e w' ⟨rfl, ⟨nd, rfl⟩⟩; refine ⟨_, rfl, ?_⟩))
  go_loopg [5] k (fun kq v5 w' => ∃ (x5_1 : Int), v5 = .int .i64 x5_1 ∧ Aside0 (spec_IsPlan.l0 kq l0 l1 x5_1 = some r) ∧ Aside0 (kq ≤ k) ∧ Aside0 (Below w.heap.size w w'))
  case atStart => exact ⟨(0), rS, H', ⟨Nat.le_refl _⟩, ⟨bA⟩⟩
  case round =>
   clear H'
   obtain ⟨x5_1, rfl, HA, HK1, HB⟩ := hrel
   cases gk with
   | zero => exact absurd HA.out (by simp [spec_IsPlan.l0])
   | succ k1 =>
    have H := HA.out
    clear HA
    simp only [spec_IsPlan.l0] at H
    by_cases c5 : x5_1 < (l1.length : Int)
    ·
     rw [if_pos c5] at H
     have c5b0 := decide_eq_true c5
     clear c5
     have c6 : 0 ≤ x5_1 := ifN H
     replace H := ifT H
     have c6b0 := decide_eq_true c6
     clear c6
     by_cases c7 : (((rd_T85 l1 x5_1).f0).length : Int) = 0
     ·
      rw [if_pos c7] at H
      have c7b0 : ((((rd_T85 l1 x5_1).f0).length : Int) == 0) = true := beq_iff_eq.mpr c7
      have c7b1 : ((((rd_T85 l1 x5_1).f0).length : Int) != 0) = false := bne_eq_false_iff_eq.mpr c7
      clear c7
      obtain rfl := Option.some.inj H
      try go_wp2
      have HBo := HB
      replace HB := db HB
      obtain ⟨p284, q284⟩ : 0 ≤ (x5_1 : Int) ∧ x5_1 < (l1.length : Int) := ⟨dA, dA⟩
      obtain ⟨ad284, A284_0, c284_0, e284, hx284_0, hx284_1, hl284_0, hi284_0⟩ := at_T85 HR1.out x5_1 p284 q284
      have hw284_1 := hx284_1
      have hw284_0 := hx284_0
      cases e284
      replace hx284_0 := hC HB hx284_0
      replace hx284_1 := hC HB hx284_1
      have HR284_0 := Aside0.mk hi284_0
      have HC284_0 := Aside0.mk hl284_0
      clear hi284_0 hl284_0
      obtain ⟨p284, q284⟩ := eT p284 q284
      refine start_ (n := 33) (S := fun w' => w'.cell? (ad284.add ((x5_1).toNat * 2)) = some (.slice A284_0 ((rd_T85 l1 x5_1).f0).length c284_0) ∧ w'.cell? ⟨(ad284.add ((x5_1).toNat * 2)).block, (ad284.add ((x5_1).toNat * 2)).off + 1, none⟩ = some (.int .i64 ((rd_T85 l1 x5_1).f1))) (ds := []) (mb 33 0) (by kernel_rfl) rfl rfl ⟨(hC HB hw284_0), (hC HB hw284_1)⟩ (fun hHeld => ?_); refine with_tabW spec_IsPlan.tab6 spec_IsPlan.bits6 (fun HT_ HW_ => ?_)
      generalize wr.drew = w8 at HB HR284_0 hx284_0 hx284_1 hHeld ⊢
      refine pa 0 16 (mb 33 1) HT_ ?_
      refine pa 1 17 (mb 33 3) HT_ ?_
      refine pa 2 18 (mb 33 7) HT_ ?_
      refine pa 3 19 (mb 33 15) HT_ ?_
      refine ta2 4 20 (mb 33 31) HT_ HW_ hHeld ?_
      refine pa 5 21 (mb 33 63) HT_ ?_
      refine pa 6 22 (mb 33 127) HT_ ?_
      refine pa 7 23 (mb 33 255) HT_ ?_
      refine pu 8 24 (mb 33 511) HT_ ?_
      refine pu 9 25 (mb 33 1023) HT_ ?_
      refine pu 10 26 (mb 33 2047) HT_ ?_
      refine pu 11 27 (mb 33 4095) HT_ ?_
      refine pu 12 28 (mb 33 8191) HT_ ?_
      refine pu 13 29 (mb 33 16383) HT_ ?_
      refine pu 14 30 (mb 33 32767) HT_ ?_
      refine pu 15 31 (mb 33 65535) HT_ ?_
      refine pa 16 32 (mb 33 131071) HT_ ?_
      refine pa 17 33 (mb 33 262143) HT_ ?_
      refine pu 18 34 (mb 33 524287) HT_ ?_
      refine pu 19 35 (mb 33 1048575) HT_ ?_
      refine pu 20 36 (mb 33 2097151) HT_ ?_
      refine pu 21 37 (mb 33 4194303) HT_ ?_
      refine pu 22 38 (mb 33 8388607) HT_ ?_
      refine pu 23 39 (mb 33 16777215) HT_ ?_
      refine pu 24 40 (mb 33 33554431) HT_ ?_
      refine pu 25 41 (mb 33 67108863) HT_ ?_
      refine pu 26 42 (mb 33 134217727) HT_ ?_
      refine pu 27 43 (mb 33 268435455) HT_ ?_
      refine pu 28 44 (mb 33 536870911) HT_ ?_
      refine pu 29 45 (mb 33 1073741823) HT_ ?_
      refine pu 30 46 (mb 33 2147483647) HT_ ?_
      refine pu 31 47 (mb 33 4294967295) HT_ ?_
      refine pa 32 48 (mb 33 8589934591) HT_ ?_
      refine eA HT_ ?_
      try go_wp2
      go_ret
      exact ⟨rA, bA⟩
     rw [if_neg c7] at H
     have c7b0 : ((((rd_T85 l1 x5_1).f0).length : Int) == 0) = false := beq_eq_false_iff_ne.mpr c7
     have c7b1 : ((((rd_T85 l1 x5_1).f0).length : Int) != 0) = true := bne_iff_ne.mpr c7
     have c7b2 : ¬ (((rd_T85 l1 x5_1).f0) = []) := fun h_ => c7 (by rw [h_]; rfl)
     obtain ⟨t286, A9, H⟩ := bindE H
     try dsimp only at H
     by_cases c10 : t286 = true
     ·
      subst c10
      have H1 : ((spec_LeastGreen.f k1 l0 ((rd_T85 l1 x5_1).f0)).bind fun t289 => ((spec_l1In.f ((rd_T85 l1 x5_1).f1) t289 60).bind fun t290 => (if t290 = true then (spec_IsPlan.l0 k1 l0 l1 (wrap64 (x5_1 + 1))) else (some false)))) = some r := by rw [if_pos rfl] at H; exact H
      clear H
      have H := H1
      clear H1
      obtain ⟨t289, A11, H⟩ := bindE H
      try dsimp only at H
      obtain ⟨t290, A12, H⟩ := bindE H
      try dsimp only at H
      by_cases c13 : t290 = true
      ·
       subst c13
       have H1 : (spec_IsPlan.l0 k1 l0 l1 (wrap64 (x5_1 + 1))) = some r := by rw [if_pos rfl] at H; exact H
       clear H
       have H := H1
       clear H1
       have H' := Aside0.mk H
       clear H
       try go_wp2
       have HBo := HB
       replace HB := db HB
       obtain ⟨p284, q284⟩ : 0 ≤ (x5_1 : Int) ∧ x5_1 < (l1.length : Int) := ⟨dA, dA⟩
       obtain ⟨ad284, A284_0, c284_0, e284, hx284_0, hx284_1, hl284_0, hi284_0⟩ := at_T85 HR1.out x5_1 p284 q284
       have hw284_1 := hx284_1
       have hw284_0 := hx284_0
       cases e284
       replace hx284_0 := hC HB hx284_0
       replace hx284_1 := hC HB hx284_1
       have HR284_0 := Aside0.mk hi284_0
       have HC284_0 := Aside0.mk hl284_0
       clear hi284_0 hl284_0
       obtain ⟨p284, q284⟩ := eT p284 q284
       obtain ⟨p285, q285⟩ : 0 ≤ (x5_1 : Int) ∧ x5_1 < (l1.length : Int) := ⟨dA, dA⟩
       obtain ⟨ad285, A285_0, c285_0, e285, hx285_0, hx285_1, hl285_0, hi285_0⟩ := at_T85 HR1.out x5_1 p285 q285
       have hw285_1 := hx285_1
       have hw285_0 := hx285_0
       obtain rfl : ad284 = ad285 := (by injection e285)
       replace hx285_0 := hC HB hx285_0
       replace hx285_1 := hC HB hx285_1
       have HR285_0 := Aside0.mk hi285_0
       have HC285_0 := Aside0.mk hl285_0
       clear hi285_0 hl285_0
       obtain ⟨p285, q285⟩ := eT p285 q285
       have ea_ := Option.some.inj (hx284_0.symm.trans hx285_0)
       injection ea_ with ea_ en_ ec_
       subst ea_
       subst ec_
       clear en_
       obtain ⟨p287, q287⟩ : 0 ≤ (x5_1 : Int) ∧ x5_1 < (l1.length : Int) := ⟨dA, dA⟩
       obtain ⟨ad287, A287_0, c287_0, e287, hx287_0, hx287_1, hl287_0, hi287_0⟩ := at_T85 HR1.out x5_1 p287 q287
       have hw287_1 := hx287_1
       have hw287_0 := hx287_0
       obtain rfl : ad284 = ad287 := (by injection e287)
       replace hx287_0 := hC HB hx287_0
       replace hx287_1 := hC HB hx287_1
       have HR287_0 := Aside0.mk hi287_0
       have HC287_0 := Aside0.mk hl287_0
       clear hi287_0 hl287_0
       obtain ⟨p287, q287⟩ := eT p287 q287
       first | have ea_ := Option.some.inj (hw284_0.symm.trans hw287_0) | have ea_ := Option.some.inj (hx284_0.symm.trans hx287_0)
       injection ea_ with ea_ en_ ec_
       subst ea_
       subst ec_
       clear en_
       obtain ⟨p288, q288⟩ : 0 ≤ (x5_1 : Int) ∧ x5_1 < (l1.length : Int) := ⟨dA, dA⟩
       obtain ⟨ad288, A288_0, c288_0, e288, hx288_0, hx288_1, hl288_0, hi288_0⟩ := at_T85 HR1.out x5_1 p288 q288
       have hw288_1 := hx288_1
       have hw288_0 := hx288_0
       obtain rfl : ad284 = ad288 := (by injection e288)
       replace hx288_0 := hC HB hx288_0
       replace hx288_1 := hC HB hx288_1
       have HR288_0 := Aside0.mk hi288_0
       have HC288_0 := Aside0.mk hl288_0
       clear hi288_0 hl288_0
       obtain ⟨p288, q288⟩ := eT p288 q288
       first | have ea_ := Option.some.inj (hw284_0.symm.trans hw288_0) | have ea_ := Option.some.inj (hx284_0.symm.trans hx288_0)
       injection ea_ with ea_ en_ ec_
       subst ea_
       subst ec_
       clear en_
       refine start_ (n := 33) (S := fun w' => w'.cell? (ad284.add ((x5_1).toNat * 2)) = some (.slice A284_0 ((rd_T85 l1 x5_1).f0).length c284_0) ∧ w'.cell? ⟨(ad284.add ((x5_1).toNat * 2)).block, (ad284.add ((x5_1).toNat * 2)).off + 1, none⟩ = some (.int .i64 ((rd_T85 l1 x5_1).f1)) ∧ w'.cell? (ad284.add ((x5_1).toNat * 2)) = some (.slice A284_0 ((rd_T85 l1 x5_1).f0).length c284_0) ∧ w'.cell? ⟨(ad284.add ((x5_1).toNat * 2)).block, (ad284.add ((x5_1).toNat * 2)).off + 1, none⟩ = some (.int .i64 ((rd_T85 l1 x5_1).f1)) ∧ w'.cell? (ad284.add ((x5_1).toNat * 2)) = some (.slice A284_0 ((rd_T85 l1 x5_1).f0).length c284_0) ∧ w'.cell? ⟨(ad284.add ((x5_1).toNat * 2)).block, (ad284.add ((x5_1).toNat * 2)).off + 1, none⟩ = some (.int .i64 ((rd_T85 l1 x5_1).f1)) ∧ w'.cell? (ad284.add ((x5_1).toNat * 2)) = some (.slice A284_0 ((rd_T85 l1 x5_1).f0).length c284_0) ∧ w'.cell? ⟨(ad284.add ((x5_1).toNat * 2)).block, (ad284.add ((x5_1).toNat * 2)).off + 1, none⟩ = some (.int .i64 ((rd_T85 l1 x5_1).f1))) (ds := []) (mb 33 0) (by kernel_rfl) rfl rfl ⟨(hC HB hw284_0), (hC HB hw284_1), (hC HB hw285_0), (hC HB hw285_1), (hC HB hw287_0), (hC HB hw287_1), (hC HB hw288_0), (hC HB hw288_1)⟩ (fun hHeld => ?_); refine with_tabW spec_IsPlan.tab6 spec_IsPlan.bits6 (fun HT_ HW_ => ?_)
       generalize wr.drew = w14 at HB HR284_0 HR285_0 HR287_0 HR288_0 hx284_0 hx284_1 hx285_0 hx285_1 hx287_0 hx287_1 hx288_0 hx288_1 hHeld ⊢
       refine pa 0 16 (mb 33 1) HT_ ?_
       refine pa 1 17 (mb 33 3) HT_ ?_
       refine pa 2 18 (mb 33 7) HT_ ?_
       refine pa 3 19 (mb 33 15) HT_ ?_
       refine ta8 4 20 (mb 33 31) HT_ HW_ hHeld ?_
       refine pa 5 21 (mb 33 63) HT_ ?_
       refine pa 6 22 (mb 33 127) HT_ ?_
       refine pa 7 23 (mb 33 255) HT_ ?_
       refine pa 8 24 (mb 33 511) HT_ ?_
       refine pa 9 25 (mb 33 1023) HT_ ?_
       refine pa 10 26 (mb 33 2047) HT_ ?_
       refine pa 11 27 (mb 33 4095) HT_ ?_
       refine pa 12 28 (mb 33 8191) HT_ ?_
       refine ta8 13 29 (mb 33 16383) HT_ HW_ hHeld ?_
       refine oa 14 30 (mb 33 32767) HT_ (fun K hK => ?_)
       refine gA Try.func112 #[.slice A0 l0.length c0, .slice A284_0 ((rd_T85 l1 x5_1).f0).length c284_0] ?_
       with_reducible refine (spec_IsTogether.calls k1 _ _ l0 _ _ ((rd_T85 l1 x5_1).f0) true _ ?side1 ?side2 ?side3 ?side4 A9.out).mono ?_
       (case side1 => exact cB HR0)
       (case side2 => exact HC0.out)
       (case side3 => exact cB HR285_0)
       (case side4 => exact HC285_0.out)
       rintro e w15 ⟨rfl, hb⟩
       refine ⟨_, rfl, ?_⟩
       replace HB := bs HB hb
       (try clear hb)
       (try clear hb2)
       (try clear hk)
       (try clear hi)
       refine hK.out _ _ ⟨(hC HB hw284_0), (hC HB hw284_1), (hC HB hw285_0), (hC HB hw285_1), (hC HB hw287_0), (hC HB hw287_1), (hC HB hw288_0), (hC HB hw288_1)⟩ (fun hHeld => ?_)
       clear hK K
       refine nB ?_
       refine pa 15 31 (mb 33 65535) HT_ ?_
       refine pa 16 32 (mb 33 131071) HT_ ?_
       refine pa 17 33 (mb 33 262143) HT_ ?_
       refine pa 18 34 (mb 33 524287) HT_ ?_
       refine pa 19 35 (mb 33 1048575) HT_ ?_
       refine pa 20 36 (mb 33 2097151) HT_ ?_
       refine pa 21 37 (mb 33 4194303) HT_ ?_
       refine pa 23 39 (mb 33 12582911) HT_ ?_
       refine pa 24 40 (mb 33 29360127) HT_ ?_
       refine pa 25 41 (mb 33 62914559) HT_ ?_
       refine pa 26 42 (mb 33 130023423) HT_ ?_
       refine pa 27 43 (mb 33 264241151) HT_ ?_
       refine ta8 22 38 (mb 33 268435455) HT_ HW_ hHeld ?_
       refine ta8 28 44 (mb 33 536870911) HT_ HW_ hHeld ?_
       refine oa 29 45 (mb 33 1073741823) HT_ (fun K hK => ?_)
       refine gA Try.func113 #[.slice A0 l0.length c0, .slice A284_0 ((rd_T85 l1 x5_1).f0).length c284_0] ?_
       with_reducible refine (spec_LeastGreen.calls k1 _ _ l0 _ _ ((rd_T85 l1 x5_1).f0) t289 _ ?side1 ?side2 ?side3 ?side4 A11.out).mono ?_
       (case side1 => exact cB HR0)
       (case side2 => exact HC0.out)
       (case side3 => exact cB HR288_0)
       (case side4 => exact HC288_0.out)
       rintro e w' ⟨rfl, ⟨nd, rfl⟩⟩
       refine ⟨_, rfl, ?_⟩
       refine hK.out _ _ ⟨(hC HB hw284_0), (hC HB hw284_1), (hC HB hw285_0), (hC HB hw285_1), (hC HB hw287_0), (hC HB hw287_1), (hC HB hw288_0), (hC HB hw288_1)⟩ (fun hHeld => ?_)
       clear hK K
       refine nB ?_
       refine oa 30 46 (mb 33 2147483647) HT_ (fun K hK => ?_)
       refine gA Try.func111 #[.int .i64 ((rd_T85 l1 x5_1).f1), .int .i64 t289, .int .i64 60] ?_
       with_reducible refine (spec_l1In.calls ((rd_T85 l1 x5_1).f1) t289 60 true _ A12.out).mono ?_
       rintro e w' ⟨rfl, ⟨nd, rfl⟩⟩
       refine ⟨_, rfl, ?_⟩
       refine hK.out _ _ ⟨(hC HB hw284_0), (hC HB hw284_1), (hC HB hw285_0), (hC HB hw285_1), (hC HB hw287_0), (hC HB hw287_1), (hC HB hw288_0), (hC HB hw288_1)⟩ (fun hHeld => ?_)
       clear hK K
       refine nB ?_
       refine pa 31 47 (mb 33 4294967295) HT_ ?_
       refine pa 32 48 (mb 33 8589934591) HT_ ?_
       refine eA HT_ ?_
       try go_wp2
       go_roundg k1
       case measure => have := HK1.out; omega
       case rel => exact ⟨(wrap64 (x5_1 + 1)), rS, H', ⟨by have := HK1.out; omega⟩, ⟨bA⟩⟩
      replace c13 := Bool.eq_false_iff.mpr c13
      subst c13
      have H1 : (some false) = some r := by rw [if_neg (show ¬ (false = true) by decide)] at H; exact H
      clear H
      have H := H1
      clear H1
      obtain rfl := Option.some.inj H
      try go_wp2
      have HBo := HB
      replace HB := db HB
      obtain ⟨p284, q284⟩ : 0 ≤ (x5_1 : Int) ∧ x5_1 < (l1.length : Int) := ⟨dA, dA⟩
      obtain ⟨ad284, A284_0, c284_0, e284, hx284_0, hx284_1, hl284_0, hi284_0⟩ := at_T85 HR1.out x5_1 p284 q284
      have hw284_1 := hx284_1
      have hw284_0 := hx284_0
      cases e284
      replace hx284_0 := hC HB hx284_0
      replace hx284_1 := hC HB hx284_1
      have HR284_0 := Aside0.mk hi284_0
      have HC284_0 := Aside0.mk hl284_0
      clear hi284_0 hl284_0
      obtain ⟨p284, q284⟩ := eT p284 q284
      obtain ⟨p285, q285⟩ : 0 ≤ (x5_1 : Int) ∧ x5_1 < (l1.length : Int) := ⟨dA, dA⟩
      obtain ⟨ad285, A285_0, c285_0, e285, hx285_0, hx285_1, hl285_0, hi285_0⟩ := at_T85 HR1.out x5_1 p285 q285
      have hw285_1 := hx285_1
      have hw285_0 := hx285_0
      obtain rfl : ad284 = ad285 := (by injection e285)
      replace hx285_0 := hC HB hx285_0
      replace hx285_1 := hC HB hx285_1
      have HR285_0 := Aside0.mk hi285_0
      have HC285_0 := Aside0.mk hl285_0
      clear hi285_0 hl285_0
      obtain ⟨p285, q285⟩ := eT p285 q285
      have ea_ := Option.some.inj (hx284_0.symm.trans hx285_0)
      injection ea_ with ea_ en_ ec_
      subst ea_
      subst ec_
      clear en_
      obtain ⟨p287, q287⟩ : 0 ≤ (x5_1 : Int) ∧ x5_1 < (l1.length : Int) := ⟨dA, dA⟩
      obtain ⟨ad287, A287_0, c287_0, e287, hx287_0, hx287_1, hl287_0, hi287_0⟩ := at_T85 HR1.out x5_1 p287 q287
      have hw287_1 := hx287_1
      have hw287_0 := hx287_0
      obtain rfl : ad284 = ad287 := (by injection e287)
      replace hx287_0 := hC HB hx287_0
      replace hx287_1 := hC HB hx287_1
      have HR287_0 := Aside0.mk hi287_0
      have HC287_0 := Aside0.mk hl287_0
      clear hi287_0 hl287_0
      obtain ⟨p287, q287⟩ := eT p287 q287
      first | have ea_ := Option.some.inj (hw284_0.symm.trans hw287_0) | have ea_ := Option.some.inj (hx284_0.symm.trans hx287_0)
      injection ea_ with ea_ en_ ec_
      subst ea_
      subst ec_
      clear en_
      obtain ⟨p288, q288⟩ : 0 ≤ (x5_1 : Int) ∧ x5_1 < (l1.length : Int) := ⟨dA, dA⟩
      obtain ⟨ad288, A288_0, c288_0, e288, hx288_0, hx288_1, hl288_0, hi288_0⟩ := at_T85 HR1.out x5_1 p288 q288
      have hw288_1 := hx288_1
      have hw288_0 := hx288_0
      obtain rfl : ad284 = ad288 := (by injection e288)
      replace hx288_0 := hC HB hx288_0
      replace hx288_1 := hC HB hx288_1
      have HR288_0 := Aside0.mk hi288_0
      have HC288_0 := Aside0.mk hl288_0
      clear hi288_0 hl288_0
      obtain ⟨p288, q288⟩ := eT p288 q288
      first | have ea_ := Option.some.inj (hw284_0.symm.trans hw288_0) | have ea_ := Option.some.inj (hx284_0.symm.trans hx288_0)
      injection ea_ with ea_ en_ ec_
      subst ea_
      subst ec_
      clear en_
      refine start_ (n := 33) (S := fun w' => w'.cell? (ad284.add ((x5_1).toNat * 2)) = some (.slice A284_0 ((rd_T85 l1 x5_1).f0).length c284_0) ∧ w'.cell? ⟨(ad284.add ((x5_1).toNat * 2)).block, (ad284.add ((x5_1).toNat * 2)).off + 1, none⟩ = some (.int .i64 ((rd_T85 l1 x5_1).f1)) ∧ w'.cell? (ad284.add ((x5_1).toNat * 2)) = some (.slice A284_0 ((rd_T85 l1 x5_1).f0).length c284_0) ∧ w'.cell? ⟨(ad284.add ((x5_1).toNat * 2)).block, (ad284.add ((x5_1).toNat * 2)).off + 1, none⟩ = some (.int .i64 ((rd_T85 l1 x5_1).f1)) ∧ w'.cell? (ad284.add ((x5_1).toNat * 2)) = some (.slice A284_0 ((rd_T85 l1 x5_1).f0).length c284_0) ∧ w'.cell? ⟨(ad284.add ((x5_1).toNat * 2)).block, (ad284.add ((x5_1).toNat * 2)).off + 1, none⟩ = some (.int .i64 ((rd_T85 l1 x5_1).f1)) ∧ w'.cell? (ad284.add ((x5_1).toNat * 2)) = some (.slice A284_0 ((rd_T85 l1 x5_1).f0).length c284_0) ∧ w'.cell? ⟨(ad284.add ((x5_1).toNat * 2)).block, (ad284.add ((x5_1).toNat * 2)).off + 1, none⟩ = some (.int .i64 ((rd_T85 l1 x5_1).f1))) (ds := []) (mb 33 0) (by kernel_rfl) rfl rfl ⟨(hC HB hw284_0), (hC HB hw284_1), (hC HB hw285_0), (hC HB hw285_1), (hC HB hw287_0), (hC HB hw287_1), (hC HB hw288_0), (hC HB hw288_1)⟩ (fun hHeld => ?_); refine with_tabW spec_IsPlan.tab6 spec_IsPlan.bits6 (fun HT_ HW_ => ?_)
      generalize wr.drew = w16 at HB HR284_0 HR285_0 HR287_0 HR288_0 hx284_0 hx284_1 hx285_0 hx285_1 hx287_0 hx287_1 hx288_0 hx288_1 hHeld ⊢
      refine pa 0 16 (mb 33 1) HT_ ?_
      refine pa 1 17 (mb 33 3) HT_ ?_
      refine pa 2 18 (mb 33 7) HT_ ?_
      refine pa 3 19 (mb 33 15) HT_ ?_
      refine ta8 4 20 (mb 33 31) HT_ HW_ hHeld ?_
      refine pa 5 21 (mb 33 63) HT_ ?_
      refine pa 6 22 (mb 33 127) HT_ ?_
      refine pa 7 23 (mb 33 255) HT_ ?_
      refine pa 8 24 (mb 33 511) HT_ ?_
      refine pa 9 25 (mb 33 1023) HT_ ?_
      refine pa 10 26 (mb 33 2047) HT_ ?_
      refine pa 11 27 (mb 33 4095) HT_ ?_
      refine pa 12 28 (mb 33 8191) HT_ ?_
      refine ta8 13 29 (mb 33 16383) HT_ HW_ hHeld ?_
      refine oa 14 30 (mb 33 32767) HT_ (fun K hK => ?_)
      refine gA Try.func112 #[.slice A0 l0.length c0, .slice A284_0 ((rd_T85 l1 x5_1).f0).length c284_0] ?_
      with_reducible refine (spec_IsTogether.calls k1 _ _ l0 _ _ ((rd_T85 l1 x5_1).f0) true _ ?side1 ?side2 ?side3 ?side4 A9.out).mono ?_
      (case side1 => exact cB HR0)
      (case side2 => exact HC0.out)
      (case side3 => exact cB HR285_0)
      (case side4 => exact HC285_0.out)
      rintro e w17 ⟨rfl, hb⟩
      refine ⟨_, rfl, ?_⟩
      replace HB := bs HB hb
      (try clear hb)
      (try clear hb2)
      (try clear hk)
      (try clear hi)
      refine hK.out _ _ ⟨(hC HB hw284_0), (hC HB hw284_1), (hC HB hw285_0), (hC HB hw285_1), (hC HB hw287_0), (hC HB hw287_1), (hC HB hw288_0), (hC HB hw288_1)⟩ (fun hHeld => ?_)
      clear hK K
      refine nB ?_
      refine pa 15 31 (mb 33 65535) HT_ ?_
      refine pa 16 32 (mb 33 131071) HT_ ?_
      refine pa 17 33 (mb 33 262143) HT_ ?_
      refine pa 18 34 (mb 33 524287) HT_ ?_
      refine pa 19 35 (mb 33 1048575) HT_ ?_
      refine pa 20 36 (mb 33 2097151) HT_ ?_
      refine pa 21 37 (mb 33 4194303) HT_ ?_
      refine pa 23 39 (mb 33 12582911) HT_ ?_
      refine pa 24 40 (mb 33 29360127) HT_ ?_
      refine pa 25 41 (mb 33 62914559) HT_ ?_
      refine pa 26 42 (mb 33 130023423) HT_ ?_
      refine pa 27 43 (mb 33 264241151) HT_ ?_
      refine ta8 22 38 (mb 33 268435455) HT_ HW_ hHeld ?_
      refine ta8 28 44 (mb 33 536870911) HT_ HW_ hHeld ?_
      refine oa 29 45 (mb 33 1073741823) HT_ (fun K hK => ?_)
      refine gA Try.func113 #[.slice A0 l0.length c0, .slice A284_0 ((rd_T85 l1 x5_1).f0).length c284_0] ?_
      with_reducible refine (spec_LeastGreen.calls k1 _ _ l0 _ _ ((rd_T85 l1 x5_1).f0) t289 _ ?side1 ?side2 ?side3 ?side4 A11.out).mono ?_
      (case side1 => exact cB HR0)
      (case side2 => exact HC0.out)
      (case side3 => exact cB HR288_0)
      (case side4 => exact HC288_0.out)
      rintro e w' ⟨rfl, ⟨nd, rfl⟩⟩
      refine ⟨_, rfl, ?_⟩
      refine hK.out _ _ ⟨(hC HB hw284_0), (hC HB hw284_1), (hC HB hw285_0), (hC HB hw285_1), (hC HB hw287_0), (hC HB hw287_1), (hC HB hw288_0), (hC HB hw288_1)⟩ (fun hHeld => ?_)
      clear hK K
      refine nB ?_
      refine oa 30 46 (mb 33 2147483647) HT_ (fun K hK => ?_)
      refine gA Try.func111 #[.int .i64 ((rd_T85 l1 x5_1).f1), .int .i64 t289, .int .i64 60] ?_
      with_reducible refine (spec_l1In.calls ((rd_T85 l1 x5_1).f1) t289 60 false _ A12.out).mono ?_
      rintro e w' ⟨rfl, ⟨nd, rfl⟩⟩
      refine ⟨_, rfl, ?_⟩
      refine hK.out _ _ ⟨(hC HB hw284_0), (hC HB hw284_1), (hC HB hw285_0), (hC HB hw285_1), (hC HB hw287_0), (hC HB hw287_1), (hC HB hw288_0), (hC HB hw288_1)⟩ (fun hHeld => ?_)
      clear hK K
      refine nB ?_
      refine pa 31 47 (mb 33 4294967295) HT_ ?_
      refine pa 32 48 (mb 33 8589934591) HT_ ?_
      refine eA HT_ ?_
      try go_wp2
      go_ret
      exact ⟨rA, bA⟩
     replace c10 := Bool.eq_false_iff.mpr c10
     subst c10
     have H1 : (some false) = some r := by rw [if_neg (show ¬ (false = true) by decide)] at H; exact H
     clear H
     have H := H1
     clear H1
     obtain rfl := Option.some.inj H
     try go_wp2
     have HBo := HB
     replace HB := db HB
     obtain ⟨p284, q284⟩ : 0 ≤ (x5_1 : Int) ∧ x5_1 < (l1.length : Int) := ⟨dA, dA⟩
     obtain ⟨ad284, A284_0, c284_0, e284, hx284_0, hx284_1, hl284_0, hi284_0⟩ := at_T85 HR1.out x5_1 p284 q284
     have hw284_1 := hx284_1
     have hw284_0 := hx284_0
     cases e284
     replace hx284_0 := hC HB hx284_0
     replace hx284_1 := hC HB hx284_1
     have HR284_0 := Aside0.mk hi284_0
     have HC284_0 := Aside0.mk hl284_0
     clear hi284_0 hl284_0
     obtain ⟨p284, q284⟩ := eT p284 q284
     obtain ⟨p285, q285⟩ : 0 ≤ (x5_1 : Int) ∧ x5_1 < (l1.length : Int) := ⟨dA, dA⟩
     obtain ⟨ad285, A285_0, c285_0, e285, hx285_0, hx285_1, hl285_0, hi285_0⟩ := at_T85 HR1.out x5_1 p285 q285
     have hw285_1 := hx285_1
     have hw285_0 := hx285_0
     obtain rfl : ad284 = ad285 := (by injection e285)
     replace hx285_0 := hC HB hx285_0
     replace hx285_1 := hC HB hx285_1
     have HR285_0 := Aside0.mk hi285_0
     have HC285_0 := Aside0.mk hl285_0
     clear hi285_0 hl285_0
     obtain ⟨p285, q285⟩ := eT p285 q285
     have ea_ := Option.some.inj (hx284_0.symm.trans hx285_0)
     injection ea_ with ea_ en_ ec_
     subst ea_
     subst ec_
     clear en_
     refine start_ (n := 33) (S := fun w' => w'.cell? (ad284.add ((x5_1).toNat * 2)) = some (.slice A284_0 ((rd_T85 l1 x5_1).f0).length c284_0) ∧ w'.cell? ⟨(ad284.add ((x5_1).toNat * 2)).block, (ad284.add ((x5_1).toNat * 2)).off + 1, none⟩ = some (.int .i64 ((rd_T85 l1 x5_1).f1)) ∧ w'.cell? (ad284.add ((x5_1).toNat * 2)) = some (.slice A284_0 ((rd_T85 l1 x5_1).f0).length c284_0) ∧ w'.cell? ⟨(ad284.add ((x5_1).toNat * 2)).block, (ad284.add ((x5_1).toNat * 2)).off + 1, none⟩ = some (.int .i64 ((rd_T85 l1 x5_1).f1))) (ds := []) (mb 33 0) (by kernel_rfl) rfl rfl ⟨(hC HB hw284_0), (hC HB hw284_1), (hC HB hw285_0), (hC HB hw285_1)⟩ (fun hHeld => ?_); refine with_tabW spec_IsPlan.tab6 spec_IsPlan.bits6 (fun HT_ HW_ => ?_)
     generalize wr.drew = w18 at HB HR284_0 HR285_0 hx284_0 hx284_1 hx285_0 hx285_1 hHeld ⊢
     refine pa 0 16 (mb 33 1) HT_ ?_
     refine pa 1 17 (mb 33 3) HT_ ?_
     refine pa 2 18 (mb 33 7) HT_ ?_
     refine pa 3 19 (mb 33 15) HT_ ?_
     refine ta4 4 20 (mb 33 31) HT_ HW_ hHeld ?_
     refine pa 5 21 (mb 33 63) HT_ ?_
     refine pa 6 22 (mb 33 127) HT_ ?_
     refine pa 7 23 (mb 33 255) HT_ ?_
     refine pa 8 24 (mb 33 511) HT_ ?_
     refine pa 9 25 (mb 33 1023) HT_ ?_
     refine pa 10 26 (mb 33 2047) HT_ ?_
     refine pa 11 27 (mb 33 4095) HT_ ?_
     refine pa 12 28 (mb 33 8191) HT_ ?_
     refine ta4 13 29 (mb 33 16383) HT_ HW_ hHeld ?_
     refine oa 14 30 (mb 33 32767) HT_ (fun K hK => ?_)
     refine gA Try.func112 #[.slice A0 l0.length c0, .slice A284_0 ((rd_T85 l1 x5_1).f0).length c284_0] ?_
     with_reducible refine (spec_IsTogether.calls k1 _ _ l0 _ _ ((rd_T85 l1 x5_1).f0) false _ ?side1 ?side2 ?side3 ?side4 A9.out).mono ?_
     (case side1 => exact cB HR0)
     (case side2 => exact HC0.out)
     (case side3 => exact cB HR285_0)
     (case side4 => exact HC285_0.out)
     rintro e w19 ⟨rfl, hb⟩
     refine ⟨_, rfl, ?_⟩
     replace HB := bs HB hb
     (try clear hb)
     (try clear hb2)
     (try clear hk)
     (try clear hi)
     refine hK.out _ _ ⟨(hC HB hw284_0), (hC HB hw284_1), (hC HB hw285_0), (hC HB hw285_1)⟩ (fun hHeld => ?_)
     clear hK K
     refine nB ?_
     refine pa 15 31 (mb 33 65535) HT_ ?_
     refine pa 16 32 (mb 33 131071) HT_ ?_
     refine pa 17 33 (mb 33 262143) HT_ ?_
     refine pu 18 34 (mb 33 524287) HT_ ?_
     refine pu 19 35 (mb 33 1048575) HT_ ?_
     refine pu 20 36 (mb 33 2097151) HT_ ?_
     refine pu 21 37 (mb 33 4194303) HT_ ?_
     refine pu 22 38 (mb 33 8388607) HT_ ?_
     refine pu 23 39 (mb 33 16777215) HT_ ?_
     refine pu 24 40 (mb 33 33554431) HT_ ?_
     refine pu 25 41 (mb 33 67108863) HT_ ?_
     refine pu 26 42 (mb 33 134217727) HT_ ?_
     refine pu 27 43 (mb 33 268435455) HT_ ?_
     refine pu 28 44 (mb 33 536870911) HT_ ?_
     refine pu 29 45 (mb 33 1073741823) HT_ ?_
     refine pu 30 46 (mb 33 2147483647) HT_ ?_
     refine pu 31 47 (mb 33 4294967295) HT_ ?_
     refine pa 32 48 (mb 33 8589934591) HT_ ?_
     refine eA HT_ ?_
     try go_wp2
     go_ret
     exact ⟨rA, bA⟩
    rw [if_neg c5] at H
    have c5b0 := decide_eq_false c5
    clear c5
    obtain ⟨t280, A20, H⟩ := bindE H
    try dsimp only at H
    obtain ⟨t283, A21, H⟩ := bindE H
    try dsimp only at H
    obtain rfl := Option.some.inj H
    go_wp2_with (first | ((with_reducible refine gate_callee (f := 115) rfl ?_); refine gL (some 51) Try.func115 #[.slice A1 l1.length c1] ?_; (with_reducible refine (spec_l8Stages.calls k1 (fun k_ => k_ < w.heap.size) _ _ l1 t280 _ ?_ A20.out).mono ?_); exact Kd.V_mk HC1.out (Kd.F_below (Kd.C_F k85_heap HR1.out) bA); rintro e w22 ⟨v281, rfl, ho0, hb⟩; refine ⟨_, rfl, ?_⟩; have HO282 := Aside0.mk (Kd.N_lower (Kd.N_mono (ok' := fun k_ => True) ho0 (fun k_ hk_ => trivial)) (below_size bA)); replace HB := bs HB hb; (try clear hb); (try clear ho0); obtain ⟨Ao23, co23, eo23⟩ := Kd.N_slice HO282.out; subst eo23) | ((with_reducible refine gate_callee (f := 114) rfl ?_); refine gL (some 52) Try.func114 #[.slice A0 l0.length c0, .slice Ao23 t280.length co23] ?_; (with_reducible refine (spec_Covers.calls k1 _ _ l0 _ _ t280 t283 _ ?_ ?_ ?_ ?_ A21.out).mono ?_); exact cB HR0; exact HC0.out; (focus repeat (first | exact (Kd.N_reads' HO282.out).2.2 | (with_reducible refine Kd.C_alloc ?_ _) | (with_reducible refine Kd.C_drewN ?_ _) | (with_reducible refine Kd.C_drew ?_))); exact (Kd.N_reads' HO282.out).2.1; rintro e w24 ⟨rfl, hb⟩; refine ⟨_, rfl, ?_⟩; have n0_ := Aside0.mk (Kd.N_below (by (with_reducible repeat (first | apply Kd.N_alloc | apply Kd.N_drewN | apply Kd.N_drew)); exact HO282.out) hb); have n1_ := bs HB hb; clear HO282; clear HB; have HO282 := n0_; have HB := n1_; clear n0_ n1_; (try clear hb)))
    go_ret
    exact ⟨rA, bA⟩
 replace c4 := Bool.eq_false_iff.mpr c4
 subst c4
 have H1 : (some false) = some r := by rw [if_neg (show ¬ (false = true) by decide)] at H; exact H
 clear H
 have H := H1
 clear H1
 obtain rfl := Option.some.inj H
 go_enter Try.func61, Try.ntmps61
 go_wp2_with (first | ((with_reducible refine gate_callee (f := 111) rfl ?_); refine gL (some 8) Try.func111 #[.int .i64 (l1.length : Int), .int .i64 1, .int .i64 6] ?_; (with_reducible refine (spec_l1In.calls (l1.length : Int) 1 6 false _ A3.out).mono ?_); rintro e w' ⟨rfl, ⟨nd, rfl⟩⟩; refine ⟨_, rfl, ?_⟩))
 go_ret
 exact ⟨rA, bA⟩

end Go.Proofs.Ytjgonpcajedkjaa.P
