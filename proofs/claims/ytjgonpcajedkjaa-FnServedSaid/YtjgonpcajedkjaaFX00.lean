/- Printed by myprint.py (wip/tools) over the kit's print: what Go's functions compute, and that they do. Lean checks it. -/
import Derived.Test.YtjgonpcajedkjaaF0
namespace Go.Proofs.Ytjgonpcajedkjaa.P
open Go.RowKit Go.Proofs.YtjgonpcajedkjaaW.PrintWords Go.Proofs.YtjgonpcajedkjaaW.PrintLast Go.Proofs.YtjgonpcajedkjaaW.PrintMore Go.Proofs.Ytjgonpcajedkjaa.Sq
attribute [local go_sem] max2_int min2_int max_two min_two max_three min_three max_four min_four
set_option linter.unusedVariables false
set_option linter.unusedSimpArgs false

/-! ### laws_big: function 10 -/
def laws_big.f (l0 : List Int) : Option (Bool) := some (decide ((l0.length : Int) > 1048576))
set_option maxHeartbeats 8000000 in
set_option maxRecDepth 100000 in
theorem laws_big.calls (A0 : Option Addr) (c0 : Nat) (l0 : List Int) (r : Bool) (w : World) (hr0 : Kd.C (Kd.int .u8) w A0 l0.length l0) (hc0 : l0.length ≤ c0) (h : laws_big.f l0 = some r) :
  Calls Try.prog 10 #[.slice A0 l0.length c0] w fun e w' => e = .returned (.bool r) ∧ Drawn0 w w' := by
 have HR0 := Aside0.mk hr0
 have HC0 := Aside0.mk hc0
 clear hr0 hc0
 have H : (some (decide ((l0.length : Int) > 1048576))) = some r := h
 clear h
 obtain rfl := Option.some.inj H
 go_enter Try.func10, Try.ntmps10
 go_wp2
 go_ret
 exact ⟨rS, dD⟩

/-- A state of type 138 at block g of W; what its slices lead to came in by w0. -/
def IsS138 (w0 W : World) (g : Nat) (f0 : List Int) (f1 : Int) (f2 : Int) : Prop := ∃ A0 c0, W.heap[g]? = some (.cells #[.slice A0 f0.length c0, .int .i64 f1, .int .i64 f2] 138 (0, 0)) ∧ w0.heap.size ≤ g ∧ Kd.C (Kd.int .u8) w0 A0 f0.length f0
theorem IsS138.grown {w0 W : World} {g : Nat} {f0 : List Int} {f1 : Int} {f2 : Int} {W1 : World} {row : Option Nat} (h : IsS138 w0 W g f0 f1 f2) (hw : W.grownBy W1 row) (hne : some g ≠ row) : IsS138 w0 W1 g f0 f1 f2 := by
 obtain ⟨A0, c0, hb, hg, hr0⟩ := h
 exact ⟨A0, c0, blk_grown hb hw hne, hg, hr0⟩
theorem IsS138.own_neN {w0 W : World} {g : Nat} {f0 : List Int} {f1 : Int} {f2 : Int} {α : Type} {d : Kd α} {e : Nat} {base : Nat} {ok : Nat → Prop} {v : Value} {xs : List α} (h : IsS138 w0 W g f0 f1 f2) (ho : Kd.N d e W base ok v xs) (ht : e ≠ 138) : some g ≠ v.ownBlock := by
 obtain ⟨A0, c0, hb, hg, hr0⟩ := h
 exact Kd.N_ne ho hb ht
theorem IsS138.fresh {w0 W : World} {g : Nat} {f0 : List Int} {f1 : Int} {f2 : Int} (h : IsS138 w0 W g f0 f1 f2) : ∀ k, W.heap.size ≤ k → k ≠ g := by
 obtain ⟨A0, c0, hb, hg, hr0⟩ := h
 exact Kd.freshB hb
theorem IsS138.kept {w0 W : World} {g : Nat} {f0 : List Int} {f1 : Int} {f2 : Int} {W1 : World} {S : Nat → Prop} (h : IsS138 w0 W g f0 f1 f2) (hk : Kept W W1 S) (hne : ¬ S g) : IsS138 w0 W1 g f0 f1 f2 := by
 obtain ⟨A0, c0, hb, hg, hr0⟩ := h
 exact ⟨A0, c0, blk_kept hb hk hne, hg, hr0⟩
theorem IsS138.below {w0 W : World} {g : Nat} {f0 : List Int} {f1 : Int} {f2 : Int} {W1 : World} (h : IsS138 w0 W g f0 f1 f2) (hw : Below W.heap.size W W1) : IsS138 w0 W1 g f0 f1 f2 := h.grown (grown_of_below hw none) (by simp)
theorem IsS138.alloc {w0 W : World} {g : Nat} {f0 : List Int} {f1 : Int} {f2 : Int} (h : IsS138 w0 W g f0 f1 f2) (o : Obj) : IsS138 w0 (W.alloc o) g f0 f1 f2 := h.below (below_alloc (Below.refl _ _) o)
theorem IsS138.drewN {w0 W : World} {g : Nat} {f0 : List Int} {f1 : Int} {f2 : Int} (h : IsS138 w0 W g f0 f1 f2) (m : Nat) : IsS138 w0 (W.drewN m) g f0 f1 f2 := h
theorem IsS138.drew {w0 W : World} {g : Nat} {f0 : List Int} {f1 : Int} {f2 : Int} (h : IsS138 w0 W g f0 f1 f2) : IsS138 w0 W.drew g f0 f1 f2 := h
theorem IsS138.at_ {w0 W : World} {g : Nat} {f0 : List Int} {f1 : Int} {f2 : Int} {w' : World} {m : Nat} (hq : W.drewN m = w') (h : IsS138 w0 W g f0 f1 f2) : IsS138 w0 w' g f0 f1 f2 := by subst hq; exact IsS138.drewN h m
theorem IsS138.apart {w0 W : World} {g : Nat} {f0 : List Int} {f1 : Int} {f2 : Int} {α : Type} {d : Kd α} {e : Nat} {base : Nat} {ok : Nat → Prop} {v : Value} {xs : List α} (h : IsS138 w0 W g f0 f1 f2) (ho : d.R e W base ok v xs) (ht : ∀ q, q ∈ e :: d.E → q ≠ 138) : d.R e W base (fun k => ok k ∧ k ≠ g) v xs := by
 obtain ⟨A0, c0, hb, hg, hr0⟩ := h
 exact Kd.R_types ho hb ht
theorem IsS138.own_ne {w0 W : World} {g : Nat} {f0 : List Int} {f1 : Int} {f2 : Int} {α : Type} {d : Kd α} {e : Nat} {base : Nat} {ok : Nat → Prop} {v : Value} {xs : List α} (h : IsS138 w0 W g f0 f1 f2) (ho : d.R e W base ok v xs) (ht : e ≠ 138) : some g ≠ v.ownBlock := by
 obtain ⟨A0, c0, hb, hg, hr0⟩ := h
 exact Kd.R_ne ho hb ht
theorem IsS138.apartS {w0 W : World} {g : Nat} {f0 : List Int} {f1 : Int} {f2 : Int} {α : Type} {d : Kd α} {e : Nat} {base : Nat} {ok : Nat → Prop} {v : Value} {xs : List α} (h : IsS138 w0 W g f0 f1 f2) (ho : d.S e W base ok v xs) (ht : ∀ q, q ∈ e :: d.E → q ≠ 138) : d.S e W base (fun k => ok k ∧ k ≠ g) v xs := by
 obtain ⟨A0, c0, hb, hg, hr0⟩ := h
 exact Kd.S_types ho hb ht
theorem IsS138.own_neS {w0 W : World} {g : Nat} {f0 : List Int} {f1 : Int} {f2 : Int} {α : Type} {d : Kd α} {e : Nat} {base : Nat} {ok : Nat → Prop} {v : Value} {xs : List α} (h : IsS138 w0 W g f0 f1 f2) (ho : d.S e W base ok v xs) (ht : e ≠ 138) : some g ≠ v.ownBlock := by
 obtain ⟨A0, c0, hb, hg, hr0⟩ := h
 exact Kd.S_ne ho hb ht
theorem IsS138.lt {w0 W : World} {g : Nat} {f0 : List Int} {f1 : Int} {f2 : Int} (h : IsS138 w0 W g f0 f1 f2) : g < W.heap.size := by
 obtain ⟨A0, c0, hb, hg, hr0⟩ := h
 exact blk_lt hb
theorem IsS138.ge {w0 W : World} {g : Nat} {f0 : List Int} {f1 : Int} {f2 : Int} (h : IsS138 w0 W g f0 f1 f2) : w0.heap.size ≤ g := by
 obtain ⟨A0, c0, hb, hg, hr0⟩ := h
 exact hg
theorem IsS138.far {w0 W : World} {g : Nat} {f0 : List Int} {f1 : Int} {f2 : Int} {p : Addr} (h : IsS138 w0 W g f0 f1 f2) (hne : g ≠ p.block) (u : Value) : IsS138 w0 (W.setCell p u) g f0 f1 f2 := by
 obtain ⟨A0, c0, hb, hg, hr0⟩ := h
 exact ⟨A0, c0, blk_far hb hne u, hg, hr0⟩
theorem cellS138_0 {W : World} {g : Nat} {A0 : Option Addr} {c0 : Nat} {f0 : List Int} {f1 : Int} {f2 : Int} (h : W.heap[g]? = some (.cells #[.slice A0 f0.length c0, .int .i64 f1, .int .i64 f2] 138 (0, 0))) : W.cell? ⟨g, 0, none⟩ = some (.slice A0 f0.length c0) := (blk_cell h 0).trans rfl
theorem cellS138_1 {W : World} {g : Nat} {A0 : Option Addr} {c0 : Nat} {f0 : List Int} {f1 : Int} {f2 : Int} (h : W.heap[g]? = some (.cells #[.slice A0 f0.length c0, .int .i64 f1, .int .i64 f2] 138 (0, 0))) : W.cell? ⟨g, 1, none⟩ = some (.int .i64 f1) := (blk_cell h 1).trans rfl
theorem IsS138.set_1 {w0 W : World} {g : Nat} {f0 : List Int} {f1 : Int} {f2 : Int} (h : IsS138 w0 W g f0 f1 f2) (x : Int) : IsS138 w0 (W.setCell ⟨g, 1, none⟩ (.int .i64 x)) g f0 x f2 := by
 obtain ⟨A0, c0, hb, hg, hr0⟩ := h
 exact ⟨A0, c0, by simpa using blk_set hb 1 (.int .i64 x), hg, hr0⟩
theorem cellS138_2 {W : World} {g : Nat} {A0 : Option Addr} {c0 : Nat} {f0 : List Int} {f1 : Int} {f2 : Int} (h : W.heap[g]? = some (.cells #[.slice A0 f0.length c0, .int .i64 f1, .int .i64 f2] 138 (0, 0))) : W.cell? ⟨g, 2, none⟩ = some (.int .i64 f2) := (blk_cell h 2).trans rfl
theorem IsS138.set_2 {w0 W : World} {g : Nat} {f0 : List Int} {f1 : Int} {f2 : Int} (h : IsS138 w0 W g f0 f1 f2) (x : Int) : IsS138 w0 (W.setCell ⟨g, 2, none⟩ (.int .i64 x)) g f0 f1 x := by
 obtain ⟨A0, c0, hb, hg, hr0⟩ := h
 exact ⟨A0, c0, by simpa using blk_set hb 2 (.int .i64 x), hg, hr0⟩
theorem IsS138.new (w0 W : World) (A0 : Option Addr) (c0 : Nat) (f0 : List Int) (f1 : Int) (f2 : Int) (hB : Below w0.heap.size w0 W) (hr0 : Kd.C (Kd.int .u8) w0 A0 f0.length f0) : IsS138 w0 (W.alloc (.cells #[.slice A0 f0.length c0, .int .i64 f1, .int .i64 f2] 138)) W.heap.size f0 f1 f2 := ⟨A0, c0, by simpa using heap_alloc_new W _, hB.size, hr0⟩
theorem sI1380 {p q : Prop} (h : p) (f : p → q := by intro h_ ; repeat (first | (with_reducible first | exact h_ | apply IsS138.alloc | apply IsS138.drewN | apply IsS138.drew | apply IsS138.set_1 | apply IsS138.set_2) | exact h_)) : q := f h
theorem sI1381 {p q r0 : Prop} (h : p) (e0 : r0) (f : p → r0 → q := by intro h_ e0_; repeat (first | (with_reducible first | exact h_ | apply IsS138.alloc | apply IsS138.drewN | apply IsS138.drew | apply IsS138.set_1 | apply IsS138.set_2 | refine IsS138.far ?_ e0_ _) | exact h_)) : q := f h e0
theorem sI1382 {p q r0 r1 : Prop} (h : p) (e0 : r0) (e1 : r1) (f : p → r0 → r1 → q := by intro h_ e0_ e1_; repeat (first | (with_reducible first | exact h_ | apply IsS138.alloc | apply IsS138.drewN | apply IsS138.drew | apply IsS138.set_1 | apply IsS138.set_2 | refine IsS138.far ?_ e0_ _ | refine IsS138.far ?_ e1_ _) | exact h_)) : q := f h e0 e1
theorem sB0 {p q : Prop} (h : p) (f : p → q := by intro h_ ; repeat (first | (with_reducible first | exact h_ | apply below_alloc | apply pw_below_drewN | apply below_drew1) | exact h_)) : q := f h
theorem sB1 {p q r0 : Prop} (h : p) (e0 : r0) (f : p → r0 → q := by intro h_ e0_; repeat (first | (with_reducible first | exact h_ | apply below_alloc | apply pw_below_drewN | apply below_drew1 | refine below_set ?_ e0_) | exact h_)) : q := f h e0
theorem sB2 {p q r0 r1 : Prop} (h : p) (e0 : r0) (e1 : r1) (f : p → r0 → r1 → q := by intro h_ e0_ e1_; repeat (first | (with_reducible first | exact h_ | apply below_alloc | apply pw_below_drewN | apply below_drew1 | refine below_set ?_ e0_ | refine below_set ?_ e1_) | exact h_)) : q := f h e0 e1
theorem sB3 {p q r0 r1 r2 : Prop} (h : p) (e0 : r0) (e1 : r1) (e2 : r2) (f : p → r0 → r1 → r2 → q := by intro h_ e0_ e1_ e2_; repeat (first | (with_reducible first | exact h_ | apply below_alloc | apply pw_below_drewN | apply below_drew1 | refine below_set ?_ e0_ | refine below_set ?_ e1_ | refine below_set ?_ e2_) | exact h_)) : q := f h e0 e1 e2
theorem sK0 {p q : Prop} (h : p) (f : p → q := by intro h_ ; repeat (first | (with_reducible first | exact h_ | apply KeepBut.set_ | apply keep_drewN | apply keep_drew | apply keep_alloc) | exact h_)) : q := f h
theorem sK1 {p q r0 : Prop} (h : p) (e0 : r0) (f : p → r0 → q := by intro h_ e0_; repeat (first | (with_reducible first | exact h_ | apply KeepBut.set_ | apply keep_drewN | apply keep_drew | apply keep_alloc | refine keep_far ?_ e0_ _) | exact h_)) : q := f h e0
theorem sK2 {p q r0 r1 : Prop} (h : p) (e0 : r0) (e1 : r1) (f : p → r0 → r1 → q := by intro h_ e0_ e1_; repeat (first | (with_reducible first | exact h_ | apply KeepBut.set_ | apply keep_drewN | apply keep_drew | apply keep_alloc | refine keep_far ?_ e0_ _ | refine keep_far ?_ e1_ _) | exact h_)) : q := f h e0 e1
/-! ### spec_l1New: function 81 -/
def spec_l1New.l0 : Nat → List Int → Int → Int → Option (List Int × Int × Int)
 | 0, _, _, _ => none
 | k + 1, x0, x3, x4 => if x4 < (x0.length : Int) then (if x4 < 4000 then (if 0 ≤ x4 then (spec_l1New.l0 k x0 (Go.bits .and .i64 (wrap64 ((wrap64 ((wrap64 (x3 * 137)) + (wrap64 (rd x0 x4)))) + 11)) 1073741823) (wrap64 (x4 + 1))) else (none)) else (some (x0, 0, x3))) else (some (x0, 0, x3))
def spec_l1New.f (k : Nat) (l0 : List Int) : Option (List Int × Int × Int) := spec_l1New.l0 k l0 (wrap64 (193017 + (l0.length : Int))) 0
theorem spec_l1New.mono_l : ∀ k, (∀ y0 y1 y2, LeO (spec_l1New.l0 k y0 y1 y2) (spec_l1New.l0 (k + 1) y0 y1 y2))
 | 0 => fun _ _ _ r h => by simp [spec_l1New.l0] at h
 | k + 1 => by
  have ih0 := spec_l1New.mono_l k
  ·
   intro y0 y1 y2
   unfold spec_l1New.l0
   exact mz1 ih0
theorem spec_l1New.mono : ∀ a0 k, LeO (spec_l1New.f k a0) (spec_l1New.f (k + 1) a0) := by
 intro a0 k
 have ih0 := spec_l1New.mono_l k
 unfold spec_l1New.f
 exact mz1 ih0
set_option maxHeartbeats 8000000 in
set_option maxRecDepth 100000 in
theorem spec_l1New.calls (k : Nat) (A0 : Option Addr) (c0 : Nat) (l0 : List Int) (r1 : List Int) (r2 : Int) (r3 : Int) (w0 w : World) (hB : Below w0.heap.size w0 w) (hr0 : Kd.C (Kd.int .u8) w0 A0 l0.length l0) (hc0 : l0.length ≤ c0) (h : spec_l1New.f k l0 = some (r1, r2, r3)) :
  Calls Try.prog 81 #[.slice A0 l0.length c0] w fun e w' => ∃ g_ : Nat, e = .returned (.pointer (some ⟨g_, 0, none⟩)) ∧ IsS138 w0 w' g_ r1 r2 r3 ∧ Below w0.heap.size w0 w' ∧ Below w.heap.size w w' ∧ w.heap.size ≤ g_ := by
 have hu138 := Try.underlying138
 have HR0 := Aside0.mk hr0
 have HC0 := Aside0.mk hc0
 clear hr0 hc0
 have HBW := Aside0.mk (Below.refl w.heap.size w)
 have HW0 := Aside0.mk hB.size
 have HB := Aside0.mk hB
 clear hB
 have H : (spec_l1New.l0 k l0 (wrap64 (193017 + (l0.length : Int))) 0) = some (r1, r2, r3) := h
 clear h
 have H' := Aside0.mk H
 clear H
 go_enter Try.func81, Try.ntmps81
 go_wp2
 go_loopg [3, 4] k (fun kq v3 v4 w' => ∃ (x3_1 : Int) (x4_1 : Int), v3 = .int .i64 x3_1 ∧ v4 = .int .i64 x4_1 ∧ Aside0 (spec_l1New.l0 kq l0 x3_1 x4_1 = some (r1, r2, r3)) ∧ Aside0 (kq ≤ k) ∧ Aside0 (Below w0.heap.size w0 w') ∧ Aside0 (Below w.heap.size w w'))
 case atStart => exact ⟨(wrap64 (193017 + (l0.length : Int))), (0), rS, rS, H', ⟨Nat.le_refl _⟩, ⟨bA⟩, HBW⟩
 case round =>
  clear H' HBW
  obtain ⟨x3_1, x4_1, rfl, rfl, HA, HK1, HB, HBW⟩ := hrel
  cases gk with
  | zero => exact absurd HA.out (by simp [spec_l1New.l0])
  | succ k1 =>
   have H := HA.out
   clear HA
   simp only [spec_l1New.l0] at H
   by_cases c2 : x4_1 < (l0.length : Int)
   ·
    rw [if_pos c2] at H
    have c2b0 := decide_eq_true c2
    clear c2
    by_cases c3 : x4_1 < 4000
    ·
     rw [if_pos c3] at H
     have c3b0 := decide_eq_true c3
     clear c3
     have c4 : 0 ≤ x4_1 := ifN H
     replace H := ifT H
     have c4b0 := decide_eq_true c4
     clear c4
     have H' := Aside0.mk H
     clear H
     obtain ⟨p101, q101⟩ : 0 ≤ (x4_1 : Int) ∧ x4_1 < (l0.length : Int) := ⟨dA, dA⟩
     obtain ⟨ad101, e101, hx101_0⟩ := Kd.at_int HR0.out x4_1 p101 q101
     cases e101
     replace hx101_0 := pw_cell_below HB.out hx101_0
     obtain ⟨p101, q101⟩ := eT p101 q101
     go_wp2
     go_roundg k1
     case measure => have := HK1.out; omega
     case rel => exact ⟨(Go.bits .and .i64 (wrap64 ((wrap64 ((wrap64 (x3_1 * 137)) + (wrap64 (rd l0 x4_1)))) + 11)) 1073741823), (wrap64 (x4_1 + 1)), rS, rS, H', ⟨by have := HK1.out; omega⟩, ⟨bA⟩, HBW⟩
    rw [if_neg c3] at H
    have c3b0 := decide_eq_false c3
    clear c3
    simp only [Option.some.injEq, Prod.mk.injEq] at H
    obtain ⟨rfl, rfl, rfl⟩ := H
    go_wp2
    go_ret
    exact ⟨_, rfl, IsS138.new w0 wr A0 c0 l0 0 x3_1 HB.out HR0.out, below_alloc HB.out _, below_alloc HBW.out _, HBW.out.size⟩
   rw [if_neg c2] at H
   have c2b0 := decide_eq_false c2
   clear c2
   simp only [Option.some.injEq, Prod.mk.injEq] at H
   obtain ⟨rfl, rfl, rfl⟩ := H
   go_wp2
   go_ret
   exact ⟨_, rfl, IsS138.new w0 wr A0 c0 l0 0 x3_1 HB.out HR0.out, below_alloc HB.out _, below_alloc HBW.out _, HBW.out.size⟩

/-! ### spec_l1Byte: function 126 -/
def spec_l1Byte.f (s0_0 : List Int) (s0_1 : Int) (s0_2 : Int) : Option (Int × Int × Int) := if s0_1 < (s0_0.length : Int) then (if 0 ≤ s0_1 then (some (Go.bits .and .i64 (wrap64 ((Go.bits .and .i64 (Go.bits .xor .i64 ((wrap64 ((wrap64 (s0_2 * 6364136223846793005)) + 1442695040888963407)) / 8589934592) ((wrap64 ((wrap64 (s0_2 * 6364136223846793005)) + 1442695040888963407)) / 140737488355328)) 255) + (wrap64 (rd s0_0 s0_1)))) 255, wrap64 (s0_1 + 1), wrap64 ((wrap64 (s0_2 * 6364136223846793005)) + 1442695040888963407))) else (none)) else (some (Go.bits .and .i64 (Go.bits .xor .i64 ((wrap64 ((wrap64 (s0_2 * 6364136223846793005)) + 1442695040888963407)) / 8589934592) ((wrap64 ((wrap64 (s0_2 * 6364136223846793005)) + 1442695040888963407)) / 140737488355328)) 255, s0_1, wrap64 ((wrap64 (s0_2 * 6364136223846793005)) + 1442695040888963407)))
set_option maxHeartbeats 8000000 in
set_option maxRecDepth 100000 in
theorem spec_l1Byte.calls (g : Nat) (s0_0 : List Int) (s0_1 : Int) (s0_2 : Int) (r1 : Int) (r2 : Int) (r3 : Int) (w0 w : World) (hI : IsS138 w0 w g s0_0 s0_1 s0_2) (hB : Below w0.heap.size w0 w) (h : spec_l1Byte.f s0_0 s0_1 s0_2 = some (r1, r2, r3)) :
  Calls Try.prog 126 #[.pointer (some ⟨g, 0, none⟩)] w fun e w' => e = .returned (.int .i64 r1) ∧ IsS138 w0 w' g s0_0 r2 r3 ∧ Below w0.heap.size w0 w' ∧ KeepBut w w' g none := by
 have HI0 := Aside0.mk hI
 have HK := Aside0.mk (KeepBut.refl w g none)
 have HL := Aside0.mk hB.size
 clear hI
 have HW0 := Aside0.mk hB.size
 have HB := Aside0.mk hB
 clear hB
 have H : (if s0_1 < (s0_0.length : Int) then (if 0 ≤ s0_1 then (some (Go.bits .and .i64 (wrap64 ((Go.bits .and .i64 (Go.bits .xor .i64 ((wrap64 ((wrap64 (s0_2 * 6364136223846793005)) + 1442695040888963407)) / 8589934592) ((wrap64 ((wrap64 (s0_2 * 6364136223846793005)) + 1442695040888963407)) / 140737488355328)) 255) + (wrap64 (rd s0_0 s0_1)))) 255, wrap64 (s0_1 + 1), wrap64 ((wrap64 (s0_2 * 6364136223846793005)) + 1442695040888963407))) else (none)) else (some (Go.bits .and .i64 (Go.bits .xor .i64 ((wrap64 ((wrap64 (s0_2 * 6364136223846793005)) + 1442695040888963407)) / 8589934592) ((wrap64 ((wrap64 (s0_2 * 6364136223846793005)) + 1442695040888963407)) / 140737488355328)) 255, s0_1, wrap64 ((wrap64 (s0_2 * 6364136223846793005)) + 1442695040888963407)))) = some (r1, r2, r3) := h
 clear h
 by_cases c2 : s0_1 < (s0_0.length : Int)
 ·
  rw [if_pos c2] at H
  have c2b0 := decide_eq_true c2
  clear c2
  have c3 : 0 ≤ s0_1 := ifN H
  replace H := ifT H
  have c3b0 := decide_eq_true c3
  clear c3
  simp only [Option.some.injEq, Prod.mk.injEq] at H
  obtain ⟨rfl, rfl, rfl⟩ := H
  obtain ⟨ASz4_0, cSz4_0, HGz4, hgz4, HSz4_0⟩ := HI0.out
  have hcz4_0 := cellS138_0 HGz4
  have hcz4_1 := cellS138_1 HGz4
  have hcz4_2 := cellS138_2 HGz4
  have hfz4_1 := blk_frozen HGz4 1
  have hfz4_2 := blk_frozen HGz4 2
  clear HGz4 hgz4
  obtain ⟨p104, q104⟩ : 0 ≤ (s0_1 : Int) ∧ s0_1 < (s0_0.length : Int) := ⟨dA, dA⟩
  obtain ⟨ad104, e104, hx104_0⟩ := Kd.at_int HSz4_0 s0_1 p104 q104
  cases e104
  have hn104_0 : ad104.block ≠ g := Nat.ne_of_lt (Nat.lt_of_lt_of_le (by have := World.block_lt_of_cell? _ _ hx104_0; first | rwa [add_block] at this | exact this) (IsS138.ge HI0.out))
  replace hx104_0 := pw_cell_below HB.out hx104_0
  replace hx104_0 := (cell_far (p := ⟨g, 2, none⟩) (by first | (rw [add_block]; exact hn104_0) | (show (Addr.add _ _).block ≠ _; rw [add_block]; exact hn104_0) | exact hn104_0) (.int .i64 (wrap64 ((wrap64 (s0_2 * 6364136223846793005)) + 1442695040888963407)))).trans hx104_0
  (try have hy104_0 := fun (n_ : Nat) => (show (((w.drewN n_).setCell ⟨g, 2, none⟩ (.int .i64 (wrap64 ((wrap64 (s0_2 * 6364136223846793005)) + 1442695040888963407))))).cell? _ = some _ from hx104_0))
  clear hn104_0
  obtain ⟨p104, q104⟩ := eT p104 q104
  go_enter Try.func126, Try.ntmps126
  go_wp2
  repeat (go_quiet (fail); try go_wp2)
  go_ret
  exact ⟨rA, by exact sI1380 HI0.out, by exact sB1 HB.out (IsS138.ge HI0.out), by exact sK0 HK.out⟩
 rw [if_neg c2] at H
 have c2b0 := decide_eq_false c2
 clear c2
 simp only [Option.some.injEq, Prod.mk.injEq] at H
 obtain ⟨rfl, rfl, rfl⟩ := H
 obtain ⟨ASz5_0, cSz5_0, HGz5, hgz5, HSz5_0⟩ := HI0.out
 have hcz5_0 := cellS138_0 HGz5
 have hcz5_1 := cellS138_1 HGz5
 have hcz5_2 := cellS138_2 HGz5
 have hfz5_1 := blk_frozen HGz5 1
 have hfz5_2 := blk_frozen HGz5 2
 clear HGz5 hgz5
 go_enter Try.func126, Try.ntmps126
 go_wp2
 repeat (go_quiet (fail); try go_wp2)
 go_ret
 exact ⟨rA, by exact sI1380 HI0.out, by exact sB1 HB.out (IsS138.ge HI0.out), by exact sK0 HK.out⟩

/-! ### spec_l1Below: function 84 -/
def spec_l1Below.f (s0_0 : List Int) (s0_1 : Int) (s0_2 : Int) (a1 : Int) : Option (Int × Int × Int) := if a1 ≤ 0 then (some (0, s0_1, s0_2)) else (if a1 ≤ 256 then ((spec_l1Byte.f s0_0 s0_1 s0_2).bind fun bt105 => (if a1 = 0 then (none) else (some (Int.tmod bt105.1 a1, bt105.2.1, bt105.2.2)))) else ((spec_l1Byte.f s0_0 s0_1 s0_2).bind fun bt108 => ((spec_l1Byte.f s0_0 bt108.2.1 bt108.2.2).bind fun bt111 => ((spec_l1Byte.f s0_0 bt111.2.1 bt111.2.2).bind fun bt114 => (if a1 = 0 then (none) else (some (Int.tmod (wrap64 ((wrap64 ((wrap64 (bt108.1 * 65536)) + (wrap64 (bt111.1 * 256)))) + bt114.1)) a1, bt114.2.1, bt114.2.2)))))))
set_option maxHeartbeats 8000000 in
set_option maxRecDepth 100000 in
theorem spec_l1Below.calls (g : Nat) (s0_0 : List Int) (s0_1 : Int) (s0_2 : Int) (a1 : Int) (r1 : Int) (r2 : Int) (r3 : Int) (w0 w : World) (hI : IsS138 w0 w g s0_0 s0_1 s0_2) (hB : Below w0.heap.size w0 w) (h : spec_l1Below.f s0_0 s0_1 s0_2 a1 = some (r1, r2, r3)) :
  Calls Try.prog 84 #[.pointer (some ⟨g, 0, none⟩), .int .i64 a1] w fun e w' => e = .returned (.int .i64 r1) ∧ IsS138 w0 w' g s0_0 r2 r3 ∧ Below w0.heap.size w0 w' ∧ KeepBut w w' g none := by
 have HI0 := Aside0.mk hI
 have HK := Aside0.mk (KeepBut.refl w g none)
 have HL := Aside0.mk hB.size
 clear hI
 have HW0 := Aside0.mk hB.size
 have HB := Aside0.mk hB
 clear hB
 have H : (if a1 ≤ 0 then (some (0, s0_1, s0_2)) else (if a1 ≤ 256 then ((spec_l1Byte.f s0_0 s0_1 s0_2).bind fun bt105 => (if a1 = 0 then (none) else (some (Int.tmod bt105.1 a1, bt105.2.1, bt105.2.2)))) else ((spec_l1Byte.f s0_0 s0_1 s0_2).bind fun bt108 => ((spec_l1Byte.f s0_0 bt108.2.1 bt108.2.2).bind fun bt111 => ((spec_l1Byte.f s0_0 bt111.2.1 bt111.2.2).bind fun bt114 => (if a1 = 0 then (none) else (some (Int.tmod (wrap64 ((wrap64 ((wrap64 (bt108.1 * 65536)) + (wrap64 (bt111.1 * 256)))) + bt114.1)) a1, bt114.2.1, bt114.2.2)))))))) = some (r1, r2, r3) := h
 clear h
 by_cases c3 : a1 ≤ 0
 ·
  rw [if_pos c3] at H
  have c3b0 := decide_eq_true c3
  clear c3
  simp only [Option.some.injEq, Prod.mk.injEq] at H
  obtain ⟨rfl, rfl, rfl⟩ := H
  go_enter Try.func84, Try.ntmps84
  go_wp2
  go_ret
  exact ⟨rA, by exact sI1380 HI0.out, by exact sB1 HB.out (IsS138.ge HI0.out), by exact sK0 HK.out⟩
 rw [if_neg c3] at H
 have c3b0 := decide_eq_false c3
 clear c3
 by_cases c4 : a1 ≤ 256
 ·
  rw [if_pos c4] at H
  have c4b0 := decide_eq_true c4
  clear c4
  obtain ⟨⟨t105, t106, t107⟩, A5, H⟩ := bindE H
  try dsimp only at H
  have c6 : ¬ (a1 = 0) := ifN' H
  replace H := ifT' H
  have c6b0 : (a1 == 0) = false := beq_eq_false_iff_ne.mpr c6
  have c6b1 : (a1 != 0) = true := bne_iff_ne.mpr c6
  simp only [Option.some.injEq, Prod.mk.injEq] at H
  obtain ⟨rfl, rfl, rfl⟩ := H
  go_enter Try.func84, Try.ntmps84
  go_wp2_with (first | ((with_reducible refine gate_callee (f := 126) rfl ?_); refine gL (some 13) Try.func126 #[.pointer (some ⟨g, 0, none⟩)] ?_; (with_reducible refine (spec_l1Byte.calls g s0_0 s0_1 s0_2 t105 t106 t107 w0 _ ?_ ?_ A5.out).mono ?_); exact sI1380 HI0.out; exact sB1 HB.out (IsS138.ge HI0.out); rintro e w7 ⟨rfl, hi, hb, hk⟩; refine ⟨_, rfl, ?_⟩; replace HK := Aside0.mk (KeepBut.trans (by exact sK0 HK.out) hk (.inl rfl)); replace HB := Aside0.mk (hb); replace HI0 := Aside0.mk (hi); (try clear hb); (try clear hk); (try clear hi)))
  go_ret
  exact ⟨rA, by exact sI1380 HI0.out, by exact sB1 HB.out (IsS138.ge HI0.out), by exact sK0 HK.out⟩
 rw [if_neg c4] at H
 have c4b0 := decide_eq_false c4
 clear c4
 obtain ⟨⟨t108, t109, t110⟩, A8, H⟩ := bindE H
 try dsimp only at H
 obtain ⟨⟨t111, t112, t113⟩, A9, H⟩ := bindE H
 try dsimp only at H
 obtain ⟨⟨t114, t115, t116⟩, A10, H⟩ := bindE H
 try dsimp only at H
 have c11 : ¬ (a1 = 0) := ifN' H
 replace H := ifT' H
 have c11b0 : (a1 == 0) = false := beq_eq_false_iff_ne.mpr c11
 have c11b1 : (a1 != 0) = true := bne_iff_ne.mpr c11
 simp only [Option.some.injEq, Prod.mk.injEq] at H
 obtain ⟨rfl, rfl, rfl⟩ := H
 go_enter Try.func84, Try.ntmps84
 go_wp2_with (first | ((with_reducible refine gate_callee (f := 126) rfl ?_); refine gL (some 17) Try.func126 #[.pointer (some ⟨g, 0, none⟩)] ?_; (with_reducible refine (spec_l1Byte.calls g s0_0 s0_1 s0_2 t108 t109 t110 w0 _ ?_ ?_ A8.out).mono ?_); exact sI1380 HI0.out; exact sB1 HB.out (IsS138.ge HI0.out); rintro e w12 ⟨rfl, hi, hb, hk⟩; refine ⟨_, rfl, ?_⟩; replace HK := Aside0.mk (KeepBut.trans (by exact sK0 HK.out) hk (.inl rfl)); replace HB := Aside0.mk (hb); replace HI0 := Aside0.mk (hi); (try clear hb); (try clear hk); (try clear hi)) | ((with_reducible refine gate_callee (f := 126) rfl ?_); refine gL (some 19) Try.func126 #[.pointer (some ⟨g, 0, none⟩)] ?_; (with_reducible refine (spec_l1Byte.calls g s0_0 t109 t110 t111 t112 t113 w0 _ ?_ ?_ A9.out).mono ?_); exact sI1380 HI0.out; exact sB1 HB.out (IsS138.ge HI0.out); rintro e w13 ⟨rfl, hi, hb, hk⟩; refine ⟨_, rfl, ?_⟩; replace HK := Aside0.mk (KeepBut.trans (by exact sK0 HK.out) hk (.inl rfl)); replace HB := Aside0.mk (hb); replace HI0 := Aside0.mk (hi); (try clear hb); (try clear hk); (try clear hi)) | ((with_reducible refine gate_callee (f := 126) rfl ?_); refine gL (some 21) Try.func126 #[.pointer (some ⟨g, 0, none⟩)] ?_; (with_reducible refine (spec_l1Byte.calls g s0_0 t112 t113 t114 t115 t116 w0 _ ?_ ?_ A10.out).mono ?_); exact sI1380 HI0.out; exact sB1 HB.out (IsS138.ge HI0.out); rintro e w14 ⟨rfl, hi, hb, hk⟩; refine ⟨_, rfl, ?_⟩; replace HK := Aside0.mk (KeepBut.trans (by exact sK0 HK.out) hk (.inl rfl)); replace HB := Aside0.mk (hb); replace HI0 := Aside0.mk (hi); (try clear hb); (try clear hk); (try clear hi)))
 go_ret
 exact ⟨rA, by exact sI1380 HI0.out, by exact sB1 HB.out (IsS138.ge HI0.out), by exact sK0 HK.out⟩

/-! ### spec_l1Int: function 94 -/
def spec_l1Int.f (s0_0 : List Int) (s0_1 : Int) (s0_2 : Int) (l1 : List Int) : Option (Int × Int × Int) := (spec_l1Below.f s0_0 s0_1 s0_2 (l1.length : Int)).bind fun bt117 => (if 0 ≤ bt117.1 then (if bt117.1 < (l1.length : Int) then (some (rd l1 bt117.1, bt117.2.1, bt117.2.2)) else (none)) else (none))
set_option maxHeartbeats 8000000 in
set_option maxRecDepth 100000 in
theorem spec_l1Int.calls (g : Nat) (s0_0 : List Int) (s0_1 : Int) (s0_2 : Int) (A1 : Option Addr) (c1 : Nat) (l1 : List Int) (r1 : Int) (r2 : Int) (r3 : Int) (w0 w : World) (hI : IsS138 w0 w g s0_0 s0_1 s0_2) (hB : Below w0.heap.size w0 w) (hr1 : Kd.C (Kd.int .i64) w A1 l1.length l1) (hc1 : l1.length ≤ c1) (hf1 : ∀ ad, A1 = some ad → 0 < l1.length → ad.block ≠ g) (h : spec_l1Int.f s0_0 s0_1 s0_2 l1 = some (r1, r2, r3)) :
  Calls Try.prog 94 #[.pointer (some ⟨g, 0, none⟩), .slice A1 l1.length c1] w fun e w' => e = .returned (.int .i64 r1) ∧ IsS138 w0 w' g s0_0 r2 r3 ∧ Below w0.heap.size w0 w' ∧ KeepBut w w' g none := by
 have HR1 := Aside0.mk hr1
 have HC1 := Aside0.mk hc1
 clear hr1 hc1
 have HI0 := Aside0.mk hI
 have HK := Aside0.mk (KeepBut.refl w g none)
 have HL := Aside0.mk hB.size
 clear hI
 have HW0 := Aside0.mk hB.size
 have HB := Aside0.mk hB
 clear hB
 have H : ((spec_l1Below.f s0_0 s0_1 s0_2 (l1.length : Int)).bind fun bt117 => (if 0 ≤ bt117.1 then (if bt117.1 < (l1.length : Int) then (some (rd l1 bt117.1, bt117.2.1, bt117.2.2)) else (none)) else (none))) = some (r1, r2, r3) := h
 clear h
 obtain ⟨⟨t117, t118, t119⟩, A3, H⟩ := bindE H
 try dsimp only at H
 have c4 : 0 ≤ t117 := ifN H
 replace H := ifT H
 have c4b0 := decide_eq_true c4
 clear c4
 have c5 : t117 < (l1.length : Int) := ifN H
 replace H := ifT H
 have c5b0 := decide_eq_true c5
 clear c5
 simp only [Option.some.injEq, Prod.mk.injEq] at H
 obtain ⟨rfl, rfl, rfl⟩ := H
 go_enter Try.func94, Try.ntmps94
 go_wp2_with (first | ((with_reducible refine gate_callee (f := 84) rfl ?_); refine gL (some 9) Try.func84 #[.pointer (some ⟨g, 0, none⟩), .int .i64 (l1.length : Int)] ?_; (with_reducible refine (spec_l1Below.calls g s0_0 s0_1 s0_2 (l1.length : Int) t117 t118 t119 w0 _ ?_ ?_ A3.out).mono ?_); exact sI1380 HI0.out; exact sB1 HB.out (IsS138.ge HI0.out); rintro e w6 ⟨rfl, hi, hb, hk⟩; refine ⟨_, rfl, ?_⟩; replace HK := Aside0.mk (KeepBut.trans (by exact sK0 HK.out) hk (.inl rfl)); replace HB := Aside0.mk (hb); replace HI0 := Aside0.mk (hi); (try clear hb); (try clear hk); (try clear hi); have p120 : 0 ≤ (t117 : Int) := dA; have q120 : t117 < (l1.length : Int) := dA; obtain ⟨ad120, e120, hx120_0⟩ := Kd.at_int HR1.out t117 p120 q120; cases e120; replace hx120_0 := keep_cell HK.out hx120_0 (by first | (rw [add_block]; exact hf1 _ rfl (by omega)) | exact hf1 _ rfl (by omega) | exact hf1 ad120 rfl (by omega)); replace p120 := eq_true p120; replace q120 := eq_true q120))
 go_ret
 exact ⟨rA, by exact sI1380 HI0.out, by exact sB1 HB.out (IsS138.ge HI0.out), by exact sK0 HK.out⟩

/-! ### spec_l4Draw: function 174 -/
def spec_l4Draw.f (s0_0 : List Int) (s0_1 : Int) (s0_2 : Int) (a1 : Int) : Option (Int × Int × Int × Int × Int × Int) := (spec_l1Below.f s0_0 s0_1 s0_2 3).bind fun bt122 => ((spec_l1Below.f s0_0 bt122.2.1 bt122.2.2 4).bind fun bt125 => (if (wrap64 (1 + bt122.1)) = 2 then (some (a1, wrap64 (1 + bt122.1), bt125.1, bt125.1, bt125.2.1, bt125.2.2)) else ((spec_l1Below.f s0_0 bt125.2.1 bt125.2.2 3).bind fun bt129 => (some (a1, wrap64 (1 + bt122.1), bt125.1, Int.tmod (wrap64 ((wrap64 (bt125.1 + 1)) + bt129.1)) 4, bt129.2.1, bt129.2.2)))))
def spec_l4Draw.T4 : Bool × List (List Nat × List Nat) := (true, [([], []), ([0], [0]), ([1], [1]), ([], []), ([3], [3]), ([2, 4], [2, 4]), ([5], [5]), ([0, 1, 2, 3, 4, 5, 6], []), ([7, 6, 4, 0, 1, 2, 3, 4, 5, 6], [6, 7])])
def spec_l4Draw.B4 : List Nat := [0, 1, 3, 0, 8, 31, 63, 127, 255]
theorem spec_l4Draw.tab4 : rtab .any (opsOf Try.f174 4) = spec_l4Draw.T4 := by kernel_rfl
theorem spec_l4Draw.bits4 : waitsOk spec_l4Draw.T4.2 spec_l4Draw.B4 = true := by kernel_rfl
theorem gen_world {P : Program} {ops : Array Oper} {rest : List Oper} {o : Oper} {a : Act} {Q : Exit → Act → World → Prop} {W : World} (F : World → Prop) (hF : F W) (h : ∀ W', F W' → wpList P ops Q (o :: rest) a W') : wpList P ops Q (o :: rest) a W := h W hF
set_option maxHeartbeats 8000000 in
set_option maxRecDepth 100000 in
theorem spec_l4Draw.calls (g : Nat) (s0_0 : List Int) (s0_1 : Int) (s0_2 : Int) (a1 : Int) (r1 : Int) (r2 : Int) (r3 : Int) (r4 : Int) (r5 : Int) (r6 : Int) (w0 w : World) (hI : IsS138 w0 w g s0_0 s0_1 s0_2) (hB : Below w0.heap.size w0 w) (h : spec_l4Draw.f s0_0 s0_1 s0_2 a1 = some (r1, r2, r3, r4, r5, r6)) :
  Calls Try.prog 174 #[.pointer (some ⟨g, 0, none⟩), .int .i64 a1] w fun e w' => e = .returned (.agg #[.int .i64 r1, .int .i64 r2, .int .i64 r3, .int .i64 r4]) ∧ IsS138 w0 w' g s0_0 r5 r6 ∧ Below w0.heap.size w0 w' ∧ KeepBut w w' g none := by
 have hu50 := Try.underlying50
 have HI0 := Aside0.mk hI
 have HK := Aside0.mk (KeepBut.refl w g none)
 have HL := Aside0.mk hB.size
 clear hI
 have HW0 := Aside0.mk hB.size
 have HB := Aside0.mk hB
 clear hB
 have H : ((spec_l1Below.f s0_0 s0_1 s0_2 3).bind fun bt122 => ((spec_l1Below.f s0_0 bt122.2.1 bt122.2.2 4).bind fun bt125 => (if (wrap64 (1 + bt122.1)) = 2 then (some (a1, wrap64 (1 + bt122.1), bt125.1, bt125.1, bt125.2.1, bt125.2.2)) else ((spec_l1Below.f s0_0 bt125.2.1 bt125.2.2 3).bind fun bt129 => (some (a1, wrap64 (1 + bt122.1), bt125.1, Int.tmod (wrap64 ((wrap64 (bt125.1 + 1)) + bt129.1)) 4, bt129.2.1, bt129.2.2)))))) = some (r1, r2, r3, r4, r5, r6) := h
 clear h
 obtain ⟨⟨t122, t123, t124⟩, A3, H⟩ := bindE H
 try dsimp only at H
 obtain ⟨⟨t125, t126, t127⟩, A4, H⟩ := bindE H
 try dsimp only at H
 by_cases c5 : (wrap64 (1 + t122)) = 2
 ·
  rw [if_pos c5] at H
  have c5b0 : ((wrap64 (1 + t122)) == 2) = true := beq_iff_eq.mpr c5
  have c5b1 : ((wrap64 (1 + t122)) != 2) = false := bne_eq_false_iff_eq.mpr c5
  clear c5
  simp only [Option.some.injEq, Prod.mk.injEq] at H
  obtain ⟨rfl, rfl, rfl, rfl, rfl, rfl⟩ := H
  go_enter Try.func174, Try.ntmps174
  have TK_ := Aside0.mk trivial
  go_wp2_with (first | ((with_reducible refine gate_dst (N := 4) rfl ?_); refine bE (N := 4) (cs := #[.int .i64 0, .int .i64 0, .int .i64 0, .int .i64 0]) (t := 50) ?_; intro gb121 hg w6 hbox hb; have n0_ := Aside0.mk (IsS138.below (by exact sI1380 HI0.out) hb); have n1_ := Aside0.mk (KeepBut.trans (by exact sK0 HK.out) (KeepBut.of_below hb g none) (.inl rfl)); have n2_ := Aside0.mk (below_step (by exact sB1 HB.out (IsS138.ge HI0.out)) hb); have n3_ := Aside0.mk (hbox); have n4_ := Aside0.mk ((by rw [hg]; exact (keep_size (w := w) (g := g) (row := none) (by exact sK0 HK.out)) : w.heap.size ≤ gb121)); have n5_ := Aside0.mk ((Nat.le_trans HW0.out (by rw [hg]; exact (keep_size (w := w) (g := g) (row := none) (by exact sK0 HK.out)) : w.heap.size ≤ gb121) : w0.heap.size ≤ gb121)); have n6_ := Aside0.mk ((by rw [hg]; exact Nat.ne_of_lt (IsS138.lt (show IsS138 w0 _ g s0_0 s0_1 s0_2 from by exact sI1380 HI0.out)) : g ≠ gb121)); have n7_ := Aside0.mk ((by rw [hg]; exact Nat.ne_of_gt (IsS138.lt (show IsS138 w0 _ g s0_0 s0_1 s0_2 from by exact sI1380 HI0.out)) : gb121 ≠ g)); clear HI0; clear HK; clear HB; have HI0 := n0_; have HK := n1_; have HB := n2_; have BK121 := n3_; have GW121 := n4_; have GE121 := n5_; have NB0_121 := n6_; have NB121_0 := n7_; clear n0_ n1_ n2_ n3_ n4_ n5_ n6_ n7_; clear hb hbox hg) | ((with_reducible refine gate_callee (f := 84) rfl ?_); refine gL (some 8) Try.func84 #[.pointer (some ⟨g, 0, none⟩), .int .i64 3] ?_; (with_reducible refine (spec_l1Below.calls g s0_0 s0_1 s0_2 3 t122 t123 t124 w0 _ ?_ ?_ A3.out).mono ?_); exact sI1381 HI0.out NB0_121.out; exact sB2 HB.out (IsS138.ge HI0.out) GE121.out; rintro e w7 ⟨rfl, hi, hb, hk⟩; refine ⟨_, rfl, ?_⟩; replace BK121 := Aside0.mk (KeepBut.blk hk (g' := gb121) (o := .cells #[.int .i64 0, .int .i64 0, .int .i64 0, .int .i64 0] 50 (0, 0)) (bK BK121) NB121_0.out (by simp)); replace HK := Aside0.mk (KeepBut.trans (by exact sK1 HK.out GW121.out) hk (.inl rfl)); replace HB := Aside0.mk (hb); replace HI0 := Aside0.mk (hi); (try clear hb); (try clear hk); (try clear hi)) | ((with_reducible refine gate_callee (f := 84) rfl ?_); refine gL (some 11) Try.func84 #[.pointer (some ⟨g, 0, none⟩), .int .i64 4] ?_; (with_reducible refine (spec_l1Below.calls g s0_0 t123 t124 4 t125 t126 t127 w0 _ ?_ ?_ A4.out).mono ?_); exact sI1381 HI0.out NB0_121.out; exact sB2 HB.out (IsS138.ge HI0.out) GE121.out; rintro e w8 ⟨rfl, hi, hb, hk⟩; refine ⟨_, rfl, ?_⟩; replace BK121 := Aside0.mk (KeepBut.blk hk (g' := gb121) (o := .cells #[.int .i64 0, .int .i64 0, .int .i64 0, .int .i64 0] 50 (0, 0)) (bK BK121) NB121_0.out (by simp)); replace HK := Aside0.mk (KeepBut.trans (by exact sK1 HK.out GW121.out) hk (.inl rfl)); replace HB := Aside0.mk (hb); replace HI0 := Aside0.mk (hi); (try clear hb); (try clear hk); (try clear hi)) | ((with_reducible refine gate_dst (N := 5) rfl ?_); refine bE (N := 5) (cs := #[.int .i64 0, .int .i64 0, .int .i64 0, .int .i64 0]) (t := 50) ?_; intro gb128 hg w9 hbox hb; have n0_ := Aside0.mk (IsS138.below (by exact sI1381 HI0.out NB0_121.out) hb); have n1_ := kb BK121 hb; have n2_ := Aside0.mk (KeepBut.trans (by exact sK1 HK.out GW121.out) (KeepBut.of_below hb g none) (.inl rfl)); have n3_ := Aside0.mk (below_step (by exact sB2 HB.out (IsS138.ge HI0.out) GE121.out) hb); have n4_ := Aside0.mk (hbox); have n5_ := Aside0.mk ((by rw [hg]; exact (keep_size (w := w) (g := g) (row := none) (by exact sK1 HK.out GW121.out)) : w.heap.size ≤ gb128)); have n6_ := Aside0.mk ((Nat.le_trans HW0.out (by rw [hg]; exact (keep_size (w := w) (g := g) (row := none) (by exact sK1 HK.out GW121.out)) : w.heap.size ≤ gb128) : w0.heap.size ≤ gb128)); have n7_ := nl BK121 hg; have n8_ := nr BK121 hg; have n9_ := Aside0.mk ((by rw [hg]; exact Nat.ne_of_lt (IsS138.lt (show IsS138 w0 _ g s0_0 t126 t127 from by exact sI1381 HI0.out NB0_121.out)) : g ≠ gb128)); have n10_ := Aside0.mk ((by rw [hg]; exact Nat.ne_of_gt (IsS138.lt (show IsS138 w0 _ g s0_0 t126 t127 from by exact sI1381 HI0.out NB0_121.out)) : gb128 ≠ g)); clear HI0; clear BK121; clear HK; clear HB; have HI0 := n0_; have BK121 := n1_; have HK := n2_; have HB := n3_; have BK128 := n4_; have GW128 := n5_; have GE128 := n6_; have NB121_128 := n7_; have NB128_121 := n8_; have NB0_128 := n9_; have NB128_0 := n10_; clear n0_ n1_ n2_ n3_ n4_ n5_ n6_ n7_ n8_ n9_ n10_; clear hb hbox hg; have hnb10 := NB128_121.out; have hnc10 := NB121_128.out; have hnb11 := NB128_0.out; have hnc11 := NB0_128.out; obtain ⟨_, _, _, _, _, _, _, _⟩ := blkc4 BK128; have hnb13 := NB121_0.out; have hnc13 := NB0_121.out; obtain ⟨_, _, _, _, _, _, _, _⟩ := blkc4 BK121) | ((with_reducible refine gate_dst (N := 27) rfl ?_); clear TK_; refine gen_world (fun W_ => (W_.heap[gb121]? = some (.cells #[.int .i64 0, .int .i64 0, .int .i64 0, .int .i64 0] 50 (0, 0))) ∧ (W_.heap[gb128]? = some (.cells #[.int .i64 a1, .int .i64 (wrap64 (1 + t122)), .int .i64 t125, .int .i64 t125] 50 (0, 0))) ∧ (IsS138 w0 W_ g s0_0 t126 t127) ∧ (KeepBut w W_ g none) ∧ (Below w0.heap.size w0 W_)) ⟨(kf BK121 NB121_128), (kp BK128), (by exact sI1382 HI0.out NB0_121.out NB0_128.out), (by exact sK2 HK.out GW121.out GW128.out), (by exact sB3 HB.out (IsS138.ge HI0.out) GE121.out GE128.out)⟩ ?_; rintro wz ⟨n0_, n1_, n2_, n3_, n4_⟩; (try clear BK121); (try clear BK128); (try clear HI0); (try clear HK); (try clear HB); have BK121 := Aside0.mk n0_; have BK128 := Aside0.mk n1_; have HI0 := Aside0.mk n2_; have HK := Aside0.mk n3_; have HB := Aside0.mk n4_; clear n0_ n1_ n2_ n3_ n4_; obtain ⟨hcy0, hcy1, hcy2, hcy3, hfy0, hfy1, hfy2, hfy3⟩ := blkc4 BK128; obtain ⟨hcx0, hcx1, hcx2, hcx3, hfx0, hfx1, hfx2, hfx3⟩ := blkc4 BK121))
  refine bodyPost_ret (results_cell_row rfl _ _ gb121 50 #[.int .i64 a1, .int .i64 (wrap64 (1 + t122)), .int .i64 t125, .int .i64 t125] (0, 0) _ rfl (kp BK121) Try.underlying50 rfl (by kernel_rfl)) rfl ?_
  exact ⟨rA, by exact sI1382 HI0.out NB0_121.out NB0_128.out, by exact sB3 HB.out (IsS138.ge HI0.out) GE121.out GE128.out, by exact sK2 HK.out GW121.out GW128.out⟩
 rw [if_neg c5] at H
 have c5b0 : ((wrap64 (1 + t122)) == 2) = false := beq_eq_false_iff_ne.mpr c5
 have c5b1 : ((wrap64 (1 + t122)) != 2) = true := bne_iff_ne.mpr c5
 obtain ⟨⟨t129, t130, t131⟩, A15, H⟩ := bindE H
 try dsimp only at H
 simp only [Option.some.injEq, Prod.mk.injEq] at H
 obtain ⟨rfl, rfl, rfl, rfl, rfl, rfl⟩ := H
 go_enter Try.func174, Try.ntmps174
 try go_wp2_with (first | ((with_reducible refine gate_dst (N := 4) rfl ?_); refine bE (N := 4) (cs := #[.int .i64 0, .int .i64 0, .int .i64 0, .int .i64 0]) (t := 50) ?_; intro gb121 hg w16 hbox hb; have n0_ := Aside0.mk (IsS138.below (by exact sI1380 HI0.out) hb); have n1_ := Aside0.mk (KeepBut.trans (by exact sK0 HK.out) (KeepBut.of_below hb g none) (.inl rfl)); have n2_ := Aside0.mk (below_step (by exact sB1 HB.out (IsS138.ge HI0.out)) hb); have n3_ := Aside0.mk (hbox); have n4_ := Aside0.mk ((by rw [hg]; exact (keep_size (w := w) (g := g) (row := none) (by exact sK0 HK.out)) : w.heap.size ≤ gb121)); have n5_ := Aside0.mk ((Nat.le_trans HW0.out (by rw [hg]; exact (keep_size (w := w) (g := g) (row := none) (by exact sK0 HK.out)) : w.heap.size ≤ gb121) : w0.heap.size ≤ gb121)); have n6_ := Aside0.mk ((by rw [hg]; exact Nat.ne_of_lt (IsS138.lt (show IsS138 w0 _ g s0_0 s0_1 s0_2 from by exact sI1380 HI0.out)) : g ≠ gb121)); have n7_ := Aside0.mk ((by rw [hg]; exact Nat.ne_of_gt (IsS138.lt (show IsS138 w0 _ g s0_0 s0_1 s0_2 from by exact sI1380 HI0.out)) : gb121 ≠ g)); clear HI0; clear HK; clear HB; have HI0 := n0_; have HK := n1_; have HB := n2_; have BK121 := n3_; have GW121 := n4_; have GE121 := n5_; have NB0_121 := n6_; have NB121_0 := n7_; clear n0_ n1_ n2_ n3_ n4_ n5_ n6_ n7_; clear hb hbox hg) | ((with_reducible refine gate_callee (f := 84) rfl ?_); refine gL (some 8) Try.func84 #[.pointer (some ⟨g, 0, none⟩), .int .i64 3] ?_; (with_reducible refine (spec_l1Below.calls g s0_0 s0_1 s0_2 3 t122 t123 t124 w0 _ ?_ ?_ A3.out).mono ?_); exact sI1381 HI0.out NB0_121.out; exact sB2 HB.out (IsS138.ge HI0.out) GE121.out; rintro e w17 ⟨rfl, hi, hb, hk⟩; refine ⟨_, rfl, ?_⟩; replace BK121 := Aside0.mk (KeepBut.blk hk (g' := gb121) (o := .cells #[.int .i64 0, .int .i64 0, .int .i64 0, .int .i64 0] 50 (0, 0)) (bK BK121) NB121_0.out (by simp)); replace HK := Aside0.mk (KeepBut.trans (by exact sK1 HK.out GW121.out) hk (.inl rfl)); replace HB := Aside0.mk (hb); replace HI0 := Aside0.mk (hi); (try clear hb); (try clear hk); (try clear hi)) | ((with_reducible refine gate_callee (f := 84) rfl ?_); refine gL (some 11) Try.func84 #[.pointer (some ⟨g, 0, none⟩), .int .i64 4] ?_; (with_reducible refine (spec_l1Below.calls g s0_0 t123 t124 4 t125 t126 t127 w0 _ ?_ ?_ A4.out).mono ?_); exact sI1381 HI0.out NB0_121.out; exact sB2 HB.out (IsS138.ge HI0.out) GE121.out; rintro e w18 ⟨rfl, hi, hb, hk⟩; refine ⟨_, rfl, ?_⟩; replace BK121 := Aside0.mk (KeepBut.blk hk (g' := gb121) (o := .cells #[.int .i64 0, .int .i64 0, .int .i64 0, .int .i64 0] 50 (0, 0)) (bK BK121) NB121_0.out (by simp)); replace HK := Aside0.mk (KeepBut.trans (by exact sK1 HK.out GW121.out) hk (.inl rfl)); replace HB := Aside0.mk (hb); replace HI0 := Aside0.mk (hi); (try clear hb); (try clear hk); (try clear hi)) | ((with_reducible refine gate_dst (N := 5) rfl ?_); refine bE (N := 5) (cs := #[.int .i64 0, .int .i64 0, .int .i64 0, .int .i64 0]) (t := 50) ?_; intro gb128 hg w19 hbox hb; have n0_ := Aside0.mk (IsS138.below (by exact sI1381 HI0.out NB0_121.out) hb); have n1_ := kb BK121 hb; have n2_ := Aside0.mk (KeepBut.trans (by exact sK1 HK.out GW121.out) (KeepBut.of_below hb g none) (.inl rfl)); have n3_ := Aside0.mk (below_step (by exact sB2 HB.out (IsS138.ge HI0.out) GE121.out) hb); have n4_ := Aside0.mk (hbox); have n5_ := Aside0.mk ((by rw [hg]; exact (keep_size (w := w) (g := g) (row := none) (by exact sK1 HK.out GW121.out)) : w.heap.size ≤ gb128)); have n6_ := Aside0.mk ((Nat.le_trans HW0.out (by rw [hg]; exact (keep_size (w := w) (g := g) (row := none) (by exact sK1 HK.out GW121.out)) : w.heap.size ≤ gb128) : w0.heap.size ≤ gb128)); have n7_ := nl BK121 hg; have n8_ := nr BK121 hg; have n9_ := Aside0.mk ((by rw [hg]; exact Nat.ne_of_lt (IsS138.lt (show IsS138 w0 _ g s0_0 t126 t127 from by exact sI1381 HI0.out NB0_121.out)) : g ≠ gb128)); have n10_ := Aside0.mk ((by rw [hg]; exact Nat.ne_of_gt (IsS138.lt (show IsS138 w0 _ g s0_0 t126 t127 from by exact sI1381 HI0.out NB0_121.out)) : gb128 ≠ g)); clear HI0; clear BK121; clear HK; clear HB; have HI0 := n0_; have BK121 := n1_; have HK := n2_; have HB := n3_; have BK128 := n4_; have GW128 := n5_; have GE128 := n6_; have NB121_128 := n7_; have NB128_121 := n8_; have NB0_128 := n9_; have NB128_0 := n10_; clear n0_ n1_ n2_ n3_ n4_ n5_ n6_ n7_ n8_ n9_ n10_; clear hb hbox hg; have hnb20 := NB128_121.out; have hnc20 := NB121_128.out; have hnb21 := NB128_0.out; have hnc21 := NB0_128.out; obtain ⟨_, _, _, _, _, _, _, _⟩ := blkc4 BK128))
 have n0_ : Aside0 ((((((w19.setCell ⟨gb128, 0, none⟩ (.int .i64 a1)).setCell ⟨gb128, 1, none⟩ (.int .i64 (wrap64 (1 + t122)))).setCell ⟨gb128, 2, none⟩ (.int .i64 t125)).setCell ⟨gb128, 3, none⟩ (.int .i64 0)).setCell ⟨gb128, 3, none⟩ (.int .i64 t125)).heap[gb121]? = some (.cells #[.int .i64 0, .int .i64 0, .int .i64 0, .int .i64 0] 50 (0, 0))) := ⟨kf BK121 NB121_128⟩
 have n1_ : Aside0 ((((((w19.setCell ⟨gb128, 0, none⟩ (.int .i64 a1)).setCell ⟨gb128, 1, none⟩ (.int .i64 (wrap64 (1 + t122)))).setCell ⟨gb128, 2, none⟩ (.int .i64 t125)).setCell ⟨gb128, 3, none⟩ (.int .i64 0)).setCell ⟨gb128, 3, none⟩ (.int .i64 t125)).heap[gb128]? = some (.cells #[.int .i64 a1, .int .i64 (wrap64 (1 + t122)), .int .i64 t125, .int .i64 t125] 50 (0, 0))) := ⟨kp BK128⟩
 have n2_ : Aside0 (IsS138 w0 (((((w19.setCell ⟨gb128, 0, none⟩ (.int .i64 a1)).setCell ⟨gb128, 1, none⟩ (.int .i64 (wrap64 (1 + t122)))).setCell ⟨gb128, 2, none⟩ (.int .i64 t125)).setCell ⟨gb128, 3, none⟩ (.int .i64 0)).setCell ⟨gb128, 3, none⟩ (.int .i64 t125)) g s0_0 t126 t127) := ⟨by exact sI1382 HI0.out NB0_121.out NB0_128.out⟩
 have n3_ : Aside0 (KeepBut w (((((w19.setCell ⟨gb128, 0, none⟩ (.int .i64 a1)).setCell ⟨gb128, 1, none⟩ (.int .i64 (wrap64 (1 + t122)))).setCell ⟨gb128, 2, none⟩ (.int .i64 t125)).setCell ⟨gb128, 3, none⟩ (.int .i64 0)).setCell ⟨gb128, 3, none⟩ (.int .i64 t125)) g none) := ⟨by exact sK2 HK.out GW121.out GW128.out⟩
 have n4_ : Aside0 (Below w0.heap.size w0 (((((w19.setCell ⟨gb128, 0, none⟩ (.int .i64 a1)).setCell ⟨gb128, 1, none⟩ (.int .i64 (wrap64 (1 + t122)))).setCell ⟨gb128, 2, none⟩ (.int .i64 t125)).setCell ⟨gb128, 3, none⟩ (.int .i64 0)).setCell ⟨gb128, 3, none⟩ (.int .i64 t125))) := ⟨by exact sB3 HB.out (IsS138.ge HI0.out) GE121.out GE128.out⟩
 (try clear BK121)
 (try clear BK128)
 (try clear HI0)
 (try clear HK)
 (try clear HB)
 generalize (((((w19.setCell ⟨gb128, 0, none⟩ (.int .i64 a1)).setCell ⟨gb128, 1, none⟩ (.int .i64 (wrap64 (1 + t122)))).setCell ⟨gb128, 2, none⟩ (.int .i64 t125)).setCell ⟨gb128, 3, none⟩ (.int .i64 0)).setCell ⟨gb128, 3, none⟩ (.int .i64 t125)) = w23 at n0_ n1_ n2_ n3_ n4_ ⊢
 have BK121 := n0_
 have BK128 := n1_
 have HI0 := n2_
 have HK := n3_
 have HB := n4_
 clear n0_ n1_ n2_ n3_ n4_
 replace BK121 := dk BK121
 replace BK128 := dk BK128
 replace HI0 := Aside0.mk (IsS138.drew HI0.out)
 replace HK := Aside0.mk (keep_drew HK.out)
 have HBo := HB
 replace HB := db HB
 refine sw (ds := [8]) 9 (mb 9 0) spec_l4Draw.tab4 spec_l4Draw.bits4 (h4 BK128) (fun hHeld HT_ HW_ => ?_)
 generalize w23.drew = w24 at BK121 BK128 HI0 HK HB hHeld ⊢
 refine pa 0 19 (mb 9 1) HT_ ?_
 refine pa 3 22 (mb 9 9) HT_ ?_
 refine ta4 1 20 (mb 9 11) HT_ HW_ hHeld ?_
 refine pa 2 21 (mb 9 15) HT_ ?_
 refine oa 4 23 (mb 9 31) HT_ (fun K hK => ?_)
 refine gA Try.func84 #[.pointer (some ⟨g, 0, none⟩), .int .i64 3] ?_
 with_reducible refine (spec_l1Below.calls g s0_0 t126 t127 3 t129 t130 t131 w0 _ ?side1 ?side2 A15.out).mono ?_
 (case side1 => exact sI1382 HI0.out NB0_121.out NB0_128.out)
 (case side2 => exact sB3 HB.out (IsS138.ge HI0.out) GE121.out GE128.out)
 rintro e w25 ⟨rfl, hi, hb, hk⟩
 refine ⟨_, rfl, ?_⟩
 replace BK121 := Aside0.mk (KeepBut.blk hk (g' := gb121) (o := .cells #[.int .i64 0, .int .i64 0, .int .i64 0, .int .i64 0] 50 (0, 0)) (bK BK121) NB121_0.out (by simp))
 replace BK128 := Aside0.mk (KeepBut.blk hk (g' := gb128) (o := .cells #[.int .i64 a1, .int .i64 (wrap64 (1 + t122)), .int .i64 t125, .int .i64 t125] 50 (0, 0)) (bK BK128) NB128_0.out (by simp))
 replace HK := Aside0.mk (KeepBut.trans (by exact sK2 HK.out GW121.out GW128.out) hk (.inl rfl))
 replace HB := Aside0.mk (hb)
 replace HI0 := Aside0.mk (hi)
 (try clear hb)
 (try clear hb2)
 (try clear hk)
 (try clear hi)
 refine hK.out _ _ (cn4 BK128) (fun hHeld => ?_)
 clear hK K
 refine nB ?_
 refine pa 5 24 (mb 9 63) HT_ ?_
 refine pa 6 25 (mb 9 127) HT_ ?_
 refine pa 7 26 (mb 9 255) HT_ ?_
 refine last_ (i := 8) (N := none) (mb 9 511) rfl rfl (one_of HT_.out (by kernel_rfl)) (by decide) (fun K hK => ?_)
 have hs26 : w25.cell? ⟨gb128, 3, none⟩ = some (.int .i64 t125) := bC BK128 3
 have hfs26 := blk_frozen BK128.out 3
 have hns26_0 := NB121_128.out
 have hms26_0 := NB128_121.out
 refine skip_ (w1 := ?_) (by rfl) rfl ?_ ?_
 rotate_left
 ·
  go_simp
  rfl
 refine hK.out _ _ ?_
 clear hK K
 refine eA HT_ ?_
 obtain ⟨_, _, _, _, _, _, _, _⟩ := blkc4 BK128
 have hnb28 := NB121_0.out
 have hnc28 := NB0_121.out
 obtain ⟨_, _, _, _, _, _, _, _⟩ := blkc4 BK121
 try go_wp2
 refine bodyPost_ret (results_cell_row rfl _ _ gb121 50 #[.int .i64 a1, .int .i64 (wrap64 (1 + t122)), .int .i64 t125, .int .i64 (Int.tmod (wrap64 ((wrap64 (t125 + 1)) + t129)) 4)] (0, 0) _ rfl (kP BK121 NB121_128) Try.underlying50 rfl (by kernel_rfl)) rfl ?_
 exact ⟨rA, by exact sI1382 HI0.out NB0_121.out NB0_128.out, by exact sB3 HB.out (IsS138.ge HI0.out) GE121.out GE128.out, by exact sK2 HK.out GW121.out GW128.out⟩

/-! ### spec_l5Draw: function 150 -/
def spec_l5Draw.l0 : Nat → List (S50) → Int → List Int → Int → Int → Option ((List (S50)) × Int × Int)
 | 0, _, _, _, _, _ => none
 | k + 1, x3, x4, x1000, x1001, x1002 => (spec_l1Below.f x1000 x1001 x1002 6).bind fun bt135 => (if x4 ≤ (wrap64 (2 + bt135.1)) then ((spec_l4Draw.f x1000 bt135.2.1 bt135.2.2 x4).bind fun bt138 => (if x3.length < 4398046511104 then (spec_l5Draw.l0 k (x3 ++ [(⟨bt138.1, bt138.2.1, bt138.2.2.1, bt138.2.2.2.1⟩ : S50)]) (wrap64 (x4 + 1)) x1000 bt138.2.2.2.2.1 bt138.2.2.2.2.2) else (none))) else (some (x3, bt135.2.1, bt135.2.2)))
def spec_l5Draw.f (k : Nat) (s0_0 : List Int) (s0_1 : Int) (s0_2 : Int) : Option ((List (S50)) × Int × Int) := spec_l5Draw.l0 k (([] : List (S50))) 1 s0_0 s0_1 s0_2
theorem spec_l5Draw.mono_l : ∀ k, (∀ y0 y1 y2 y3 y4, LeO (spec_l5Draw.l0 k y0 y1 y2 y3 y4) (spec_l5Draw.l0 (k + 1) y0 y1 y2 y3 y4))
 | 0 => fun _ _ _ _ _ r h => by simp [spec_l5Draw.l0] at h
 | k + 1 => by
  have ih0 := spec_l5Draw.mono_l k
  ·
   intro y0 y1 y2 y3 y4
   unfold spec_l5Draw.l0
   exact mz1 ih0
theorem spec_l5Draw.mono : ∀ a0 a1 a2 k, LeO (spec_l5Draw.f k a0 a1 a2) (spec_l5Draw.f (k + 1) a0 a1 a2) := by
 intro a0 a1 a2 k
 have ih0 := spec_l5Draw.mono_l k
 unfold spec_l5Draw.f
 exact mz1 ih0
set_option maxHeartbeats 8000000 in
set_option maxRecDepth 100000 in
theorem spec_l5Draw.calls (k : Nat) (g : Nat) (s0_0 : List Int) (s0_1 : Int) (s0_2 : Int) (r1 : List (S50)) (r2 : Int) (r3 : Int) (w0 w : World) (hI : IsS138 w0 w g s0_0 s0_1 s0_2) (hB : Below w0.heap.size w0 w) (h : spec_l5Draw.f k s0_0 s0_1 s0_2 = some (r1, r2, r3)) :
  Calls Try.prog 150 #[.pointer (some ⟨g, 0, none⟩)] w fun e w' => ∃ v0_ : Value, e = .returned (v0_) ∧ Kd.R k50 50 w' w.heap.size (fun _ => True) v0_ r1 ∧ IsS138 w0 w' g s0_0 r2 r3 ∧ Below w0.heap.size w0 w' ∧ KeepBut w w' g none := by
 have HI0 := Aside0.mk hI
 have HK := Aside0.mk (KeepBut.refl w g none)
 have HL := Aside0.mk hB.size
 clear hI
 have HW0 := Aside0.mk hB.size
 have HB := Aside0.mk hB
 clear hB
 have H : (spec_l5Draw.l0 k (([] : List (S50))) 1 s0_0 s0_1 s0_2) = some (r1, r2, r3) := h
 clear h
 obtain ⟨y132, hy132⟩ : ∃ y_ : List (S50), y_ = (([] : List (S50))) := ⟨_, rfl⟩
 replace H : (spec_l5Draw.l0 k y132 1 s0_0 s0_1 s0_2) = some (r1, r2, r3) := rH H hy132
 have Ny132 := Aside0.mk hy132
 clear hy132
 have H' := Aside0.mk H
 clear H
 go_enter Try.func150, Try.ntmps150
 go_wp2_with (first | ((with_reducible refine gate_dst (N := 5) rfl ?_); refine Kd.R_lit k50 _ 50 ?hg (N := 5) ?hd (xs := ([] : List (S50))) (inner := []) (ok := fun _ => True) (okp := fun _ => True) ?hr ?hp (fun _ hk => hk) trivial (Below.refl _ _) (Nat.le_refl _) (by simp) ?_; (case hd => rfl); (case hg => rfl); (case hr => first | (go_simp; done) | (go_simp; rfl)); (case hp => exact (Reps.none _ _)); intro v133 w2 ho3 hb hg_ hnew_; clear hg_ hnew_; (first | rw [← Ny132.out] at ho3 | (simp only [Int.reduceToNat] at ho3; rw [← Ny132.out] at ho3)); have HO134 := Aside0.mk (Kd.R_lower ho3 (keep_size (w := w) (g := g) (row := none) (by exact sK0 HK.out))); replace HK := Aside0.mk (KeepBut.trans (by exact sK0 HK.out) (KeepBut.of_below hb g none) (.inl rfl)); replace HB := Aside0.mk (below_step (by exact sB1 HB.out (IsS138.ge HI0.out)) hb); replace HI0 := Aside0.mk (IsS138.below (by exact sI1380 HI0.out) hb); clear hb ho3))
 go_loopg [3, 4] k (fun kq v3 v4 w' => ∃ (x3_1 : List (S50)) (x4_1 : Int) (x1001_1 : Int) (x1002_1 : Int), v4 = .int .i64 x4_1 ∧ Aside0 (spec_l5Draw.l0 kq x3_1 x4_1 s0_0 x1001_1 x1002_1 = some (r1, r2, r3)) ∧ Aside0 (kq ≤ k) ∧ Aside0 (Kd.R k50 50 w' w.heap.size (fun _ => True) v3 x3_1) ∧ Aside0 (IsS138 w0 w' g s0_0 x1001_1 x1002_1) ∧ Aside0 (KeepBut w w' g none) ∧ Aside0 (Below w0.heap.size w0 w'))
 case atStart => exact ⟨(y132), (1), (s0_1), (s0_2), rS, H', ⟨Nat.le_refl _⟩, ⟨rK HO134⟩, ⟨by exact sI1380 HI0.out⟩, ⟨by exact sK0 HK.out⟩, ⟨by exact sB1 HB.out (IsS138.ge HI0.out)⟩⟩
 case round =>
  clear H'
  obtain ⟨x3_1, x4_1, x1001_1, x1002_1, rfl, HA, HK1, HO_3, HI0, HK, HB⟩ := hrel
  cases gk with
  | zero => exact absurd HA.out (by simp [spec_l5Draw.l0])
  | succ k1 =>
   have H := HA.out
   clear HA
   simp only [spec_l5Draw.l0] at H
   obtain ⟨⟨t135, t136, t137⟩, A4, H⟩ := bindE H
   try dsimp only at H
   by_cases c5 : x4_1 ≤ (wrap64 (2 + t135))
   ·
    rw [if_pos c5] at H
    have c5b0 := decide_eq_true c5
    clear c5
    obtain ⟨⟨t138, t139, t140, t141, t142, t143⟩, A6, H⟩ := bindE H
    try dsimp only at H
    have c7 : x3_1.length < 4398046511104 := ifN H
    replace H := ifT H
    have LMc7 := Aside0.mk c7
    clear c7
    obtain ⟨y144, hy144⟩ : ∃ y_ : List (S50), y_ = (x3_1 ++ [(⟨t138, t139, t140, t141⟩ : S50)]) := ⟨_, rfl⟩
    replace H : (spec_l5Draw.l0 k1 y144 (wrap64 (x4_1 + 1)) s0_0 t142 t143) = some (r1, r2, r3) := rH H hy144
    have Ny144 := Aside0.mk hy144
    clear hy144
    have H' := Aside0.mk H
    clear H
    go_wp2_with (first | ((with_reducible refine gate_callee (f := 84) rfl ?_); refine gL (some 8) Try.func84 #[.pointer (some ⟨g, 0, none⟩), .int .i64 6] ?_; (with_reducible refine (spec_l1Below.calls g s0_0 x1001_1 x1002_1 6 t135 t136 t137 w0 _ ?_ ?_ A4.out).mono ?_); exact sI1380 HI0.out; exact sB1 HB.out (IsS138.ge HI0.out); rintro e w8 ⟨rfl, hi, hb, hk⟩; refine ⟨_, rfl, ?_⟩; replace HO_3 := Aside0.mk (Kd.R_mono (Kd.R_keep (IsS138.apart (show IsS138 w0 _ g s0_0 x1001_1 x1002_1 from by exact sI1380 HI0.out) (rK HO_3) (by decide)) hk (fun _ h => h.2)) (fun _ h => h.1)); replace HK := Aside0.mk (KeepBut.trans (by exact sK0 HK.out) hk (.inl rfl)); replace HB := Aside0.mk (hb); replace HI0 := Aside0.mk (hi); (try clear hb); (try clear hk); (try clear hi)) | ((with_reducible refine gate_callee (f := 174) rfl ?_); refine gL (some 16) Try.func174 #[.pointer (some ⟨g, 0, none⟩), .int .i64 x4_1] ?_; (with_reducible refine (spec_l4Draw.calls g s0_0 t136 t137 x4_1 t138 t139 t140 t141 t142 t143 w0 _ ?_ ?_ A6.out).mono ?_); exact sI1380 HI0.out; exact sB1 HB.out (IsS138.ge HI0.out); rintro e w9 ⟨rfl, hi, hb, hk⟩; refine ⟨_, rfl, ?_⟩; replace HO_3 := Aside0.mk (Kd.R_mono (Kd.R_keep (IsS138.apart (show IsS138 w0 _ g s0_0 t136 t137 from by exact sI1380 HI0.out) (rK HO_3) (by decide)) hk (fun _ h => h.2)) (fun _ h => h.1)); replace HK := Aside0.mk (KeepBut.trans (by exact sK0 HK.out) hk (.inl rfl)); replace HB := Aside0.mk (hb); replace HI0 := Aside0.mk (hi); (try clear hb); (try clear hk); (try clear hi)) | ((with_reducible refine gate_builtin (b := .append) (xs := #[.tmp 13, .tmp 17]) rfl ?_); at_builtin; refine Kd.R_append k50 w.heap.size rfl (.tmp 13) (.tmp 17) 24 50 (.agg #[(.int .i64 0), (.int .i64 0), (.int .i64 0), (.int .i64 0)]) 32 rfl Try.underlying24 info50 rfl (by decide) (by omega) u3 x3_1 (⟨t138, t139, t140, t141⟩ : S50) [.int .i64 t138, .int .i64 t139, .int .i64 t140, .int .i64 t141] (fun _ => True) (fun _ => False) rfl rfl ?aP (fun _ hk => hk.elim) ?aF ?aO (Below.refl _ _) ?aS ?aL ?_; (case aP => exact k50_mkM _ _ _ (⟨t138, t139, t140, t141⟩ : S50)); (case aF => exact (fun _ _ => trivial)); (case aO => exact (rK HO_3)); (case aS => exact (keep_size (w := w) (g := g) (row := none) (by exact sK0 HK.out))); (case aL => have := LMc7.out; omega); intro v145 w10 ho hb hg hat; rw [← Ny144.out] at ho; have n0_ := Aside0.mk (IsS138.grown (by exact sI1380 HI0.out) hg (IsS138.own_ne HI0.out HO_3.out (by decide))); have n1_ := Aside0.mk (below_weaken (by exact sB1 HB.out (IsS138.ge HI0.out)) HL.out hb); have n2_ := Aside0.mk (KeepBut.trans (by exact sK0 HK.out) (KeepBut.of_grown hg g) (Kd.R_base2 HO_3.out)); have n3_ := Aside0.mk (ho); clear HI0; clear HB; clear HK; clear HO_3; have HI0 := n0_; have HB := n1_; have HK := n2_; have HO146 := n3_; clear n0_ n1_ n2_ n3_; clear ho hb hg hat))
    go_roundg k1
    case measure => have := HK1.out; omega
    case rel => exact ⟨(y144), (wrap64 (x4_1 + 1)), (t142), (t143), rS, H', ⟨by have := HK1.out; omega⟩, ⟨rK HO146⟩, ⟨by exact sI1380 HI0.out⟩, ⟨by exact sK0 HK.out⟩, ⟨by exact sB1 HB.out (IsS138.ge HI0.out)⟩⟩
   rw [if_neg c5] at H
   have c5b0 := decide_eq_false c5
   clear c5
   simp only [Option.some.injEq, Prod.mk.injEq] at H
   obtain ⟨rfl, rfl, rfl⟩ := H
   go_wp2_with (first | ((with_reducible refine gate_callee (f := 84) rfl ?_); refine gL (some 8) Try.func84 #[.pointer (some ⟨g, 0, none⟩), .int .i64 6] ?_; (with_reducible refine (spec_l1Below.calls g s0_0 x1001_1 x1002_1 6 t135 t136 t137 w0 _ ?_ ?_ A4.out).mono ?_); exact sI1380 HI0.out; exact sB1 HB.out (IsS138.ge HI0.out); rintro e w11 ⟨rfl, hi, hb, hk⟩; refine ⟨_, rfl, ?_⟩; replace HO_3 := Aside0.mk (Kd.R_mono (Kd.R_keep (IsS138.apart (show IsS138 w0 _ g s0_0 x1001_1 x1002_1 from by exact sI1380 HI0.out) (rK HO_3) (by decide)) hk (fun _ h => h.2)) (fun _ h => h.1)); replace HK := Aside0.mk (KeepBut.trans (by exact sK0 HK.out) hk (.inl rfl)); replace HB := Aside0.mk (hb); replace HI0 := Aside0.mk (hi); (try clear hb); (try clear hk); (try clear hi)))
   go_ret
   exact ⟨_, rA, rK HO_3, by exact sI1380 HI0.out, by exact sB1 HB.out (IsS138.ge HI0.out), by exact sK0 HK.out⟩

/-! ### spec_l1In: function 111 -/
def spec_l1In.f (a0 : Int) (a1 : Int) (a2 : Int) : Option (Bool) := if a0 ≥ a1 then (some (decide (a0 ≤ a2))) else (some false)
set_option maxHeartbeats 8000000 in
set_option maxRecDepth 100000 in
theorem spec_l1In.calls (a0 : Int) (a1 : Int) (a2 : Int) (r : Bool) (w : World) (h : spec_l1In.f a0 a1 a2 = some r) :
  Calls Try.prog 111 #[.int .i64 a0, .int .i64 a1, .int .i64 a2] w fun e w' => e = .returned (.bool r) ∧ Drawn0 w w' := by
 have H : (if a0 ≥ a1 then (some (decide (a0 ≤ a2))) else (some false)) = some r := h
 clear h
 by_cases c4 : a0 ≥ a1
 ·
  rw [if_pos c4] at H
  have c4b0 := decide_eq_true c4
  clear c4
  obtain rfl := Option.some.inj H
  go_enter Try.func111, Try.ntmps111
  go_wp2
  go_ret
  exact ⟨rS, dD⟩
 rw [if_neg c4] at H
 have c4b0 := decide_eq_false c4
 clear c4
 obtain rfl := Option.some.inj H
 go_enter Try.func111, Try.ntmps111
 go_wp2
 go_ret
 exact ⟨rS, dD⟩

/-! ### spec_IsPath: function 91 -/
def spec_IsPath.f (a0_0 : Int) (a0_1 : Int) (a0_2 : Int) (a0_3 : Int) : Option (Bool) := (spec_l1In.f a0_0 1 20).bind fun t148 => (if t148 = true then ((spec_l1In.f a0_1 1 3).bind fun t149 => (if t149 = true then ((spec_l1In.f a0_2 0 3).bind fun t150 => (if t150 = true then ((spec_l1In.f a0_3 0 3).bind fun t151 => (if t151 = true then (some ((a0_2 == a0_3) == (a0_1 == 2))) else (some false))) else (some false))) else (some false))) else (some false))
set_option maxHeartbeats 8000000 in
set_option maxRecDepth 100000 in
theorem spec_IsPath.calls (a0_0 : Int) (a0_1 : Int) (a0_2 : Int) (a0_3 : Int) (r : Bool) (w : World) (h : spec_IsPath.f a0_0 a0_1 a0_2 a0_3 = some r) :
  Calls Try.prog 91 #[.agg #[.int .i64 a0_0, .int .i64 a0_1, .int .i64 a0_2, .int .i64 a0_3]] w fun e w' => e = .returned (.bool r) ∧ Below w.heap.size w w' := by
 have hu50 := Try.underlying50
 have HB := Aside0.mk (Below.refl w.heap.size w)
 have H : ((spec_l1In.f a0_0 1 20).bind fun t148 => (if t148 = true then ((spec_l1In.f a0_1 1 3).bind fun t149 => (if t149 = true then ((spec_l1In.f a0_2 0 3).bind fun t150 => (if t150 = true then ((spec_l1In.f a0_3 0 3).bind fun t151 => (if t151 = true then (some ((a0_2 == a0_3) == (a0_1 == 2))) else (some false))) else (some false))) else (some false))) else (some false))) = some r := h
 clear h
 obtain ⟨t148, A2, H⟩ := bindE H
 try dsimp only at H
 by_cases c3 : t148 = true
 ·
  subst c3
  have H1 : ((spec_l1In.f a0_1 1 3).bind fun t149 => (if t149 = true then ((spec_l1In.f a0_2 0 3).bind fun t150 => (if t150 = true then ((spec_l1In.f a0_3 0 3).bind fun t151 => (if t151 = true then (some ((a0_2 == a0_3) == (a0_1 == 2))) else (some false))) else (some false))) else (some false))) = some r := by rw [if_pos rfl] at H; exact H
  clear H
  have H := H1
  clear H1
  obtain ⟨t149, A4, H⟩ := bindE H
  try dsimp only at H
  by_cases c5 : t149 = true
  ·
   subst c5
   have H1 : ((spec_l1In.f a0_2 0 3).bind fun t150 => (if t150 = true then ((spec_l1In.f a0_3 0 3).bind fun t151 => (if t151 = true then (some ((a0_2 == a0_3) == (a0_1 == 2))) else (some false))) else (some false))) = some r := by rw [if_pos rfl] at H; exact H
   clear H
   have H := H1
   clear H1
   obtain ⟨t150, A6, H⟩ := bindE H
   try dsimp only at H
   by_cases c7 : t150 = true
   ·
    subst c7
    have H1 : ((spec_l1In.f a0_3 0 3).bind fun t151 => (if t151 = true then (some ((a0_2 == a0_3) == (a0_1 == 2))) else (some false))) = some r := by rw [if_pos rfl] at H; exact H
    clear H
    have H := H1
    clear H1
    obtain ⟨t151, A8, H⟩ := bindE H
    try dsimp only at H
    by_cases c9 : t151 = true
    ·
     subst c9
     have H1 : (some ((a0_2 == a0_3) == (a0_1 == 2))) = some r := by rw [if_pos rfl] at H; exact H
     clear H
     have H := H1
     clear H1
     obtain rfl := Option.some.inj H
     go_enter Try.func91, Try.ntmps91
     go_wp2_with (first | ((with_reducible refine gate_dst (N := 1) rfl ?_); refine bE (N := 1) (cs := #[.int .i64 a0_0, .int .i64 a0_1, .int .i64 a0_2, .int .i64 a0_3]) (t := 50) ?_; intro gb147 hg w10 hbox hb; have BK147 := Aside0.mk (hbox); have GW147 := gw w hg; have GE147 := gw w hg; replace HB := bs HB hb; clear hb hbox hg; obtain ⟨_, _, _, _, _, _, _, _⟩ := blkc4 BK147) | ((with_reducible refine gate_callee (f := 111) rfl ?_); refine gL (some 5) Try.func111 #[.int .i64 a0_0, .int .i64 1, .int .i64 20] ?_; (with_reducible refine (spec_l1In.calls a0_0 1 20 true _ A2.out).mono ?_); rintro e w' ⟨rfl, ⟨nd, rfl⟩⟩; refine ⟨_, rfl, ?_⟩) | (go_at_call 111; (with_reducible refine (spec_l1In.calls a0_1 1 3 true _ A4.out).mono ?_); rintro e w' ⟨rfl, ⟨nd, rfl⟩⟩) | (go_at_call 111; (with_reducible refine (spec_l1In.calls a0_2 0 3 true _ A6.out).mono ?_); rintro e w' ⟨rfl, ⟨nd, rfl⟩⟩) | (go_at_call 111; (with_reducible refine (spec_l1In.calls a0_3 0 3 true _ A8.out).mono ?_); rintro e w' ⟨rfl, ⟨nd, rfl⟩⟩))
     go_ret
     exact ⟨rA, bG⟩
    replace c9 := Bool.eq_false_iff.mpr c9
    subst c9
    have H1 : (some false) = some r := by rw [if_neg (show ¬ (false = true) by decide)] at H; exact H
    clear H
    have H := H1
    clear H1
    obtain rfl := Option.some.inj H
    go_enter Try.func91, Try.ntmps91
    go_wp2_with (first | ((with_reducible refine gate_dst (N := 1) rfl ?_); refine bE (N := 1) (cs := #[.int .i64 a0_0, .int .i64 a0_1, .int .i64 a0_2, .int .i64 a0_3]) (t := 50) ?_; intro gb147 hg w12 hbox hb; have BK147 := Aside0.mk (hbox); have GW147 := gw w hg; have GE147 := gw w hg; replace HB := bs HB hb; clear hb hbox hg; obtain ⟨_, _, _, _, _, _, _, _⟩ := blkc4 BK147) | ((with_reducible refine gate_callee (f := 111) rfl ?_); refine gL (some 5) Try.func111 #[.int .i64 a0_0, .int .i64 1, .int .i64 20] ?_; (with_reducible refine (spec_l1In.calls a0_0 1 20 true _ A2.out).mono ?_); rintro e w' ⟨rfl, ⟨nd, rfl⟩⟩; refine ⟨_, rfl, ?_⟩) | (go_at_call 111; (with_reducible refine (spec_l1In.calls a0_1 1 3 true _ A4.out).mono ?_); rintro e w' ⟨rfl, ⟨nd, rfl⟩⟩) | (go_at_call 111; (with_reducible refine (spec_l1In.calls a0_2 0 3 true _ A6.out).mono ?_); rintro e w' ⟨rfl, ⟨nd, rfl⟩⟩) | (go_at_call 111; (with_reducible refine (spec_l1In.calls a0_3 0 3 false _ A8.out).mono ?_); rintro e w' ⟨rfl, ⟨nd, rfl⟩⟩))
    go_ret
    exact ⟨rA, bG⟩
   replace c7 := Bool.eq_false_iff.mpr c7
   subst c7
   have H1 : (some false) = some r := by rw [if_neg (show ¬ (false = true) by decide)] at H; exact H
   clear H
   have H := H1
   clear H1
   obtain rfl := Option.some.inj H
   go_enter Try.func91, Try.ntmps91
   go_wp2_with (first | ((with_reducible refine gate_dst (N := 1) rfl ?_); refine bE (N := 1) (cs := #[.int .i64 a0_0, .int .i64 a0_1, .int .i64 a0_2, .int .i64 a0_3]) (t := 50) ?_; intro gb147 hg w14 hbox hb; have BK147 := Aside0.mk (hbox); have GW147 := gw w hg; have GE147 := gw w hg; replace HB := bs HB hb; clear hb hbox hg; obtain ⟨_, _, _, _, _, _, _, _⟩ := blkc4 BK147) | ((with_reducible refine gate_callee (f := 111) rfl ?_); refine gL (some 5) Try.func111 #[.int .i64 a0_0, .int .i64 1, .int .i64 20] ?_; (with_reducible refine (spec_l1In.calls a0_0 1 20 true _ A2.out).mono ?_); rintro e w' ⟨rfl, ⟨nd, rfl⟩⟩; refine ⟨_, rfl, ?_⟩) | (go_at_call 111; (with_reducible refine (spec_l1In.calls a0_1 1 3 true _ A4.out).mono ?_); rintro e w' ⟨rfl, ⟨nd, rfl⟩⟩) | (go_at_call 111; (with_reducible refine (spec_l1In.calls a0_2 0 3 false _ A6.out).mono ?_); rintro e w' ⟨rfl, ⟨nd, rfl⟩⟩))
   go_ret
   exact ⟨rA, bG⟩
  replace c5 := Bool.eq_false_iff.mpr c5
  subst c5
  have H1 : (some false) = some r := by rw [if_neg (show ¬ (false = true) by decide)] at H; exact H
  clear H
  have H := H1
  clear H1
  obtain rfl := Option.some.inj H
  go_enter Try.func91, Try.ntmps91
  go_wp2_with (first | ((with_reducible refine gate_dst (N := 1) rfl ?_); refine bE (N := 1) (cs := #[.int .i64 a0_0, .int .i64 a0_1, .int .i64 a0_2, .int .i64 a0_3]) (t := 50) ?_; intro gb147 hg w16 hbox hb; have BK147 := Aside0.mk (hbox); have GW147 := gw w hg; have GE147 := gw w hg; replace HB := bs HB hb; clear hb hbox hg; obtain ⟨_, _, _, _, _, _, _, _⟩ := blkc4 BK147) | ((with_reducible refine gate_callee (f := 111) rfl ?_); refine gL (some 5) Try.func111 #[.int .i64 a0_0, .int .i64 1, .int .i64 20] ?_; (with_reducible refine (spec_l1In.calls a0_0 1 20 true _ A2.out).mono ?_); rintro e w' ⟨rfl, ⟨nd, rfl⟩⟩; refine ⟨_, rfl, ?_⟩) | (go_at_call 111; (with_reducible refine (spec_l1In.calls a0_1 1 3 false _ A4.out).mono ?_); rintro e w' ⟨rfl, ⟨nd, rfl⟩⟩))
  go_ret
  exact ⟨rA, bG⟩
 replace c3 := Bool.eq_false_iff.mpr c3
 subst c3
 have H1 : (some false) = some r := by rw [if_neg (show ¬ (false = true) by decide)] at H; exact H
 clear H
 have H := H1
 clear H1
 obtain rfl := Option.some.inj H
 go_enter Try.func91, Try.ntmps91
 go_wp2_with (first | ((with_reducible refine gate_dst (N := 1) rfl ?_); refine bE (N := 1) (cs := #[.int .i64 a0_0, .int .i64 a0_1, .int .i64 a0_2, .int .i64 a0_3]) (t := 50) ?_; intro gb147 hg w18 hbox hb; have BK147 := Aside0.mk (hbox); have GW147 := gw w hg; have GE147 := gw w hg; replace HB := bs HB hb; clear hb hbox hg; obtain ⟨_, _, _, _, _, _, _, _⟩ := blkc4 BK147) | ((with_reducible refine gate_callee (f := 111) rfl ?_); refine gL (some 5) Try.func111 #[.int .i64 a0_0, .int .i64 1, .int .i64 20] ?_; (with_reducible refine (spec_l1In.calls a0_0 1 20 false _ A2.out).mono ?_); rintro e w' ⟨rfl, ⟨nd, rfl⟩⟩; refine ⟨_, rfl, ?_⟩))
 go_ret
 exact ⟨rA, bG⟩

/-! ### spec_ArePaths: function 33 -/
def spec_ArePaths.l0 : Nat → List (S50) → Int → Option (Bool)
 | 0, _, _ => none
 | k + 1, x0, x3 => if x3 < (x0.length : Int) then (if 0 ≤ x3 then ((spec_IsPath.f ((rd_T50 x0 x3).f0) ((rd_T50 x0 x3).f1) ((rd_T50 x0 x3).f2) ((rd_T50 x0 x3).f3)).bind fun t153 => (if t153 = true then (if x3 > 0 then (if 0 ≤ (wrap64 (x3 - 1)) then (if (wrap64 (x3 - 1)) < (x0.length : Int) then (if ((rd_T50 x0 (wrap64 (x3 - 1))).f0) ≥ ((rd_T50 x0 x3).f0) then (some false) else (spec_ArePaths.l0 k x0 (wrap64 (x3 + 1)))) else (none)) else (none)) else (spec_ArePaths.l0 k x0 (wrap64 (x3 + 1)))) else (some false))) else (none)) else (some (decide ((x0.length : Int) ≤ 12)))
def spec_ArePaths.f (k : Nat) (l0 : List (S50)) : Option (Bool) := spec_ArePaths.l0 k l0 0
theorem spec_ArePaths.mono_l : ∀ k, (∀ y0 y1, LeO (spec_ArePaths.l0 k y0 y1) (spec_ArePaths.l0 (k + 1) y0 y1))
 | 0 => fun _ _ r h => by simp [spec_ArePaths.l0] at h
 | k + 1 => by
  have ih0 := spec_ArePaths.mono_l k
  ·
   intro y0 y1
   unfold spec_ArePaths.l0
   exact mz1 ih0
theorem spec_ArePaths.mono : ∀ a0 k, LeO (spec_ArePaths.f k a0) (spec_ArePaths.f (k + 1) a0) := by
 intro a0 k
 have ih0 := spec_ArePaths.mono_l k
 unfold spec_ArePaths.f
 exact mz1 ih0
def spec_ArePaths.T4 : Bool × List (List Nat × List Nat) := (true, [([], []), ([], []), ([0, 1], [0, 1]), ([2], [2]), ([3], [3]), ([4], [4]), ([5, 4], [5]), ([6], [6]), ([7, 6], [6, 7]), ([8, 6, 6], [6, 8]), ([9], [9]), ([9], [9]), ([11, 9], [9, 11]), ([10, 12, 9], [9, 10, 12]), ([13, 9], [9, 13]), ([14, 9], [9, 14]), ([9], [9]), ([9], [9]), ([16, 17, 9], [9, 16, 17]), ([18, 9], [9, 18]), ([19, 9], [9, 19]), ([15, 20, 9], [9, 15, 20]), ([9, 21, 6], [6, 9, 21]), ([6, 22], [6, 22])])
def spec_ArePaths.B4 : List Nat := [0, 0, 3, 7, 15, 31, 63, 127, 255, 511, 1023, 1023, 3071, 8191, 16383, 32767, 1023, 1023, 197631, 459775, 984063, 2097151, 4194303, 8388607]
theorem spec_ArePaths.tab4 : rtab .any (opsOf Try.f33 4) = spec_ArePaths.T4 := by kernel_rfl
theorem spec_ArePaths.bits4 : waitsOk spec_ArePaths.T4.2 spec_ArePaths.B4 = true := by kernel_rfl
set_option maxHeartbeats 8000000 in
set_option maxRecDepth 100000 in
theorem spec_ArePaths.calls (k : Nat) (A0 : Option Addr) (c0 : Nat) (l0 : List (S50)) (r : Bool) (w : World) (hr0 : Kd.C k50 w A0 l0.length l0) (hc0 : l0.length ≤ c0) (h : spec_ArePaths.f k l0 = some r) :
  Calls Try.prog 33 #[.slice A0 l0.length c0] w fun e w' => e = .returned (.bool r) ∧ Below w.heap.size w w' := by
 have hu50 := Try.underlying50
 have HR0 := Aside0.mk hr0
 have HC0 := Aside0.mk hc0
 clear hr0 hc0
 have HB := Aside0.mk (Below.refl w.heap.size w)
 have H : (spec_ArePaths.l0 k l0 0) = some r := h
 clear h
 have H' := Aside0.mk H
 clear H
 go_enter Try.func33, Try.ntmps33
 go_wp2
 go_loopg [3] k (fun kq v3 w' => ∃ (x3_1 : Int), v3 = .int .i64 x3_1 ∧ Aside0 (spec_ArePaths.l0 kq l0 x3_1 = some r) ∧ Aside0 (kq ≤ k) ∧ Aside0 (Below w.heap.size w w'))
 case atStart => exact ⟨(0), rS, H', ⟨Nat.le_refl _⟩, ⟨bA⟩⟩
 case round =>
  clear H'
  obtain ⟨x3_1, rfl, HA, HK1, HB⟩ := hrel
  cases gk with
  | zero => exact absurd HA.out (by simp [spec_ArePaths.l0])
  | succ k1 =>
   have H := HA.out
   clear HA
   simp only [spec_ArePaths.l0] at H
   by_cases c2 : x3_1 < (l0.length : Int)
   ·
    rw [if_pos c2] at H
    have c2b0 := decide_eq_true c2
    clear c2
    have c3 : 0 ≤ x3_1 := ifN H
    replace H := ifT H
    have c3b0 := decide_eq_true c3
    clear c3
    obtain ⟨t153, A4, H⟩ := bindE H
    try dsimp only at H
    by_cases c5 : t153 = true
    ·
     subst c5
     have H1 : (if x3_1 > 0 then (if 0 ≤ (wrap64 (x3_1 - 1)) then (if (wrap64 (x3_1 - 1)) < (l0.length : Int) then (if ((rd_T50 l0 (wrap64 (x3_1 - 1))).f0) ≥ ((rd_T50 l0 x3_1).f0) then (some false) else (spec_ArePaths.l0 k1 l0 (wrap64 (x3_1 + 1)))) else (none)) else (none)) else (spec_ArePaths.l0 k1 l0 (wrap64 (x3_1 + 1)))) = some r := by rw [if_pos rfl] at H; exact H
     clear H
     have H := H1
     clear H1
     by_cases c6 : x3_1 > 0
     ·
      rw [if_pos c6] at H
      have c6b0 := decide_eq_true c6
      clear c6
      obtain ⟨ji7, hji7⟩ : ∃ j_ : Int, (wrap64 (x3_1 - 1)) = j_ := ⟨_, rfl⟩
      replace H : (if 0 ≤ (ji7) then (if (ji7) < (l0.length : Int) then (if ((rd_T50 l0 (ji7)).f0) ≥ ((rd_T50 l0 x3_1).f0) then (some false) else (spec_ArePaths.l0 k1 l0 (wrap64 (x3_1 + 1)))) else (none)) else (none)) = some r := by first | (rw [hji7] at H; exact H) | (simp only [hji7] at H ⊢; exact H)
      (try rw [hji7] at A4)
      have hji7w : (IntKind.i64.wrap (x3_1 - 1)) = ji7 := (i64_w _).trans hji7
      have c8 : 0 ≤ (ji7) := ifN H
      replace H := ifT H
      have c8b0 := decide_eq_true c8
      clear c8
      have c9 : (ji7) < (l0.length : Int) := ifN H
      replace H := ifT H
      have c9b0 := decide_eq_true c9
      clear c9
      by_cases c10 : ((rd_T50 l0 (ji7)).f0) ≥ ((rd_T50 l0 x3_1).f0)
      ·
       rw [if_pos c10] at H
       have c10b0 := decide_eq_true c10
       clear c10
       obtain rfl := Option.some.inj H
       try go_wp2
       have HBo := HB
       replace HB := db HB
       obtain ⟨p152, q152⟩ : 0 ≤ (x3_1 : Int) ∧ x3_1 < (l0.length : Int) := ⟨dA, dA⟩
       obtain ⟨ad152, e152, hx152_0, hx152_1, hx152_2, hx152_3⟩ := at_T50 HR0.out x3_1 p152 q152
       have hw152_3 := hx152_3
       have hw152_2 := hx152_2
       have hw152_1 := hx152_1
       have hw152_0 := hx152_0
       cases e152
       replace hx152_0 := hC HB hx152_0
       replace hx152_1 := hC HB hx152_1
       replace hx152_2 := hC HB hx152_2
       replace hx152_3 := hC HB hx152_3
       obtain ⟨p152, q152⟩ := eT p152 q152
       obtain ⟨p154, q154⟩ : 0 ≤ ((ji7) : Int) ∧ (ji7) < (l0.length : Int) := ⟨dA, dA⟩
       obtain ⟨ad154, e154, hx154_0, hx154_1, hx154_2, hx154_3⟩ := at_T50 HR0.out (ji7) p154 q154
       have hw154_3 := hx154_3
       have hw154_2 := hx154_2
       have hw154_1 := hx154_1
       have hw154_0 := hx154_0
       obtain rfl : ad152 = ad154 := (by injection e154)
       replace hx154_0 := hC HB hx154_0
       replace hx154_1 := hC HB hx154_1
       replace hx154_2 := hC HB hx154_2
       replace hx154_3 := hC HB hx154_3
       obtain ⟨p154, q154⟩ := eT p154 q154
       obtain ⟨p155, q155⟩ : 0 ≤ (x3_1 : Int) ∧ x3_1 < (l0.length : Int) := ⟨dA, dA⟩
       obtain ⟨ad155, e155, hx155_0, hx155_1, hx155_2, hx155_3⟩ := at_T50 HR0.out x3_1 p155 q155
       have hw155_3 := hx155_3
       have hw155_2 := hx155_2
       have hw155_1 := hx155_1
       have hw155_0 := hx155_0
       obtain rfl : ad152 = ad155 := (by injection e155)
       replace hx155_0 := hC HB hx155_0
       replace hx155_1 := hC HB hx155_1
       replace hx155_2 := hC HB hx155_2
       replace hx155_3 := hC HB hx155_3
       obtain ⟨p155, q155⟩ := eT p155 q155
       refine sw (ds := []) 24 (mb 24 0) spec_ArePaths.tab4 spec_ArePaths.bits4 (h1c (hC HB hw152_0) (h1c (hC HB hw152_1) (h1c (hC HB hw152_2) (h1c (hC HB hw152_3) (h1c (hC HB hw154_0) (h1c (hC HB hw154_1) (h1c (hC HB hw154_2) (h1c (hC HB hw154_3) (h1c (hC HB hw155_0) (h1c (hC HB hw155_1) (h1c (hC HB hw155_2) (h1 (hC HB hw155_3))))))))))))) (fun hHeld HT_ HW_ => ?_)
       generalize wr.drew = w11 at HB hx152_0 hx152_1 hx152_2 hx152_3 hx154_0 hx154_1 hx154_2 hx154_3 hx155_0 hx155_1 hx155_2 hx155_3 hHeld ⊢
       refine pa 0 10 (mb 24 1) HT_ ?_
       refine pa 1 11 (mb 24 3) HT_ ?_
       refine pa 2 12 (mb 24 7) HT_ ?_
       refine ta12 3 13 (mb 24 15) HT_ HW_ hHeld ?_
       refine oa 4 14 (mb 24 31) HT_ (fun K hK => ?_)
       refine gA Try.func91 #[.agg #[.int .i64 ((rd_T50 l0 x3_1).f0), .int .i64 ((rd_T50 l0 x3_1).f1), .int .i64 ((rd_T50 l0 x3_1).f2), .int .i64 ((rd_T50 l0 x3_1).f3)]] ?_
       with_reducible refine (spec_IsPath.calls ((rd_T50 l0 x3_1).f0) ((rd_T50 l0 x3_1).f1) ((rd_T50 l0 x3_1).f2) ((rd_T50 l0 x3_1).f3) true _ A4.out).mono ?_
       rintro e w12 ⟨rfl, hb⟩
       refine ⟨_, rfl, ?_⟩
       replace HB := bs HB hb
       (try clear hb)
       (try clear hb2)
       (try clear hk)
       (try clear hi)
       refine hK.out _ _ ⟨(hC HB hw152_0), (hC HB hw152_1), (hC HB hw152_2), (hC HB hw152_3), (hC HB hw154_0), (hC HB hw154_1), (hC HB hw154_2), (hC HB hw154_3), (hC HB hw155_0), (hC HB hw155_1), (hC HB hw155_2), (hC HB hw155_3)⟩ (fun hHeld => ?_)
       clear hK K
       refine nB ?_
       refine pa 5 15 (mb 24 63) HT_ ?_
       refine pa 6 16 (mb 24 127) HT_ ?_
       refine pa 7 17 (mb 24 255) HT_ ?_
       refine pa 8 18 (mb 24 511) HT_ ?_
       refine pa 9 19 (mb 24 1023) HT_ ?_
       refine pa 10 20 (mb 24 2047) HT_ ?_
       refine pa 11 21 (mb 24 4095) HT_ ?_
       refine pa 12 22 (mb 24 8191) HT_ ?_
       refine pa 13 23 (mb 24 16383) HT_ ?_
       refine pa 14 24 (mb 24 32767) HT_ ?_
       refine pa 16 26 (mb 24 98303) HT_ ?_
       refine pa 17 27 (mb 24 229375) HT_ ?_
       refine pa 18 28 (mb 24 491519) HT_ ?_
       refine pa 19 29 (mb 24 1015807) HT_ ?_
       refine ta12 15 25 (mb 24 1048575) HT_ HW_ hHeld ?_
       refine ta12 20 30 (mb 24 2097151) HT_ HW_ hHeld ?_
       refine pa 21 31 (mb 24 4194303) HT_ ?_
       refine pa 22 32 (mb 24 8388607) HT_ ?_
       refine pa 23 33 (mb 24 16777215) HT_ ?_
       refine eA HT_ ?_
       try go_wp2
       go_ret
       exact ⟨by first | rfl | (simp [errW_none, errW_some] <;> rfl) | (simp only [← hji7]; first | rfl | (simp [errW_none, errW_some] <;> rfl)) | (simp [*, errW_none, errW_some] <;> rfl), bA⟩
      rw [if_neg c10] at H
      have c10b0 := decide_eq_false c10
      clear c10
      have H' := Aside0.mk H
      clear H
      try go_wp2
      have HBo := HB
      replace HB := db HB
      obtain ⟨p152, q152⟩ : 0 ≤ (x3_1 : Int) ∧ x3_1 < (l0.length : Int) := ⟨dA, dA⟩
      obtain ⟨ad152, e152, hx152_0, hx152_1, hx152_2, hx152_3⟩ := at_T50 HR0.out x3_1 p152 q152
      have hw152_3 := hx152_3
      have hw152_2 := hx152_2
      have hw152_1 := hx152_1
      have hw152_0 := hx152_0
      cases e152
      replace hx152_0 := hC HB hx152_0
      replace hx152_1 := hC HB hx152_1
      replace hx152_2 := hC HB hx152_2
      replace hx152_3 := hC HB hx152_3
      obtain ⟨p152, q152⟩ := eT p152 q152
      obtain ⟨p154, q154⟩ : 0 ≤ ((ji7) : Int) ∧ (ji7) < (l0.length : Int) := ⟨dA, dA⟩
      obtain ⟨ad154, e154, hx154_0, hx154_1, hx154_2, hx154_3⟩ := at_T50 HR0.out (ji7) p154 q154
      have hw154_3 := hx154_3
      have hw154_2 := hx154_2
      have hw154_1 := hx154_1
      have hw154_0 := hx154_0
      obtain rfl : ad152 = ad154 := (by injection e154)
      replace hx154_0 := hC HB hx154_0
      replace hx154_1 := hC HB hx154_1
      replace hx154_2 := hC HB hx154_2
      replace hx154_3 := hC HB hx154_3
      obtain ⟨p154, q154⟩ := eT p154 q154
      obtain ⟨p155, q155⟩ : 0 ≤ (x3_1 : Int) ∧ x3_1 < (l0.length : Int) := ⟨dA, dA⟩
      obtain ⟨ad155, e155, hx155_0, hx155_1, hx155_2, hx155_3⟩ := at_T50 HR0.out x3_1 p155 q155
      have hw155_3 := hx155_3
      have hw155_2 := hx155_2
      have hw155_1 := hx155_1
      have hw155_0 := hx155_0
      obtain rfl : ad152 = ad155 := (by injection e155)
      replace hx155_0 := hC HB hx155_0
      replace hx155_1 := hC HB hx155_1
      replace hx155_2 := hC HB hx155_2
      replace hx155_3 := hC HB hx155_3
      obtain ⟨p155, q155⟩ := eT p155 q155
      refine sw (ds := []) 24 (mb 24 0) spec_ArePaths.tab4 spec_ArePaths.bits4 (h1c (hC HB hw152_0) (h1c (hC HB hw152_1) (h1c (hC HB hw152_2) (h1c (hC HB hw152_3) (h1c (hC HB hw154_0) (h1c (hC HB hw154_1) (h1c (hC HB hw154_2) (h1c (hC HB hw154_3) (h1c (hC HB hw155_0) (h1c (hC HB hw155_1) (h1c (hC HB hw155_2) (h1 (hC HB hw155_3))))))))))))) (fun hHeld HT_ HW_ => ?_)
      generalize wr.drew = w13 at HB hx152_0 hx152_1 hx152_2 hx152_3 hx154_0 hx154_1 hx154_2 hx154_3 hx155_0 hx155_1 hx155_2 hx155_3 hHeld ⊢
      refine pa 0 10 (mb 24 1) HT_ ?_
      refine pa 1 11 (mb 24 3) HT_ ?_
      refine pa 2 12 (mb 24 7) HT_ ?_
      refine ta12 3 13 (mb 24 15) HT_ HW_ hHeld ?_
      refine oa 4 14 (mb 24 31) HT_ (fun K hK => ?_)
      refine gA Try.func91 #[.agg #[.int .i64 ((rd_T50 l0 x3_1).f0), .int .i64 ((rd_T50 l0 x3_1).f1), .int .i64 ((rd_T50 l0 x3_1).f2), .int .i64 ((rd_T50 l0 x3_1).f3)]] ?_
      with_reducible refine (spec_IsPath.calls ((rd_T50 l0 x3_1).f0) ((rd_T50 l0 x3_1).f1) ((rd_T50 l0 x3_1).f2) ((rd_T50 l0 x3_1).f3) true _ A4.out).mono ?_
      rintro e w14 ⟨rfl, hb⟩
      refine ⟨_, rfl, ?_⟩
      replace HB := bs HB hb
      (try clear hb)
      (try clear hb2)
      (try clear hk)
      (try clear hi)
      refine hK.out _ _ ⟨(hC HB hw152_0), (hC HB hw152_1), (hC HB hw152_2), (hC HB hw152_3), (hC HB hw154_0), (hC HB hw154_1), (hC HB hw154_2), (hC HB hw154_3), (hC HB hw155_0), (hC HB hw155_1), (hC HB hw155_2), (hC HB hw155_3)⟩ (fun hHeld => ?_)
      clear hK K
      refine nB ?_
      refine pa 5 15 (mb 24 63) HT_ ?_
      refine pa 6 16 (mb 24 127) HT_ ?_
      refine pa 7 17 (mb 24 255) HT_ ?_
      refine pa 8 18 (mb 24 511) HT_ ?_
      refine pa 9 19 (mb 24 1023) HT_ ?_
      refine pa 10 20 (mb 24 2047) HT_ ?_
      refine pa 11 21 (mb 24 4095) HT_ ?_
      refine pa 12 22 (mb 24 8191) HT_ ?_
      refine pa 13 23 (mb 24 16383) HT_ ?_
      refine pa 14 24 (mb 24 32767) HT_ ?_
      refine pa 16 26 (mb 24 98303) HT_ ?_
      refine pa 17 27 (mb 24 229375) HT_ ?_
      refine pa 18 28 (mb 24 491519) HT_ ?_
      refine pa 19 29 (mb 24 1015807) HT_ ?_
      refine ta12 15 25 (mb 24 1048575) HT_ HW_ hHeld ?_
      refine ta12 20 30 (mb 24 2097151) HT_ HW_ hHeld ?_
      refine pa 21 31 (mb 24 4194303) HT_ ?_
      refine pa 22 32 (mb 24 8388607) HT_ ?_
      refine pa 23 33 (mb 24 16777215) HT_ ?_
      refine eA HT_ ?_
      try go_wp2
      go_roundg k1
      case measure => have := HK1.out; omega
      case rel => exact ⟨(wrap64 (x3_1 + 1)), rS, H', ⟨by have := HK1.out; omega⟩, ⟨bA⟩⟩
     rw [if_neg c6] at H
     have c6b0 := decide_eq_false c6
     clear c6
     have H' := Aside0.mk H
     clear H
     try go_wp2
     have HBo := HB
     replace HB := db HB
     obtain ⟨p152, q152⟩ : 0 ≤ (x3_1 : Int) ∧ x3_1 < (l0.length : Int) := ⟨dA, dA⟩
     obtain ⟨ad152, e152, hx152_0, hx152_1, hx152_2, hx152_3⟩ := at_T50 HR0.out x3_1 p152 q152
     have hw152_3 := hx152_3
     have hw152_2 := hx152_2
     have hw152_1 := hx152_1
     have hw152_0 := hx152_0
     cases e152
     replace hx152_0 := hC HB hx152_0
     replace hx152_1 := hC HB hx152_1
     replace hx152_2 := hC HB hx152_2
     replace hx152_3 := hC HB hx152_3
     obtain ⟨p152, q152⟩ := eT p152 q152
     refine sw (ds := []) 24 (mb 24 0) spec_ArePaths.tab4 spec_ArePaths.bits4 (h1c (hC HB hw152_0) (h1c (hC HB hw152_1) (h1c (hC HB hw152_2) (h1 (hC HB hw152_3))))) (fun hHeld HT_ HW_ => ?_)
     generalize wr.drew = w15 at HB hx152_0 hx152_1 hx152_2 hx152_3 hHeld ⊢
     refine pa 0 10 (mb 24 1) HT_ ?_
     refine pa 1 11 (mb 24 3) HT_ ?_
     refine pa 2 12 (mb 24 7) HT_ ?_
     refine ta4 3 13 (mb 24 15) HT_ HW_ hHeld ?_
     refine oa 4 14 (mb 24 31) HT_ (fun K hK => ?_)
     refine gA Try.func91 #[.agg #[.int .i64 ((rd_T50 l0 x3_1).f0), .int .i64 ((rd_T50 l0 x3_1).f1), .int .i64 ((rd_T50 l0 x3_1).f2), .int .i64 ((rd_T50 l0 x3_1).f3)]] ?_
     with_reducible refine (spec_IsPath.calls ((rd_T50 l0 x3_1).f0) ((rd_T50 l0 x3_1).f1) ((rd_T50 l0 x3_1).f2) ((rd_T50 l0 x3_1).f3) true _ A4.out).mono ?_
     rintro e w16 ⟨rfl, hb⟩
     refine ⟨_, rfl, ?_⟩
     replace HB := bs HB hb
     (try clear hb)
     (try clear hb2)
     (try clear hk)
     (try clear hi)
     refine hK.out _ _ ⟨(hC HB hw152_0), (hC HB hw152_1), (hC HB hw152_2), (hC HB hw152_3)⟩ (fun hHeld => ?_)
     clear hK K
     refine nB ?_
     refine pa 5 15 (mb 24 63) HT_ ?_
     refine pa 6 16 (mb 24 127) HT_ ?_
     refine pa 7 17 (mb 24 255) HT_ ?_
     refine pa 8 18 (mb 24 511) HT_ ?_
     refine pa 9 19 (mb 24 1023) HT_ ?_
     refine pu 10 20 (mb 24 2047) HT_ ?_
     refine pu 11 21 (mb 24 4095) HT_ ?_
     refine pu 12 22 (mb 24 8191) HT_ ?_
     refine pu 13 23 (mb 24 16383) HT_ ?_
     refine pu 14 24 (mb 24 32767) HT_ ?_
     refine pu 15 25 (mb 24 65535) HT_ ?_
     refine pu 16 26 (mb 24 131071) HT_ ?_
     refine pu 17 27 (mb 24 262143) HT_ ?_
     refine pu 18 28 (mb 24 524287) HT_ ?_
     refine pu 19 29 (mb 24 1048575) HT_ ?_
     refine pu 20 30 (mb 24 2097151) HT_ ?_
     refine pu 21 31 (mb 24 4194303) HT_ ?_
     refine pa 22 32 (mb 24 8388607) HT_ ?_
     refine pa 23 33 (mb 24 16777215) HT_ ?_
     refine eA HT_ ?_
     try go_wp2
     go_roundg k1
     case measure => have := HK1.out; omega
     case rel => exact ⟨(wrap64 (x3_1 + 1)), rS, H', ⟨by have := HK1.out; omega⟩, ⟨bA⟩⟩
    replace c5 := Bool.eq_false_iff.mpr c5
    subst c5
    have H1 : (some false) = some r := by rw [if_neg (show ¬ (false = true) by decide)] at H; exact H
    clear H
    have H := H1
    clear H1
    obtain rfl := Option.some.inj H
    try go_wp2
    have HBo := HB
    replace HB := db HB
    obtain ⟨p152, q152⟩ : 0 ≤ (x3_1 : Int) ∧ x3_1 < (l0.length : Int) := ⟨dA, dA⟩
    obtain ⟨ad152, e152, hx152_0, hx152_1, hx152_2, hx152_3⟩ := at_T50 HR0.out x3_1 p152 q152
    have hw152_3 := hx152_3
    have hw152_2 := hx152_2
    have hw152_1 := hx152_1
    have hw152_0 := hx152_0
    cases e152
    replace hx152_0 := hC HB hx152_0
    replace hx152_1 := hC HB hx152_1
    replace hx152_2 := hC HB hx152_2
    replace hx152_3 := hC HB hx152_3
    obtain ⟨p152, q152⟩ := eT p152 q152
    refine sw (ds := []) 24 (mb 24 0) spec_ArePaths.tab4 spec_ArePaths.bits4 (h1c (hC HB hw152_0) (h1c (hC HB hw152_1) (h1c (hC HB hw152_2) (h1 (hC HB hw152_3))))) (fun hHeld HT_ HW_ => ?_)
    generalize wr.drew = w17 at HB hx152_0 hx152_1 hx152_2 hx152_3 hHeld ⊢
    refine pa 0 10 (mb 24 1) HT_ ?_
    refine pa 1 11 (mb 24 3) HT_ ?_
    refine pa 2 12 (mb 24 7) HT_ ?_
    refine ta4 3 13 (mb 24 15) HT_ HW_ hHeld ?_
    refine oa 4 14 (mb 24 31) HT_ (fun K hK => ?_)
    refine gA Try.func91 #[.agg #[.int .i64 ((rd_T50 l0 x3_1).f0), .int .i64 ((rd_T50 l0 x3_1).f1), .int .i64 ((rd_T50 l0 x3_1).f2), .int .i64 ((rd_T50 l0 x3_1).f3)]] ?_
    with_reducible refine (spec_IsPath.calls ((rd_T50 l0 x3_1).f0) ((rd_T50 l0 x3_1).f1) ((rd_T50 l0 x3_1).f2) ((rd_T50 l0 x3_1).f3) false _ A4.out).mono ?_
    rintro e w18 ⟨rfl, hb⟩
    refine ⟨_, rfl, ?_⟩
    replace HB := bs HB hb
    (try clear hb)
    (try clear hb2)
    (try clear hk)
    (try clear hi)
    refine hK.out _ _ ⟨(hC HB hw152_0), (hC HB hw152_1), (hC HB hw152_2), (hC HB hw152_3)⟩ (fun hHeld => ?_)
    clear hK K
    refine nB ?_
    refine pa 5 15 (mb 24 63) HT_ ?_
    refine pa 6 16 (mb 24 127) HT_ ?_
    refine pu 7 17 (mb 24 255) HT_ ?_
    refine pu 8 18 (mb 24 511) HT_ ?_
    refine pu 9 19 (mb 24 1023) HT_ ?_
    refine pu 10 20 (mb 24 2047) HT_ ?_
    refine pu 11 21 (mb 24 4095) HT_ ?_
    refine pu 12 22 (mb 24 8191) HT_ ?_
    refine pu 13 23 (mb 24 16383) HT_ ?_
    refine pu 14 24 (mb 24 32767) HT_ ?_
    refine pu 15 25 (mb 24 65535) HT_ ?_
    refine pu 16 26 (mb 24 131071) HT_ ?_
    refine pu 17 27 (mb 24 262143) HT_ ?_
    refine pu 18 28 (mb 24 524287) HT_ ?_
    refine pu 19 29 (mb 24 1048575) HT_ ?_
    refine pu 20 30 (mb 24 2097151) HT_ ?_
    refine pu 21 31 (mb 24 4194303) HT_ ?_
    refine pu 22 32 (mb 24 8388607) HT_ ?_
    refine pa 23 33 (mb 24 16777215) HT_ ?_
    refine eA HT_ ?_
    try go_wp2
    go_ret
    exact ⟨rA, bA⟩
   rw [if_neg c2] at H
   have c2b0 := decide_eq_false c2
   clear c2
   obtain rfl := Option.some.inj H
   go_wp2
   go_ret
   exact ⟨rA, bA⟩

/-! ### spec_FindPath: function 144 -/
def spec_FindPath.l0 : Nat → List (S50) → Int → Int → Option (Int)
 | 0, _, _, _ => none
 | k + 1, x0, x1, x5 => if x5 < (x0.length : Int) then (if 0 ≤ x5 then (if ((rd_T50 x0 x5).f0) = x1 then (some x5) else (spec_FindPath.l0 k x0 x1 (wrap64 (x5 + 1)))) else (none)) else (some (-1))
def spec_FindPath.f (k : Nat) (l0 : List (S50)) (a1 : Int) : Option (Int) := spec_FindPath.l0 k l0 a1 0
theorem spec_FindPath.mono_l : ∀ k, (∀ y0 y1 y2, LeO (spec_FindPath.l0 k y0 y1 y2) (spec_FindPath.l0 (k + 1) y0 y1 y2))
 | 0 => fun _ _ _ r h => by simp [spec_FindPath.l0] at h
 | k + 1 => by
  have ih0 := spec_FindPath.mono_l k
  ·
   intro y0 y1 y2
   unfold spec_FindPath.l0
   exact mz1 ih0
theorem spec_FindPath.mono : ∀ a0 a1 k, LeO (spec_FindPath.f k a0 a1) (spec_FindPath.f (k + 1) a0 a1) := by
 intro a0 a1 k
 have ih0 := spec_FindPath.mono_l k
 unfold spec_FindPath.f
 exact mz1 ih0
set_option maxHeartbeats 8000000 in
set_option maxRecDepth 100000 in
theorem spec_FindPath.calls (k : Nat) (A0 : Option Addr) (c0 : Nat) (l0 : List (S50)) (a1 : Int) (r : Int) (w : World) (hr0 : Kd.C k50 w A0 l0.length l0) (hc0 : l0.length ≤ c0) (h : spec_FindPath.f k l0 a1 = some r) :
  Calls Try.prog 144 #[.slice A0 l0.length c0, .int .i64 a1] w fun e w' => e = .returned (.int .i64 r) ∧ Drawn0 w w' := by
 have HR0 := Aside0.mk hr0
 have HC0 := Aside0.mk hc0
 clear hr0 hc0
 have H : (spec_FindPath.l0 k l0 a1 0) = some r := h
 clear h
 have H' := Aside0.mk H
 clear H
 go_enter Try.func144, Try.ntmps144
 go_wp2
 go_loopg [5] k (fun kq v5 w' => ∃ (x5_1 : Int), v5 = .int .i64 x5_1 ∧ Aside0 (spec_FindPath.l0 kq l0 a1 x5_1 = some r) ∧ Aside0 (kq ≤ k) ∧ Drawn0 w w')
 case atStart => exact ⟨(0), rS, H', ⟨Nat.le_refl _⟩, by repeat (first | exact Drawn0.refl _ | apply Drawn0.step)⟩
 case round =>
  clear H'
  obtain ⟨x5_1, rfl, HA, HK1, ⟨m1, rfl⟩⟩ := hrel
  cases gk with
  | zero => exact absurd HA.out (by simp [spec_FindPath.l0])
  | succ k1 =>
   have H := HA.out
   clear HA
   simp only [spec_FindPath.l0] at H
   by_cases c3 : x5_1 < (l0.length : Int)
   ·
    rw [if_pos c3] at H
    have c3b0 := decide_eq_true c3
    clear c3
    have c4 : 0 ≤ x5_1 := ifN H
    replace H := ifT H
    have c4b0 := decide_eq_true c4
    clear c4
    by_cases c5 : ((rd_T50 l0 x5_1).f0) = a1
    ·
     rw [if_pos c5] at H
     have c5b0 : (((rd_T50 l0 x5_1).f0) == a1) = true := beq_iff_eq.mpr c5
     have c5b1 : (((rd_T50 l0 x5_1).f0) != a1) = false := bne_eq_false_iff_eq.mpr c5
     clear c5
     obtain rfl := Option.some.inj H
     obtain ⟨p156, q156⟩ : 0 ≤ (x5_1 : Int) ∧ x5_1 < (l0.length : Int) := ⟨dA, dA⟩
     obtain ⟨ad156, e156, hx156_0, hx156_1, hx156_2, hx156_3⟩ := at_T50 HR0.out x5_1 p156 q156
     cases e156
     obtain ⟨p156, q156⟩ := eT p156 q156
     go_wp2
     go_ret
     exact ⟨rS, dD⟩
    rw [if_neg c5] at H
    have c5b0 : (((rd_T50 l0 x5_1).f0) == a1) = false := beq_eq_false_iff_ne.mpr c5
    have c5b1 : (((rd_T50 l0 x5_1).f0) != a1) = true := bne_iff_ne.mpr c5
    have H' := Aside0.mk H
    clear H
    obtain ⟨p156, q156⟩ : 0 ≤ (x5_1 : Int) ∧ x5_1 < (l0.length : Int) := ⟨dA, dA⟩
    obtain ⟨ad156, e156, hx156_0, hx156_1, hx156_2, hx156_3⟩ := at_T50 HR0.out x5_1 p156 q156
    cases e156
    obtain ⟨p156, q156⟩ := eT p156 q156
    go_wp2
    go_roundg k1
    case measure => have := HK1.out; omega
    case rel => exact ⟨(wrap64 (x5_1 + 1)), rS, H', ⟨by have := HK1.out; omega⟩, by repeat (first | exact Drawn0.refl _ | apply Drawn0.step)⟩
   rw [if_neg c3] at H
   have c3b0 := decide_eq_false c3
   clear c3
   obtain rfl := Option.some.inj H
   go_wp2
   go_ret
   exact ⟨rS, dD⟩

/-! ### spec_Interleave: function 167 -/
mutual
def spec_Interleave.l0 : Nat → Int → Int → Int → Int → List Int → Int → Option (Bool)
 | 0, _, _, _, _, _, _ => none
 | k + 1, x0, x1, x2, x3, x9, x10 => if x10 < 4 then (spec_Interleave.l1 k x0 x1 x2 x3 x9 x10 0) else (spec_Interleave.l2 k x1 x2 x3 0 (Int.tmod (wrap64 (x0 + 1)) 8))
def spec_Interleave.l1 : Nat → Int → Int → Int → Int → List Int → Int → Int → Option (Bool)
 | 0, _, _, _, _, _, _, _ => none
 | k + 1, x0, x1, x2, x3, x9, x10, x11 => if x11 < x10 then (if 0 ≤ x10 then (if x10 < (x9.length : Int) then (if 0 ≤ x11 then (if x11 < (x9.length : Int) then (if (rd x9 x10) = (rd x9 x11) then (some false) else (spec_Interleave.l1 k x0 x1 x2 x3 x9 x10 (wrap64 (x11 + 1)))) else (none)) else (none)) else (none)) else (none)) else (if 0 ≤ x10 then (if x10 < (x9.length : Int) then ((spec_l1In.f (rd x9 x10) 0 7).bind fun t163 => (if t163 = true then (spec_Interleave.l0 k x0 x1 x2 x3 x9 (wrap64 (x10 + 1))) else (some false))) else (none)) else (none))
def spec_Interleave.l2 : Nat → Int → Int → Int → Int → Int → Option (Bool)
 | 0, _, _, _, _, _ => none
 | k + 1, x1, x2, x3, x12, x13 => if x13 = x1 then (some (x12 == 1)) else (if x13 = x2 then (spec_Interleave.l2 k x1 x2 x3 (wrap64 (x12 + 1)) (Int.tmod (wrap64 (x13 + 1)) 8)) else (if x13 = x3 then (spec_Interleave.l2 k x1 x2 x3 (wrap64 (x12 + 1)) (Int.tmod (wrap64 (x13 + 1)) 8)) else (spec_Interleave.l2 k x1 x2 x3 x12 (Int.tmod (wrap64 (x13 + 1)) 8))))
end
def spec_Interleave.f (k : Nat) (a0 : Int) (a1 : Int) (a2 : Int) (a3 : Int) : Option (Bool) := spec_Interleave.l0 k a0 a1 a2 a3 (([a0, a1, a2, a3] : List Int)) 0
theorem spec_Interleave.mono_l : ∀ k, (∀ y0 y1 y2 y3 y4 y5, LeO (spec_Interleave.l0 k y0 y1 y2 y3 y4 y5) (spec_Interleave.l0 (k + 1) y0 y1 y2 y3 y4 y5)) ∧ (∀ y0 y1 y2 y3 y4 y5 y6, LeO (spec_Interleave.l1 k y0 y1 y2 y3 y4 y5 y6) (spec_Interleave.l1 (k + 1) y0 y1 y2 y3 y4 y5 y6)) ∧ (∀ y0 y1 y2 y3 y4, LeO (spec_Interleave.l2 k y0 y1 y2 y3 y4) (spec_Interleave.l2 (k + 1) y0 y1 y2 y3 y4))
 | 0 => ⟨fun _ _ _ _ _ _ r h => by simp [spec_Interleave.l0] at h, fun _ _ _ _ _ _ _ r h => by simp [spec_Interleave.l1] at h, fun _ _ _ _ _ r h => by simp [spec_Interleave.l2] at h⟩
 | k + 1 => by
  obtain ⟨ih0, ih1, ih2⟩ := spec_Interleave.mono_l k
  refine ⟨?_, ?_, ?_⟩
  ·
   intro y0 y1 y2 y3 y4 y5
   unfold spec_Interleave.l0
   exact mz3 ih0 ih1 ih2
  ·
   intro y0 y1 y2 y3 y4 y5 y6
   unfold spec_Interleave.l1
   exact mz3 ih0 ih1 ih2
  ·
   intro y0 y1 y2 y3 y4
   unfold spec_Interleave.l2
   exact mz3 ih0 ih1 ih2
theorem spec_Interleave.mono : ∀ a0 a1 a2 a3 k, LeO (spec_Interleave.f k a0 a1 a2 a3) (spec_Interleave.f (k + 1) a0 a1 a2 a3) := by
 intro a0 a1 a2 a3 k
 obtain ⟨ih0, ih1, ih2⟩ := spec_Interleave.mono_l k
 unfold spec_Interleave.f
 exact mz3 ih0 ih1 ih2
set_option maxHeartbeats 8000000 in
set_option maxRecDepth 100000 in
theorem spec_Interleave.calls (k : Nat) (a0 : Int) (a1 : Int) (a2 : Int) (a3 : Int) (r : Bool) (w : World) (h : spec_Interleave.f k a0 a1 a2 a3 = some r) :
  Calls Try.prog 167 #[.int .i64 a0, .int .i64 a1, .int .i64 a2, .int .i64 a3] w fun e w' => e = .returned (.bool r) ∧ Below w.heap.size w w' := by
 have HB := Aside0.mk (Below.refl w.heap.size w)
 have H : (spec_Interleave.l0 k a0 a1 a2 a3 (([a0, a1, a2, a3] : List Int)) 0) = some r := h
 clear h
 obtain ⟨y157, hy157⟩ : ∃ y_ : List Int, y_ = (([a0, a1, a2, a3] : List Int)) := ⟨_, rfl⟩
 replace H : (spec_Interleave.l0 k a0 a1 a2 a3 y157 0) = some r := rH H hy157
 have Ny157 := Aside0.mk hy157
 clear hy157
 have H' := Aside0.mk H
 clear H
 go_enter Try.func167, Try.ntmps167
 go_wp2_with (first | ((with_reducible refine gate_dst (N := 18) rfl ?_); refine Kd.R_lit (Kd.int .i64) _ 3 ?hg (N := 18) ?hd (xs := ([a0, a1, a2, a3] : List Int)) (inner := [.int .i64 a0, .int .i64 a1, .int .i64 a2, .int .i64 a3]) (ok := fun _ => True) (okp := fun _ => True) ?hr ?hp (fun _ hk => hk) trivial (Below.refl _ _) (Nat.le_refl _) (by simp) ?_; (case hd => rfl); (case hg => rfl); (case hr => first | (go_simp; done) | (go_simp; rfl)); (case hp => exact (Reps.one (show Kd.M (Kd.int .i64) _ _ _ a0 [.int .i64 a0] from rfl) (Reps.one (show Kd.M (Kd.int .i64) _ _ _ a1 [.int .i64 a1] from rfl) (Reps.one (show Kd.M (Kd.int .i64) _ _ _ a2 [.int .i64 a2] from rfl) (Reps.one (show Kd.M (Kd.int .i64) _ _ _ a3 [.int .i64 a3] from rfl) (Reps.none _ _)))))); intro v158 w5 ho6 hb hg_ hnew_; clear hg_ hnew_; (first | rw [← Ny157.out] at ho6 | (simp only [Int.reduceToNat] at ho6; rw [← Ny157.out] at ho6)); have HO159 := rl w ho6; replace HB := bs HB hb; clear hb ho6))
 repeat (go_quiet (first | ((with_reducible refine gate_dst (N := 18) rfl ?_); refine Kd.R_lit (Kd.int .i64) _ 3 ?hg (N := 18) ?hd (xs := ([a0, a1, a2, a3] : List Int)) (inner := [.int .i64 a0, .int .i64 a1, .int .i64 a2, .int .i64 a3]) (ok := fun _ => True) (okp := fun _ => True) ?hr ?hp (fun _ hk => hk) trivial (Below.refl _ _) (Nat.le_refl _) (by simp) ?_; (case hd => rfl); (case hg => rfl); (case hr => first | (go_simp; done) | (go_simp; rfl)); (case hp => exact (Reps.one (show Kd.M (Kd.int .i64) _ _ _ a0 [.int .i64 a0] from rfl) (Reps.one (show Kd.M (Kd.int .i64) _ _ _ a1 [.int .i64 a1] from rfl) (Reps.one (show Kd.M (Kd.int .i64) _ _ _ a2 [.int .i64 a2] from rfl) (Reps.one (show Kd.M (Kd.int .i64) _ _ _ a3 [.int .i64 a3] from rfl) (Reps.none _ _)))))); intro v158 w5 ho6 hb hg_ hnew_; clear hg_ hnew_; (first | rw [← Ny157.out] at ho6 | (simp only [Int.reduceToNat] at ho6; rw [← Ny157.out] at ho6)); have HO159 := rl w ho6; replace HB := bs HB hb; clear hb ho6)); try go_wp2_with (first | ((with_reducible refine gate_dst (N := 18) rfl ?_); refine Kd.R_lit (Kd.int .i64) _ 3 ?hg (N := 18) ?hd (xs := ([a0, a1, a2, a3] : List Int)) (inner := [.int .i64 a0, .int .i64 a1, .int .i64 a2, .int .i64 a3]) (ok := fun _ => True) (okp := fun _ => True) ?hr ?hp (fun _ hk => hk) trivial (Below.refl _ _) (Nat.le_refl _) (by simp) ?_; (case hd => rfl); (case hg => rfl); (case hr => first | (go_simp; done) | (go_simp; rfl)); (case hp => exact (Reps.one (show Kd.M (Kd.int .i64) _ _ _ a0 [.int .i64 a0] from rfl) (Reps.one (show Kd.M (Kd.int .i64) _ _ _ a1 [.int .i64 a1] from rfl) (Reps.one (show Kd.M (Kd.int .i64) _ _ _ a2 [.int .i64 a2] from rfl) (Reps.one (show Kd.M (Kd.int .i64) _ _ _ a3 [.int .i64 a3] from rfl) (Reps.none _ _)))))); intro v158 w5 ho6 hb hg_ hnew_; clear hg_ hnew_; (first | rw [← Ny157.out] at ho6 | (simp only [Int.reduceToNat] at ho6; rw [← Ny157.out] at ho6)); have HO159 := rl w ho6; replace HB := bs HB hb; clear hb ho6)))
 go_loopg [10] k (fun kq v10 w' => ∃ (x10_1 : Int), v10 = .int .i64 x10_1 ∧ Aside0 (spec_Interleave.l0 kq a0 a1 a2 a3 y157 x10_1 = some r) ∧ Aside0 (kq ≤ k) ∧ Aside0 (Kd.R (Kd.int .i64) 3 w' w.heap.size (fun _ => True) v158 y157) ∧ Aside0 (Below w.heap.size w w'))
 case atStart => exact ⟨(0), rS, H', ⟨Nat.le_refl _⟩, ⟨rK HO159⟩, ⟨bA⟩⟩
 case round =>
  clear H'
  obtain ⟨x10_1, rfl, HA, HK1, HO_9, HB⟩ := hrel
  cases gk with
  | zero => exact absurd HA.out (by simp [spec_Interleave.l0])
  | succ k1 =>
   have H := HA.out
   clear HA
   simp only [spec_Interleave.l0] at H
   by_cases c7 : x10_1 < 4
   ·
    rw [if_pos c7] at H
    have c7b0 := decide_eq_true c7
    clear c7
    have H' := Aside0.mk H
    clear H
    go_wp2
    repeat (go_quiet (fail); try go_wp2)
    go_loopg [11] k1 (fun kq v11 w' => ∃ (x11_2 : Int), v11 = .int .i64 x11_2 ∧ Aside0 (spec_Interleave.l1 kq a0 a1 a2 a3 y157 x10_1 x11_2 = some r) ∧ Aside0 (kq ≤ k1) ∧ Aside0 (Kd.R (Kd.int .i64) 3 w' w.heap.size (fun _ => True) v158 y157) ∧ Aside0 (Below w.heap.size w w'))
    case atStart => exact ⟨(0), rS, H', ⟨Nat.le_refl _⟩, ⟨rK HO_9⟩, ⟨bA⟩⟩
    case round =>
     clear H'
     obtain ⟨x11_2, rfl, HA, HK2, HO_9, HB⟩ := hrel
     cases gk with
     | zero => exact absurd HA.out (by simp [spec_Interleave.l1])
     | succ k2 =>
      have H := HA.out
      clear HA
      simp only [spec_Interleave.l1] at H
      by_cases c8 : x11_2 < x10_1
      ·
       rw [if_pos c8] at H
       have c8b0 := decide_eq_true c8
       clear c8
       have c9 : 0 ≤ x10_1 := ifN H
       replace H := ifT H
       have c9b0 := decide_eq_true c9
       clear c9
       have c10 : x10_1 < (y157.length : Int) := ifN H
       replace H := ifT H
       have c10b0 := decide_eq_true c10
       clear c10
       have c11 : 0 ≤ x11_2 := ifN H
       replace H := ifT H
       have c11b0 := decide_eq_true c11
       clear c11
       have c12 : x11_2 < (y157.length : Int) := ifN H
       replace H := ifT H
       have c12b0 := decide_eq_true c12
       clear c12
       by_cases c13 : (rd y157 x10_1) = (rd y157 x11_2)
       ·
        rw [if_pos c13] at H
        have c13b0 : ((rd y157 x10_1) == (rd y157 x11_2)) = true := beq_iff_eq.mpr c13
        have c13b1 : ((rd y157 x10_1) != (rd y157 x11_2)) = false := bne_eq_false_iff_eq.mpr c13
        clear c13
        obtain rfl := Option.some.inj H
        obtain ⟨Ao14, co14, eo14⟩ := Kd.R_slice HO_9.out
        subst eo14
        obtain ⟨p160, q160⟩ : 0 ≤ (x10_1 : Int) ∧ x10_1 < (y157.length : Int) := ⟨dA, dA⟩
        obtain ⟨ad160, e160, hx160_0⟩ := Kd.at_int (Kd.R_reads' HO_9.out).2.2 x10_1 p160 q160
        cases e160
        obtain ⟨p160, q160⟩ := eT p160 q160
        obtain ⟨p161, q161⟩ : 0 ≤ (x11_2 : Int) ∧ x11_2 < (y157.length : Int) := ⟨dA, dA⟩
        obtain ⟨ad161, e161, hx161_0⟩ := Kd.at_int (Kd.R_reads' HO_9.out).2.2 x11_2 p161 q161
        obtain rfl : ad160 = ad161 := (by injection e161)
        obtain ⟨p161, q161⟩ := eT p161 q161
        go_wp2
        repeat (go_quiet (fail); try go_wp2)
        go_ret
        exact ⟨rA, bA⟩
       rw [if_neg c13] at H
       have c13b0 : ((rd y157 x10_1) == (rd y157 x11_2)) = false := beq_eq_false_iff_ne.mpr c13
       have c13b1 : ((rd y157 x10_1) != (rd y157 x11_2)) = true := bne_iff_ne.mpr c13
       have H' := Aside0.mk H
       clear H
       obtain ⟨Ao15, co15, eo15⟩ := Kd.R_slice HO_9.out
       subst eo15
       obtain ⟨p160, q160⟩ : 0 ≤ (x10_1 : Int) ∧ x10_1 < (y157.length : Int) := ⟨dA, dA⟩
       obtain ⟨ad160, e160, hx160_0⟩ := Kd.at_int (Kd.R_reads' HO_9.out).2.2 x10_1 p160 q160
       cases e160
       obtain ⟨p160, q160⟩ := eT p160 q160
       obtain ⟨p161, q161⟩ : 0 ≤ (x11_2 : Int) ∧ x11_2 < (y157.length : Int) := ⟨dA, dA⟩
       obtain ⟨ad161, e161, hx161_0⟩ := Kd.at_int (Kd.R_reads' HO_9.out).2.2 x11_2 p161 q161
       obtain rfl : ad160 = ad161 := (by injection e161)
       obtain ⟨p161, q161⟩ := eT p161 q161
       go_wp2
       repeat (go_quiet (fail); try go_wp2)
       go_roundg k2
       case measure => have := HK1.out; have := HK2.out; omega
       case rel => exact ⟨(wrap64 (x11_2 + 1)), rS, H', ⟨by have := HK1.out; have := HK2.out; omega⟩, ⟨rK HO_9⟩, ⟨bA⟩⟩
      rw [if_neg c8] at H
      have c8b0 := decide_eq_false c8
      clear c8
      have c16 : 0 ≤ x10_1 := ifN H
      replace H := ifT H
      have c16b0 := decide_eq_true c16
      clear c16
      have c17 : x10_1 < (y157.length : Int) := ifN H
      replace H := ifT H
      have c17b0 := decide_eq_true c17
      clear c17
      obtain ⟨t163, A18, H⟩ := bindE H
      try dsimp only at H
      by_cases c19 : t163 = true
      ·
       subst c19
       have H1 : (spec_Interleave.l0 k2 a0 a1 a2 a3 y157 (wrap64 (x10_1 + 1))) = some r := by rw [if_pos rfl] at H; exact H
       clear H
       have H := H1
       clear H1
       have H' := Aside0.mk H
       clear H
       obtain ⟨Ao20, co20, eo20⟩ := Kd.R_slice HO_9.out
       subst eo20
       obtain ⟨p162, q162⟩ : 0 ≤ (x10_1 : Int) ∧ x10_1 < (y157.length : Int) := ⟨dA, dA⟩
       obtain ⟨ad162, e162, hx162_0⟩ := Kd.at_int (Kd.R_reads' HO_9.out).2.2 x10_1 p162 q162
       cases e162
       obtain ⟨p162, q162⟩ := eT p162 q162
       go_wp2_with (first | (go_at_call 111; (with_reducible refine (spec_l1In.calls (rd y157 x10_1) 0 7 true _ A18.out).mono ?_); rintro e w' ⟨rfl, ⟨nd, rfl⟩⟩; (try first | exact ⟨rfl, _, World.drewN_drewN _ _ _⟩ | exact ⟨rfl, _, Eq.trans (World.drewN_drewN _ _ _) (congrArg (World.drewN _) (Nat.add_assoc _ _ _))⟩)))
       repeat (go_quiet (first | (go_at_call 111; (with_reducible refine (spec_l1In.calls (rd y157 x10_1) 0 7 true _ A18.out).mono ?_); rintro e w' ⟨rfl, ⟨nd, rfl⟩⟩; (try first | exact ⟨rfl, _, World.drewN_drewN _ _ _⟩ | exact ⟨rfl, _, Eq.trans (World.drewN_drewN _ _ _) (congrArg (World.drewN _) (Nat.add_assoc _ _ _))⟩))); try go_wp2_with (first | (go_at_call 111; (with_reducible refine (spec_l1In.calls (rd y157 x10_1) 0 7 true _ A18.out).mono ?_); rintro e w' ⟨rfl, ⟨nd, rfl⟩⟩; (try first | exact ⟨rfl, _, World.drewN_drewN _ _ _⟩ | exact ⟨rfl, _, Eq.trans (World.drewN_drewN _ _ _) (congrArg (World.drewN _) (Nat.add_assoc _ _ _))⟩))))
       go_roundg k2
       case measure => have := HK1.out; have := HK2.out; omega
       case rel => exact ⟨(wrap64 (x10_1 + 1)), rS, H', ⟨by have := HK1.out; have := HK2.out; omega⟩, ⟨rK HO_9⟩, ⟨bA⟩⟩
      replace c19 := Bool.eq_false_iff.mpr c19
      subst c19
      have H1 : (some false) = some r := by rw [if_neg (show ¬ (false = true) by decide)] at H; exact H
      clear H
      have H := H1
      clear H1
      obtain rfl := Option.some.inj H
      obtain ⟨Ao21, co21, eo21⟩ := Kd.R_slice HO_9.out
      subst eo21
      obtain ⟨p162, q162⟩ : 0 ≤ (x10_1 : Int) ∧ x10_1 < (y157.length : Int) := ⟨dA, dA⟩
      obtain ⟨ad162, e162, hx162_0⟩ := Kd.at_int (Kd.R_reads' HO_9.out).2.2 x10_1 p162 q162
      cases e162
      obtain ⟨p162, q162⟩ := eT p162 q162
      go_wp2_with (first | (go_at_call 111; (with_reducible refine (spec_l1In.calls (rd y157 x10_1) 0 7 false _ A18.out).mono ?_); rintro e w' ⟨rfl, ⟨nd, rfl⟩⟩; (try first | exact ⟨rfl, _, World.drewN_drewN _ _ _⟩ | exact ⟨rfl, _, Eq.trans (World.drewN_drewN _ _ _) (congrArg (World.drewN _) (Nat.add_assoc _ _ _))⟩)))
      repeat (go_quiet (first | (go_at_call 111; (with_reducible refine (spec_l1In.calls (rd y157 x10_1) 0 7 false _ A18.out).mono ?_); rintro e w' ⟨rfl, ⟨nd, rfl⟩⟩; (try first | exact ⟨rfl, _, World.drewN_drewN _ _ _⟩ | exact ⟨rfl, _, Eq.trans (World.drewN_drewN _ _ _) (congrArg (World.drewN _) (Nat.add_assoc _ _ _))⟩))); try go_wp2_with (first | (go_at_call 111; (with_reducible refine (spec_l1In.calls (rd y157 x10_1) 0 7 false _ A18.out).mono ?_); rintro e w' ⟨rfl, ⟨nd, rfl⟩⟩; (try first | exact ⟨rfl, _, World.drewN_drewN _ _ _⟩ | exact ⟨rfl, _, Eq.trans (World.drewN_drewN _ _ _) (congrArg (World.drewN _) (Nat.add_assoc _ _ _))⟩))))
      go_ret
      exact ⟨rA, bA⟩
   rw [if_neg c7] at H
   have c7b0 := decide_eq_false c7
   clear c7
   have H' := Aside0.mk H
   clear H
   go_wp2
   repeat (go_quiet (fail); try go_wp2)
   go_loopg [12, 13] k1 (fun kq v12 v13 w' => ∃ (x12_2 : Int) (x13_2 : Int), v12 = .int .i64 x12_2 ∧ v13 = .int .i64 x13_2 ∧ Aside0 (spec_Interleave.l2 kq a1 a2 a3 x12_2 x13_2 = some r) ∧ Aside0 (kq ≤ k1) ∧ Aside0 (Below w.heap.size w w'))
   case atStart => exact ⟨(0), (Int.tmod (wrap64 (a0 + 1)) 8), rS, rS, H', ⟨Nat.le_refl _⟩, ⟨bA⟩⟩
   case round =>
    clear H'
    obtain ⟨x12_2, x13_2, rfl, rfl, HA, HK2, HB⟩ := hrel
    cases gk with
    | zero => exact absurd HA.out (by simp [spec_Interleave.l2])
    | succ k2 =>
     have H := HA.out
     clear HA
     simp only [spec_Interleave.l2] at H
     by_cases c22 : x13_2 = a1
     ·
      rw [if_pos c22] at H
      have c22b0 : (x13_2 == a1) = true := beq_iff_eq.mpr c22
      have c22b1 : (x13_2 != a1) = false := bne_eq_false_iff_eq.mpr c22
      clear c22
      obtain rfl := Option.some.inj H
      go_wp2
      repeat (go_quiet (fail); try go_wp2)
      go_ret
      exact ⟨rA, bA⟩
     rw [if_neg c22] at H
     have c22b0 : (x13_2 == a1) = false := beq_eq_false_iff_ne.mpr c22
     have c22b1 : (x13_2 != a1) = true := bne_iff_ne.mpr c22
     by_cases c23 : x13_2 = a2
     ·
      rw [if_pos c23] at H
      have c23b0 : (x13_2 == a2) = true := beq_iff_eq.mpr c23
      have c23b1 : (x13_2 != a2) = false := bne_eq_false_iff_eq.mpr c23
      clear c23
      have H' := Aside0.mk H
      clear H
      go_wp2
      repeat (go_quiet (fail); try go_wp2)
      go_roundg k2
      case measure => have := HK1.out; have := HK2.out; omega
      case rel => exact ⟨(wrap64 (x12_2 + 1)), (Int.tmod (wrap64 (x13_2 + 1)) 8), rS, rS, H', ⟨by have := HK1.out; have := HK2.out; omega⟩, ⟨bA⟩⟩
     rw [if_neg c23] at H
     have c23b0 : (x13_2 == a2) = false := beq_eq_false_iff_ne.mpr c23
     have c23b1 : (x13_2 != a2) = true := bne_iff_ne.mpr c23
     by_cases c24 : x13_2 = a3
     ·
      rw [if_pos c24] at H
      have c24b0 : (x13_2 == a3) = true := beq_iff_eq.mpr c24
      have c24b1 : (x13_2 != a3) = false := bne_eq_false_iff_eq.mpr c24
      clear c24
      have H' := Aside0.mk H
      clear H
      go_wp2
      repeat (go_quiet (fail); try go_wp2)
      go_roundg k2
      case measure => have := HK1.out; have := HK2.out; omega
      case rel => exact ⟨(wrap64 (x12_2 + 1)), (Int.tmod (wrap64 (x13_2 + 1)) 8), rS, rS, H', ⟨by have := HK1.out; have := HK2.out; omega⟩, ⟨bA⟩⟩
     rw [if_neg c24] at H
     have c24b0 : (x13_2 == a3) = false := beq_eq_false_iff_ne.mpr c24
     have c24b1 : (x13_2 != a3) = true := bne_iff_ne.mpr c24
     have H' := Aside0.mk H
     clear H
     go_wp2
     repeat (go_quiet (fail); try go_wp2)
     go_roundg k2
     case measure => have := HK1.out; have := HK2.out; omega
     case rel => exact ⟨(x12_2), (Int.tmod (wrap64 (x13_2 + 1)) 8), rS, rS, H', ⟨by have := HK1.out; have := HK2.out; omega⟩, ⟨bA⟩⟩

/-! ### spec_InPlace: function 168 -/
def spec_InPlace.f (a0 : Int) : Option (Int) := (spec_l1In.f a0 0 3).bind fun t164 => (if t164 = true then (some (wrap64 (2 * a0))) else (some (-1)))
set_option maxHeartbeats 8000000 in
set_option maxRecDepth 100000 in
theorem spec_InPlace.calls (a0 : Int) (r : Int) (w : World) (h : spec_InPlace.f a0 = some r) :
  Calls Try.prog 168 #[.int .i64 a0] w fun e w' => e = .returned (.int .i64 r) ∧ Drawn0 w w' := by
 have H : ((spec_l1In.f a0 0 3).bind fun t164 => (if t164 = true then (some (wrap64 (2 * a0))) else (some (-1)))) = some r := h
 clear h
 obtain ⟨t164, A2, H⟩ := bindE H
 try dsimp only at H
 by_cases c3 : t164 = true
 ·
  subst c3
  have H1 : (some (wrap64 (2 * a0))) = some r := by rw [if_pos rfl] at H; exact H
  clear H
  have H := H1
  clear H1
  obtain rfl := Option.some.inj H
  go_enter Try.func168, Try.ntmps168
  go_wp2_with (first | ((with_reducible refine gate_callee (f := 111) rfl ?_); refine gL (some 4) Try.func111 #[.int .i64 a0, .int .i64 0, .int .i64 3] ?_; (with_reducible refine (spec_l1In.calls a0 0 3 true _ A2.out).mono ?_); rintro e w' ⟨rfl, ⟨nd, rfl⟩⟩; refine ⟨_, rfl, ?_⟩))
  go_ret
  exact ⟨rS, dD⟩
 replace c3 := Bool.eq_false_iff.mpr c3
 subst c3
 have H1 : (some (-1)) = some r := by rw [if_neg (show ¬ (false = true) by decide)] at H; exact H
 clear H
 have H := H1
 clear H1
 obtain rfl := Option.some.inj H
 go_enter Try.func168, Try.ntmps168
 go_wp2_with (first | ((with_reducible refine gate_callee (f := 111) rfl ?_); refine gL (some 4) Try.func111 #[.int .i64 a0, .int .i64 0, .int .i64 3] ?_; (with_reducible refine (spec_l1In.calls a0 0 3 false _ A2.out).mono ?_); rintro e w' ⟨rfl, ⟨nd, rfl⟩⟩; refine ⟨_, rfl, ?_⟩))
 go_ret
 exact ⟨rS, dD⟩

/-! ### spec_OutPlace: function 169 -/
def spec_OutPlace.f (a0 : Int) : Option (Int) := (spec_l1In.f a0 0 3).bind fun t165 => (if t165 = true then (some (wrap64 ((wrap64 (2 * a0)) + 1))) else (some (-1)))
set_option maxHeartbeats 8000000 in
set_option maxRecDepth 100000 in
theorem spec_OutPlace.calls (a0 : Int) (r : Int) (w : World) (h : spec_OutPlace.f a0 = some r) :
  Calls Try.prog 169 #[.int .i64 a0] w fun e w' => e = .returned (.int .i64 r) ∧ Drawn0 w w' := by
 have H : ((spec_l1In.f a0 0 3).bind fun t165 => (if t165 = true then (some (wrap64 ((wrap64 (2 * a0)) + 1))) else (some (-1)))) = some r := h
 clear h
 obtain ⟨t165, A2, H⟩ := bindE H
 try dsimp only at H
 by_cases c3 : t165 = true
 ·
  subst c3
  have H1 : (some (wrap64 ((wrap64 (2 * a0)) + 1))) = some r := by rw [if_pos rfl] at H; exact H
  clear H
  have H := H1
  clear H1
  obtain rfl := Option.some.inj H
  go_enter Try.func169, Try.ntmps169
  go_wp2_with (first | ((with_reducible refine gate_callee (f := 111) rfl ?_); refine gL (some 4) Try.func111 #[.int .i64 a0, .int .i64 0, .int .i64 3] ?_; (with_reducible refine (spec_l1In.calls a0 0 3 true _ A2.out).mono ?_); rintro e w' ⟨rfl, ⟨nd, rfl⟩⟩; refine ⟨_, rfl, ?_⟩))
  go_ret
  exact ⟨rS, dD⟩
 replace c3 := Bool.eq_false_iff.mpr c3
 subst c3
 have H1 : (some (-1)) = some r := by rw [if_neg (show ¬ (false = true) by decide)] at H; exact H
 clear H
 have H := H1
 clear H1
 obtain rfl := Option.some.inj H
 go_enter Try.func169, Try.ntmps169
 go_wp2_with (first | ((with_reducible refine gate_callee (f := 111) rfl ?_); refine gL (some 4) Try.func111 #[.int .i64 a0, .int .i64 0, .int .i64 3] ?_; (with_reducible refine (spec_l1In.calls a0 0 3 false _ A2.out).mono ?_); rintro e w' ⟨rfl, ⟨nd, rfl⟩⟩; refine ⟨_, rfl, ?_⟩))
 go_ret
 exact ⟨rS, dD⟩

/-! ### spec_Conflict: function 145 -/
def spec_Conflict.j0 : Nat → Bool → Int → Int → Int → Int → Int → Int → Int → Int → Option (Bool)
 | 0, _, _, _, _, _, _, _, _, _ => none
 | k + 1, x5, x167000, x167001, x167002, x167003, x168000, x168001, x168002, x168003 => if x5 = true then (some false) else (if x167001 = 2 then (if x168002 = x167002 then (some true) else (some (x168003 == x167002))) else (if x168001 = 2 then (if x167002 = x168002 then (some true) else (some (x167003 == x168002))) else (if x167002 = x168002 then (some false) else (if x167003 = x168003 then (some true) else ((spec_InPlace.f x167002).bind fun t170 => ((spec_OutPlace.f x167003).bind fun t171 => ((spec_InPlace.f x168002).bind fun t172 => ((spec_OutPlace.f x168003).bind fun t173 => ((spec_Interleave.f k t170 t171 t172 t173).bind fun t174 => (some t174))))))))))
def spec_Conflict.f (k : Nat) (a0_0 : Int) (a0_1 : Int) (a0_2 : Int) (a0_3 : Int) (a1_0 : Int) (a1_1 : Int) (a1_2 : Int) (a1_3 : Int) : Option (Bool) := (spec_IsPath.f a0_0 a0_1 a0_2 a0_3).bind fun t168 => (if t168 = true then ((spec_IsPath.f a1_0 a1_1 a1_2 a1_3).bind fun t169 => (if t169 = true then (if a0_1 = 2 then (spec_Conflict.j0 k (a1_1 == 2) a0_0 a0_1 a0_2 a0_3 a1_0 a1_1 a1_2 a1_3) else (spec_Conflict.j0 k false a0_0 a0_1 a0_2 a0_3 a1_0 a1_1 a1_2 a1_3)) else (spec_Conflict.j0 k true a0_0 a0_1 a0_2 a0_3 a1_0 a1_1 a1_2 a1_3))) else (spec_Conflict.j0 k true a0_0 a0_1 a0_2 a0_3 a1_0 a1_1 a1_2 a1_3))
theorem spec_Conflict.mono_l : ∀ k, (∀ y0 y1 y2 y3 y4 y5 y6 y7 y8, LeO (spec_Conflict.j0 k y0 y1 y2 y3 y4 y5 y6 y7 y8) (spec_Conflict.j0 (k + 1) y0 y1 y2 y3 y4 y5 y6 y7 y8))
 | 0 => fun _ _ _ _ _ _ _ _ _ r h => by simp [spec_Conflict.j0] at h
 | k + 1 => by
  have ih0 := spec_Conflict.mono_l k
  ·
   intro y0 y1 y2 y3 y4 y5 y6 y7 y8
   unfold spec_Conflict.j0
   exact mz2 ih0 spec_Interleave.mono
theorem spec_Conflict.mono : ∀ a0 a1 a2 a3 a4 a5 a6 a7 k, LeO (spec_Conflict.f k a0 a1 a2 a3 a4 a5 a6 a7) (spec_Conflict.f (k + 1) a0 a1 a2 a3 a4 a5 a6 a7) := by
 intro a0 a1 a2 a3 a4 a5 a6 a7 k
 have ih0 := spec_Conflict.mono_l k
 unfold spec_Conflict.f
 exact mz2 ih0 spec_Interleave.mono
def spec_Conflict.T11 : Bool × List (List Nat × List Nat) := (true, [([], []), ([0], [0]), ([1], [1]), ([], []), ([3], [3]), ([4, 2], [4]), ([], []), ([6], [6]), ([7, 5], [7]), ([], []), ([9], [9]), ([10, 8], [10]), ([2, 5, 8, 11, 11], [2, 5, 8, 11]), ([12, 12, 0, 1, 2, 3, 4, 5, 6, 7, 8, 9, 10, 11, 12], [12])])
def spec_Conflict.B11 : List Nat := [0, 1, 3, 0, 8, 31, 0, 64, 255, 0, 512, 2047, 4095, 8191]
theorem spec_Conflict.tab11 : rtab .any (opsOf Try.f145 11) = spec_Conflict.T11 := by kernel_rfl
theorem spec_Conflict.bits11 : waitsOk spec_Conflict.T11.2 spec_Conflict.B11 = true := by kernel_rfl
set_option maxHeartbeats 8000000 in
set_option maxRecDepth 100000 in
theorem spec_Conflict.calls (k : Nat) (a0_0 : Int) (a0_1 : Int) (a0_2 : Int) (a0_3 : Int) (a1_0 : Int) (a1_1 : Int) (a1_2 : Int) (a1_3 : Int) (r : Bool) (w : World) (h : spec_Conflict.f k a0_0 a0_1 a0_2 a0_3 a1_0 a1_1 a1_2 a1_3 = some r) :
  Calls Try.prog 145 #[.agg #[.int .i64 a0_0, .int .i64 a0_1, .int .i64 a0_2, .int .i64 a0_3], .agg #[.int .i64 a1_0, .int .i64 a1_1, .int .i64 a1_2, .int .i64 a1_3]] w fun e w' => e = .returned (.bool r) ∧ Below w.heap.size w w' := by
 have hu50 := Try.underlying50
 have HB := Aside0.mk (Below.refl w.heap.size w)
 have H : ((spec_IsPath.f a0_0 a0_1 a0_2 a0_3).bind fun t168 => (if t168 = true then ((spec_IsPath.f a1_0 a1_1 a1_2 a1_3).bind fun t169 => (if t169 = true then (if a0_1 = 2 then (spec_Conflict.j0 k (a1_1 == 2) a0_0 a0_1 a0_2 a0_3 a1_0 a1_1 a1_2 a1_3) else (spec_Conflict.j0 k false a0_0 a0_1 a0_2 a0_3 a1_0 a1_1 a1_2 a1_3)) else (spec_Conflict.j0 k true a0_0 a0_1 a0_2 a0_3 a1_0 a1_1 a1_2 a1_3))) else (spec_Conflict.j0 k true a0_0 a0_1 a0_2 a0_3 a1_0 a1_1 a1_2 a1_3))) = some r := h
 clear h
 have HC3 := Aside0.mk H
 clear H
 go_enter Try.func145, Try.ntmps145
 go_upto_region 1 with (first | ((with_reducible refine gate_dst (N := 2) rfl ?_); refine bE (N := 2) (cs := #[.int .i64 a0_0, .int .i64 a0_1, .int .i64 a0_2, .int .i64 a0_3]) (t := 50) ?_; intro gb166 hg w4 hbox hb; have BK166 := Aside0.mk (hbox); have GW166 := gw w hg; have GE166 := gw w hg; replace HB := bs HB hb; clear hb hbox hg) | ((with_reducible refine gate_dst (N := 3) rfl ?_); refine bE (N := 3) (cs := #[.int .i64 a1_0, .int .i64 a1_1, .int .i64 a1_2, .int .i64 a1_3]) (t := 50) ?_; intro gb167 hg w5 hbox hb; have BK167 := Aside0.mk (hbox); have GW167 := gw w hg; have GE167 := gw w hg; replace HB := bs HB hb; have NB166_167 := nl BK166 hg; have NB167_166 := nr BK166 hg; replace BK166 := kb BK166 hb; clear hb hbox hg))
 (try simp only [Act.put, List.setIfInBounds_toArray, List.set_cons_zero, List.set_cons_succ])
 go_cut [5] (fun v5 wc => ∃ (kq : Nat) (x5_2 : Bool), v5 = .bool x5_2 ∧ Aside0 (spec_Conflict.j0 kq x5_2 a0_0 a0_1 a0_2 a0_3 a1_0 a1_1 a1_2 a1_3 = some r) ∧ Aside0 (kq ≤ k) ∧ Aside0 (wc.heap[gb166]? = some (.cells #[.int .i64 a0_0, .int .i64 a0_1, .int .i64 a0_2, .int .i64 a0_3] 50 (0, 0))) ∧ Aside0 (wc.heap[gb167]? = some (.cells #[.int .i64 a1_0, .int .i64 a1_1, .int .i64 a1_2, .int .i64 a1_3] 50 (0, 0))) ∧ Aside0 (Below w.heap.size w wc))
 case first =>
  have H := HC3.out
  clear HC3
  obtain ⟨t168, A6, H⟩ := bindE H
  try dsimp only at H
  by_cases c7 : t168 = true
  ·
   subst c7
   have H1 : ((spec_IsPath.f a1_0 a1_1 a1_2 a1_3).bind fun t169 => (if t169 = true then (if a0_1 = 2 then (spec_Conflict.j0 k (a1_1 == 2) a0_0 a0_1 a0_2 a0_3 a1_0 a1_1 a1_2 a1_3) else (spec_Conflict.j0 k false a0_0 a0_1 a0_2 a0_3 a1_0 a1_1 a1_2 a1_3)) else (spec_Conflict.j0 k true a0_0 a0_1 a0_2 a0_3 a1_0 a1_1 a1_2 a1_3))) = some r := by rw [if_pos rfl] at H; exact H
   clear H
   have H := H1
   clear H1
   obtain ⟨t169, A8, H⟩ := bindE H
   try dsimp only at H
   by_cases c9 : t169 = true
   ·
    subst c9
    have H1 : (if a0_1 = 2 then (spec_Conflict.j0 k (a1_1 == 2) a0_0 a0_1 a0_2 a0_3 a1_0 a1_1 a1_2 a1_3) else (spec_Conflict.j0 k false a0_0 a0_1 a0_2 a0_3 a1_0 a1_1 a1_2 a1_3)) = some r := by rw [if_pos rfl] at H; exact H
    clear H
    have H := H1
    clear H1
    by_cases c10 : a0_1 = 2
    ·
     rw [if_pos c10] at H
     have c10b0 : (a0_1 == 2) = true := beq_iff_eq.mpr c10
     have c10b1 : (a0_1 != 2) = false := bne_eq_false_iff_eq.mpr c10
     clear c10
     (first | rw [c10b0] | (simp only [i64_w, i32_w]; rw [c10b0]) | skip)
     have H' := Aside0.mk H
     clear H
     have hnb11 := NB166_167.out
     have hnc11 := NB167_166.out
     obtain ⟨_, _, _, _, _, _, _, _⟩ := blkc4 BK166
     go_wp2_with (first | ((with_reducible refine gate_callee (f := 91) rfl ?_); refine gL (some 7) Try.func91 #[.agg #[.int .i64 a0_0, .int .i64 a0_1, .int .i64 a0_2, .int .i64 a0_3]] ?_; (with_reducible refine (spec_IsPath.calls a0_0 a0_1 a0_2 a0_3 true _ A6.out).mono ?_); rintro e w13 ⟨rfl, hb⟩; refine ⟨_, rfl, ?_⟩; replace BK166 := kb BK166 hb; replace BK167 := kb BK167 hb; replace HB := bs HB hb; (try clear hb); obtain ⟨_, _, _, _, _, _, _, _⟩ := blkc4 BK167) | (go_at_call 91; (with_reducible refine (spec_IsPath.calls a1_0 a1_1 a1_2 a1_3 true _ A8.out).mono ?_); rintro e w15 ⟨rfl, hb⟩; replace BK166 := kb BK166 hb; replace BK167 := kb BK167 hb; replace HB := bs HB hb; (try clear hb); obtain ⟨_, _, _, _, _, _, _, _⟩ := blkc4 BK166; obtain ⟨_, _, _, _, _, _, _, _⟩ := blkc4 BK167))
     go_meet
     case rel => exact ⟨_, ((a1_1 == 2)), rS, H', ⟨oL⟩, ⟨bK BK166⟩, ⟨bK BK167⟩, ⟨bG⟩⟩
    rw [if_neg c10] at H
    have c10b0 : (a0_1 == 2) = false := beq_eq_false_iff_ne.mpr c10
    have c10b1 : (a0_1 != 2) = true := bne_iff_ne.mpr c10
    (first | rw [c10b0] | (simp only [i64_w, i32_w]; rw [c10b0]) | skip)
    have H' := Aside0.mk H
    clear H
    have hnb18 := NB166_167.out
    have hnc18 := NB167_166.out
    obtain ⟨_, _, _, _, _, _, _, _⟩ := blkc4 BK166
    go_wp2_with (first | ((with_reducible refine gate_callee (f := 91) rfl ?_); refine gL (some 7) Try.func91 #[.agg #[.int .i64 a0_0, .int .i64 a0_1, .int .i64 a0_2, .int .i64 a0_3]] ?_; (with_reducible refine (spec_IsPath.calls a0_0 a0_1 a0_2 a0_3 true _ A6.out).mono ?_); rintro e w20 ⟨rfl, hb⟩; refine ⟨_, rfl, ?_⟩; replace BK166 := kb BK166 hb; replace BK167 := kb BK167 hb; replace HB := bs HB hb; (try clear hb); obtain ⟨_, _, _, _, _, _, _, _⟩ := blkc4 BK167) | (go_at_call 91; (with_reducible refine (spec_IsPath.calls a1_0 a1_1 a1_2 a1_3 true _ A8.out).mono ?_); rintro e w22 ⟨rfl, hb⟩; replace BK166 := kb BK166 hb; replace BK167 := kb BK167 hb; replace HB := bs HB hb; (try clear hb); obtain ⟨_, _, _, _, _, _, _, _⟩ := blkc4 BK166))
    go_meet
    case rel => exact ⟨_, (false), rS, H', ⟨oL⟩, ⟨bK BK166⟩, ⟨bK BK167⟩, ⟨bG⟩⟩
   replace c9 := Bool.eq_false_iff.mpr c9
   subst c9
   have H1 : (spec_Conflict.j0 k true a0_0 a0_1 a0_2 a0_3 a1_0 a1_1 a1_2 a1_3) = some r := by rw [if_neg (show ¬ (false = true) by decide)] at H; exact H
   clear H
   have H := H1
   clear H1
   have H' := Aside0.mk H
   clear H
   have hnb24 := NB166_167.out
   have hnc24 := NB167_166.out
   obtain ⟨_, _, _, _, _, _, _, _⟩ := blkc4 BK166
   go_wp2_with (first | ((with_reducible refine gate_callee (f := 91) rfl ?_); refine gL (some 7) Try.func91 #[.agg #[.int .i64 a0_0, .int .i64 a0_1, .int .i64 a0_2, .int .i64 a0_3]] ?_; (with_reducible refine (spec_IsPath.calls a0_0 a0_1 a0_2 a0_3 true _ A6.out).mono ?_); rintro e w26 ⟨rfl, hb⟩; refine ⟨_, rfl, ?_⟩; replace BK166 := kb BK166 hb; replace BK167 := kb BK167 hb; replace HB := bs HB hb; (try clear hb); obtain ⟨_, _, _, _, _, _, _, _⟩ := blkc4 BK167) | (go_at_call 91; (with_reducible refine (spec_IsPath.calls a1_0 a1_1 a1_2 a1_3 false _ A8.out).mono ?_); rintro e w28 ⟨rfl, hb⟩; replace BK166 := kb BK166 hb; replace BK167 := kb BK167 hb; replace HB := bs HB hb; (try clear hb)))
   go_meet
   case rel => exact ⟨_, (true), rS, H', ⟨oL⟩, ⟨bK BK166⟩, ⟨bK BK167⟩, ⟨bG⟩⟩
  replace c7 := Bool.eq_false_iff.mpr c7
  subst c7
  have H1 : (spec_Conflict.j0 k true a0_0 a0_1 a0_2 a0_3 a1_0 a1_1 a1_2 a1_3) = some r := by rw [if_neg (show ¬ (false = true) by decide)] at H; exact H
  clear H
  have H := H1
  clear H1
  have H' := Aside0.mk H
  clear H
  have hnb29 := NB166_167.out
  have hnc29 := NB167_166.out
  obtain ⟨_, _, _, _, _, _, _, _⟩ := blkc4 BK166
  go_wp2_with (first | ((with_reducible refine gate_callee (f := 91) rfl ?_); refine gL (some 7) Try.func91 #[.agg #[.int .i64 a0_0, .int .i64 a0_1, .int .i64 a0_2, .int .i64 a0_3]] ?_; (with_reducible refine (spec_IsPath.calls a0_0 a0_1 a0_2 a0_3 false _ A6.out).mono ?_); rintro e w31 ⟨rfl, hb⟩; refine ⟨_, rfl, ?_⟩; replace BK166 := kb BK166 hb; replace BK167 := kb BK167 hb; replace HB := bs HB hb; (try clear hb)))
  go_meet
  case rel => exact ⟨_, (true), rS, H', ⟨oL⟩, ⟨bK BK166⟩, ⟨bK BK167⟩, ⟨bG⟩⟩
 case rest =>
  clear HC3
  obtain ⟨kq, x5_2, rfl, HA, HJ2, BK166, BK167, HB⟩ := hcut
  cases kq with
  | zero => exact absurd HA.out (by simp [spec_Conflict.j0])
  | succ kj2 =>
   have H := HA.out
   clear HA
   simp only [spec_Conflict.j0] at H
   by_cases c32 : x5_2 = true
   ·
    subst c32
    have H1 : (some false) = some r := by rw [if_pos rfl] at H; exact H
    clear H
    have H := H1
    clear H1
    obtain rfl := Option.some.inj H
    go_wp2
    go_ret
    exact ⟨rA, bG⟩
   replace c32 := Bool.eq_false_iff.mpr c32
   subst c32
   have H1 : (if a0_1 = 2 then (if a1_2 = a0_2 then (some true) else (some (a1_3 == a0_2))) else (if a1_1 = 2 then (if a0_2 = a1_2 then (some true) else (some (a0_3 == a1_2))) else (if a0_2 = a1_2 then (some false) else (if a0_3 = a1_3 then (some true) else ((spec_InPlace.f a0_2).bind fun t170 => ((spec_OutPlace.f a0_3).bind fun t171 => ((spec_InPlace.f a1_2).bind fun t172 => ((spec_OutPlace.f a1_3).bind fun t173 => ((spec_Interleave.f kj2 t170 t171 t172 t173).bind fun t174 => (some t174)))))))))) = some r := by rw [if_neg (show ¬ (false = true) by decide)] at H; exact H
   clear H
   have H := H1
   clear H1
   by_cases c33 : a0_1 = 2
   ·
    rw [if_pos c33] at H
    have c33b0 : (a0_1 == 2) = true := beq_iff_eq.mpr c33
    have c33b1 : (a0_1 != 2) = false := bne_eq_false_iff_eq.mpr c33
    clear c33
    by_cases c34 : a1_2 = a0_2
    ·
     rw [if_pos c34] at H
     have c34b0 : (a1_2 == a0_2) = true := beq_iff_eq.mpr c34
     have c34b1 : (a1_2 != a0_2) = false := bne_eq_false_iff_eq.mpr c34
     clear c34
     obtain rfl := Option.some.inj H
     have hnb35 := NB166_167.out
     have hnc35 := NB167_166.out
     obtain ⟨_, _, _, _, _, _, _, _⟩ := blkc4 BK166
     obtain ⟨_, _, _, _, _, _, _, _⟩ := blkc4 BK167
     go_wp2
     go_ret
     exact ⟨rA, bG⟩
    rw [if_neg c34] at H
    have c34b0 : (a1_2 == a0_2) = false := beq_eq_false_iff_ne.mpr c34
    have c34b1 : (a1_2 != a0_2) = true := bne_iff_ne.mpr c34
    obtain rfl := Option.some.inj H
    have hnb38 := NB166_167.out
    have hnc38 := NB167_166.out
    obtain ⟨_, _, _, _, _, _, _, _⟩ := blkc4 BK166
    obtain ⟨_, _, _, _, _, _, _, _⟩ := blkc4 BK167
    go_wp2
    go_ret
    exact ⟨rA, bG⟩
   rw [if_neg c33] at H
   have c33b0 : (a0_1 == 2) = false := beq_eq_false_iff_ne.mpr c33
   have c33b1 : (a0_1 != 2) = true := bne_iff_ne.mpr c33
   by_cases c41 : a1_1 = 2
   ·
    rw [if_pos c41] at H
    have c41b0 : (a1_1 == 2) = true := beq_iff_eq.mpr c41
    have c41b1 : (a1_1 != 2) = false := bne_eq_false_iff_eq.mpr c41
    clear c41
    by_cases c42 : a0_2 = a1_2
    ·
     rw [if_pos c42] at H
     have c42b0 : (a0_2 == a1_2) = true := beq_iff_eq.mpr c42
     have c42b1 : (a0_2 != a1_2) = false := bne_eq_false_iff_eq.mpr c42
     clear c42
     obtain rfl := Option.some.inj H
     have hnb43 := NB166_167.out
     have hnc43 := NB167_166.out
     obtain ⟨_, _, _, _, _, _, _, _⟩ := blkc4 BK166
     obtain ⟨_, _, _, _, _, _, _, _⟩ := blkc4 BK167
     go_wp2
     go_ret
     exact ⟨rA, bG⟩
    rw [if_neg c42] at H
    have c42b0 : (a0_2 == a1_2) = false := beq_eq_false_iff_ne.mpr c42
    have c42b1 : (a0_2 != a1_2) = true := bne_iff_ne.mpr c42
    obtain rfl := Option.some.inj H
    have hnb46 := NB166_167.out
    have hnc46 := NB167_166.out
    obtain ⟨_, _, _, _, _, _, _, _⟩ := blkc4 BK166
    obtain ⟨_, _, _, _, _, _, _, _⟩ := blkc4 BK167
    go_wp2
    go_ret
    exact ⟨rA, bG⟩
   rw [if_neg c41] at H
   have c41b0 : (a1_1 == 2) = false := beq_eq_false_iff_ne.mpr c41
   have c41b1 : (a1_1 != 2) = true := bne_iff_ne.mpr c41
   by_cases c49 : a0_2 = a1_2
   ·
    rw [if_pos c49] at H
    have c49b0 : (a0_2 == a1_2) = true := beq_iff_eq.mpr c49
    have c49b1 : (a0_2 != a1_2) = false := bne_eq_false_iff_eq.mpr c49
    clear c49
    obtain rfl := Option.some.inj H
    have hnb50 := NB166_167.out
    have hnc50 := NB167_166.out
    obtain ⟨_, _, _, _, _, _, _, _⟩ := blkc4 BK166
    obtain ⟨_, _, _, _, _, _, _, _⟩ := blkc4 BK167
    go_wp2
    go_ret
    exact ⟨rA, bG⟩
   rw [if_neg c49] at H
   have c49b0 : (a0_2 == a1_2) = false := beq_eq_false_iff_ne.mpr c49
   have c49b1 : (a0_2 != a1_2) = true := bne_iff_ne.mpr c49
   by_cases c53 : a0_3 = a1_3
   ·
    rw [if_pos c53] at H
    have c53b0 : (a0_3 == a1_3) = true := beq_iff_eq.mpr c53
    have c53b1 : (a0_3 != a1_3) = false := bne_eq_false_iff_eq.mpr c53
    clear c53
    obtain rfl := Option.some.inj H
    have hnb54 := NB166_167.out
    have hnc54 := NB167_166.out
    obtain ⟨_, _, _, _, _, _, _, _⟩ := blkc4 BK166
    obtain ⟨_, _, _, _, _, _, _, _⟩ := blkc4 BK167
    go_wp2
    go_ret
    exact ⟨rA, bG⟩
   rw [if_neg c53] at H
   have c53b0 : (a0_3 == a1_3) = false := beq_eq_false_iff_ne.mpr c53
   have c53b1 : (a0_3 != a1_3) = true := bne_iff_ne.mpr c53
   obtain ⟨t170, A57, H⟩ := bindE H
   try dsimp only at H
   obtain ⟨t171, A58, H⟩ := bindE H
   try dsimp only at H
   obtain ⟨t172, A59, H⟩ := bindE H
   try dsimp only at H
   obtain ⟨t173, A60, H⟩ := bindE H
   try dsimp only at H
   obtain ⟨t174, A61, H⟩ := bindE H
   try dsimp only at H
   obtain rfl := Option.some.inj H
   have hnb62 := NB166_167.out
   have hnc62 := NB167_166.out
   obtain ⟨_, _, _, _, _, _, _, _⟩ := blkc4 BK166
   obtain ⟨_, _, _, _, _, _, _, _⟩ := blkc4 BK167
   try go_wp2
   replace BK166 := dk BK166
   replace BK167 := dk BK167
   have HBo := HB
   replace HB := db HB
   refine sw (ds := []) 14 (mb 14 0) spec_Conflict.tab11 spec_Conflict.bits11 (h4c BK166 (h4 BK167)) (fun hHeld HT_ HW_ => ?_)
   generalize wc.drew = w65 at BK166 BK167 HB hHeld ⊢
   refine pa 0 68 (mb 14 1) HT_ ?_
   refine pa 3 71 (mb 14 9) HT_ ?_
   refine pa 6 74 (mb 14 73) HT_ ?_
   refine pa 9 77 (mb 14 585) HT_ ?_
   refine ta8 1 69 (mb 14 587) HT_ HW_ hHeld ?_
   refine ta8 4 72 (mb 14 603) HT_ HW_ hHeld ?_
   refine ta8 7 75 (mb 14 731) HT_ HW_ hHeld ?_
   refine ta8 10 78 (mb 14 1755) HT_ HW_ hHeld ?_
   refine oa 2 70 (mb 14 1759) HT_ (fun K hK => ?_)
   refine gA Try.func168 #[.int .i64 a0_2] ?_
   with_reducible refine (spec_InPlace.calls a0_2 t170 _ A57.out).mono ?_
   rintro e w' ⟨rfl, ⟨nd, rfl⟩⟩
   refine ⟨_, rfl, ?_⟩
   refine hK.out _ _ (cm4 BK166 (cn4 BK167)) (fun hHeld => ?_)
   clear hK K
   refine nB ?_
   refine oa 5 73 (mb 14 1791) HT_ (fun K hK => ?_)
   refine gA Try.func169 #[.int .i64 a0_3] ?_
   with_reducible refine (spec_OutPlace.calls a0_3 t171 _ A58.out).mono ?_
   rintro e w' ⟨rfl, ⟨nd, rfl⟩⟩
   refine ⟨_, rfl, ?_⟩
   refine hK.out _ _ (cm4 BK166 (cn4 BK167)) (fun hHeld => ?_)
   clear hK K
   refine nB ?_
   refine oa 8 76 (mb 14 2047) HT_ (fun K hK => ?_)
   refine gA Try.func168 #[.int .i64 a1_2] ?_
   with_reducible refine (spec_InPlace.calls a1_2 t172 _ A59.out).mono ?_
   rintro e w' ⟨rfl, ⟨nd, rfl⟩⟩
   refine ⟨_, rfl, ?_⟩
   refine hK.out _ _ (cm4 BK166 (cn4 BK167)) (fun hHeld => ?_)
   clear hK K
   refine nB ?_
   refine oa 11 79 (mb 14 4095) HT_ (fun K hK => ?_)
   refine gA Try.func169 #[.int .i64 a1_3] ?_
   with_reducible refine (spec_OutPlace.calls a1_3 t173 _ A60.out).mono ?_
   rintro e w' ⟨rfl, ⟨nd, rfl⟩⟩
   refine ⟨_, rfl, ?_⟩
   refine hK.out _ _ (cm4 BK166 (cn4 BK167)) (fun hHeld => ?_)
   clear hK K
   refine nB ?_
   refine oa 12 80 (mb 14 8191) HT_ (fun K hK => ?_)
   refine gA Try.func167 #[.int .i64 t170, .int .i64 t171, .int .i64 t172, .int .i64 t173] ?_
   with_reducible refine (spec_Interleave.calls kj2 t170 t171 t172 t173 t174 _ A61.out).mono ?_
   rintro e w66 ⟨rfl, hb⟩
   refine ⟨_, rfl, ?_⟩
   replace BK166 := kb BK166 hb
   replace BK167 := kb BK167 hb
   replace HB := bs HB hb
   (try clear hb)
   (try clear hb2)
   (try clear hk)
   (try clear hi)
   refine hK.out _ _ (cm4 BK166 (cn4 BK167)) (fun hHeld => ?_)
   clear hK K
   refine nB ?_
   refine pa 13 4 (mb 14 16383) HT_ ?_
   refine eA HT_ ?_
   try go_wp2
   go_ret
   exact ⟨rA, bG⟩

/-! ### spec_IsTogether: function 112 -/
mutual
def spec_IsTogether.l0 : Nat → List (S50) → List Int → Int → Option (Bool)
 | 0, _, _, _ => none
 | k + 1, x0, x1, x5 => if x5 < (x1.length : Int) then (if 0 ≤ x5 then ((spec_FindPath.f k x0 (rd x1 x5)).bind fun t177 => (if t177 < 0 then (spec_IsTogether.j1 k x0 x1 x5 t177 true) else (if x5 > 0 then (if 0 ≤ (wrap64 (x5 - 1)) then (if (wrap64 (x5 - 1)) < (x1.length : Int) then (spec_IsTogether.j1 k x0 x1 x5 t177 (decide ((rd x1 (wrap64 (x5 - 1))) ≥ (rd x1 x5)))) else (none)) else (none)) else (spec_IsTogether.j1 k x0 x1 x5 t177 false)))) else (none)) else ((spec_ArePaths.f k x0).bind fun t175 => (some t175))
def spec_IsTogether.j1 : Nat → List (S50) → List Int → Int → Int → Bool → Option (Bool)
 | 0, _, _, _, _, _ => none
 | k + 1, x0, x1, x5, x6, x37 => if x37 = true then (some false) else (spec_IsTogether.l1 k x0 x1 x5 x6 0)
def spec_IsTogether.l1 : Nat → List (S50) → List Int → Int → Int → Int → Option (Bool)
 | 0, _, _, _, _, _ => none
 | k + 1, x0, x1, x5, x6, x7 => if x7 < x5 then (if 0 ≤ x6 then (if x6 < (x0.length : Int) then (if 0 ≤ x7 then (if x7 < (x1.length : Int) then ((spec_FindPath.f k x0 (rd x1 x7)).bind fun t182 => (if 0 ≤ t182 then (if t182 < (x0.length : Int) then ((spec_Conflict.f k ((rd_T50 x0 x6).f0) ((rd_T50 x0 x6).f1) ((rd_T50 x0 x6).f2) ((rd_T50 x0 x6).f3) ((rd_T50 x0 t182).f0) ((rd_T50 x0 t182).f1) ((rd_T50 x0 t182).f2) ((rd_T50 x0 t182).f3)).bind fun t184 => (if t184 = true then (some false) else (spec_IsTogether.l1 k x0 x1 x5 x6 (wrap64 (x7 + 1))))) else (none)) else (none))) else (none)) else (none)) else (none)) else (none)) else (spec_IsTogether.l0 k x0 x1 (wrap64 (x5 + 1)))
end
def spec_IsTogether.f (k : Nat) (l0 : List (S50)) (l1 : List Int) : Option (Bool) := spec_IsTogether.l0 k l0 l1 0
theorem spec_IsTogether.mono_l : ∀ k, (∀ y0 y1 y2, LeO (spec_IsTogether.l0 k y0 y1 y2) (spec_IsTogether.l0 (k + 1) y0 y1 y2)) ∧ (∀ y0 y1 y2 y3 y4, LeO (spec_IsTogether.j1 k y0 y1 y2 y3 y4) (spec_IsTogether.j1 (k + 1) y0 y1 y2 y3 y4)) ∧ (∀ y0 y1 y2 y3 y4, LeO (spec_IsTogether.l1 k y0 y1 y2 y3 y4) (spec_IsTogether.l1 (k + 1) y0 y1 y2 y3 y4))
 | 0 => ⟨fun _ _ _ r h => by simp [spec_IsTogether.l0] at h, fun _ _ _ _ _ r h => by simp [spec_IsTogether.j1] at h, fun _ _ _ _ _ r h => by simp [spec_IsTogether.l1] at h⟩
 | k + 1 => by
  obtain ⟨ih0, ih1, ih2⟩ := spec_IsTogether.mono_l k
  refine ⟨?_, ?_, ?_⟩
  ·
   intro y0 y1 y2
   unfold spec_IsTogether.l0
   exact mz6 ih0 ih1 ih2 spec_ArePaths.mono spec_Conflict.mono spec_FindPath.mono
  ·
   intro y0 y1 y2 y3 y4
   unfold spec_IsTogether.j1
   exact mz6 ih0 ih1 ih2 spec_ArePaths.mono spec_Conflict.mono spec_FindPath.mono
  ·
   intro y0 y1 y2 y3 y4
   unfold spec_IsTogether.l1
   exact mz6 ih0 ih1 ih2 spec_ArePaths.mono spec_Conflict.mono spec_FindPath.mono
theorem spec_IsTogether.mono : ∀ a0 a1 k, LeO (spec_IsTogether.f k a0 a1) (spec_IsTogether.f (k + 1) a0 a1) := by
 intro a0 a1 k
 obtain ⟨ih0, ih1, ih2⟩ := spec_IsTogether.mono_l k
 unfold spec_IsTogether.f
 exact mz6 ih0 ih1 ih2 spec_ArePaths.mono spec_Conflict.mono spec_FindPath.mono
def spec_IsTogether.T5 : Bool × List (List Nat × List Nat) := (true, [([], []), ([0], [0]), ([1], [1]), ([2], [2]), ([3, 2], [2, 3]), ([4, 2, 2], [2, 4]), ([5], [5]), ([5], [5]), ([7, 5], [5, 7]), ([6, 8, 5], [5, 6, 8]), ([9, 5], [5, 9]), ([5], [5]), ([5], [5]), ([11, 12, 5], [5, 11, 12]), ([13, 5], [5, 13]), ([10, 14, 5], [5, 10, 14]), ([5, 15, 2], [2, 5, 15]), ([2, 16], [2, 16])])
def spec_IsTogether.B5 : List Nat := [0, 1, 3, 7, 15, 31, 63, 63, 191, 511, 1023, 63, 63, 6207, 14399, 32767, 65535, 131071]
theorem spec_IsTogether.tab5 : rtab .any (opsOf Try.f112 5) = spec_IsTogether.T5 := by kernel_rfl
theorem spec_IsTogether.bits5 : waitsOk spec_IsTogether.T5.2 spec_IsTogether.B5 = true := by kernel_rfl
def spec_IsTogether.T10 : Bool × List (List Nat × List Nat) := (true, [([], []), ([], []), ([0, 1], [0, 1]), ([2], [2]), ([], []), ([], []), ([], []), ([], []), ([6, 7], [6, 7]), ([8], [8]), ([5, 9], [5, 9]), ([4, 10], [4, 10]), ([11], [11]), ([3, 12, 10], [3, 12])])
def spec_IsTogether.B10 : List Nat := [0, 0, 3, 7, 0, 0, 0, 0, 192, 448, 992, 2032, 4080, 8191]
theorem spec_IsTogether.tab10 : rtab .any (opsOf Try.f112 10) = spec_IsTogether.T10 := by kernel_rfl
theorem spec_IsTogether.bits10 : waitsOk spec_IsTogether.T10.2 spec_IsTogether.B10 = true := by kernel_rfl
set_option maxHeartbeats 8000000 in
set_option maxRecDepth 100000 in
theorem spec_IsTogether.calls (k : Nat) (A0 : Option Addr) (c0 : Nat) (l0 : List (S50)) (A1 : Option Addr) (c1 : Nat) (l1 : List Int) (r : Bool) (w : World) (hr0 : Kd.C k50 w A0 l0.length l0) (hc0 : l0.length ≤ c0) (hr1 : Kd.C (Kd.int .i64) w A1 l1.length l1) (hc1 : l1.length ≤ c1) (h : spec_IsTogether.f k l0 l1 = some r) :
  Calls Try.prog 112 #[.slice A0 l0.length c0, .slice A1 l1.length c1] w fun e w' => e = .returned (.bool r) ∧ Below w.heap.size w w' := by
 have hu50 := Try.underlying50
 have HR0 := Aside0.mk hr0
 have HC0 := Aside0.mk hc0
 clear hr0 hc0
 have HR1 := Aside0.mk hr1
 have HC1 := Aside0.mk hc1
 clear hr1 hc1
 have HB := Aside0.mk (Below.refl w.heap.size w)
 have H : (spec_IsTogether.l0 k l0 l1 0) = some r := h
 clear h
 have H' := Aside0.mk H
 clear H
 go_enter Try.func112, Try.ntmps112
 go_wp2
 go_loopg [5] k (fun kq v5 w' => ∃ (x5_1 : Int), v5 = .int .i64 x5_1 ∧ Aside0 (spec_IsTogether.l0 kq l0 l1 x5_1 = some r) ∧ Aside0 (kq ≤ k) ∧ Aside0 (Below w.heap.size w w'))
 case atStart => exact ⟨(0), rS, H', ⟨Nat.le_refl _⟩, ⟨bA⟩⟩
 case round =>
  clear H'
  obtain ⟨x5_1, rfl, HA, HK1, HB⟩ := hrel
  cases gk with
  | zero => exact absurd HA.out (by simp [spec_IsTogether.l0])
  | succ k1 =>
   have H := HA.out
   clear HA
   simp only [spec_IsTogether.l0] at H
   by_cases c3 : x5_1 < (l1.length : Int)
   ·
    rw [if_pos c3] at H
    have c3b0 := decide_eq_true c3
    clear c3
    have c4 : 0 ≤ x5_1 := ifN H
    replace H := ifT H
    have c4b0 := decide_eq_true c4
    clear c4
    obtain ⟨t177, A5, H⟩ := bindE H
    try dsimp only at H
    have HC6 := Aside0.mk H
    clear H
    obtain ⟨p176, q176⟩ : 0 ≤ (x5_1 : Int) ∧ x5_1 < (l1.length : Int) := ⟨dA, dA⟩
    obtain ⟨ad176, e176, hx176_0⟩ := Kd.at_int (Kd.C_below HR1.out HB.out) x5_1 p176 q176
    cases e176
    obtain ⟨p176, q176⟩ := eT p176 q176
    go_upto_region 5 with (first | ((with_reducible refine gate_callee (f := 144) rfl ?_); refine gL (some 19) Try.func144 #[.slice A0 l0.length c0, .int .i64 (rd l1 x5_1)] ?_; (with_reducible refine (spec_FindPath.calls k1 _ _ l0 (rd l1 x5_1) t177 _ ?_ ?_ A5.out).mono ?_); exact cB HR0; exact HC0.out; rintro e w' ⟨rfl, ⟨nd, rfl⟩⟩; refine ⟨_, rfl, ?_⟩))
    (try simp only [Act.put, List.setIfInBounds_toArray, List.set_cons_zero, List.set_cons_succ])
    go_cut [37] (fun v37 wc => ∃ (kq : Nat) (x37_5 : Bool), v37 = .bool x37_5 ∧ Aside0 (spec_IsTogether.j1 kq l0 l1 x5_1 t177 x37_5 = some r) ∧ Aside0 (kq ≤ k1) ∧ Aside0 (Below w.heap.size w wc))
    case first =>
     have H := HC6.out
     clear HC6
     by_cases c7 : t177 < 0
     ·
      rw [if_pos c7] at H
      have c7b0 := decide_eq_true c7
      clear c7
      (first | rw [c7b0] | (simp only [i64_w, i32_w]; rw [c7b0]) | skip)
      have H' := Aside0.mk H
      clear H
      try go_wp2
      have HBo := HB
      replace HB := db HB
      refine sw (ds := []) 18 (mb 18 0) spec_IsTogether.tab5 spec_IsTogether.bits5 h0 (fun hHeld HT_ HW_ => ?_)
      generalize wr.drew = w8 at HB hHeld ⊢
      refine pa 0 20 (mb 18 1) HT_ ?_
      refine pa 1 21 (mb 18 3) HT_ ?_
      refine pa 2 22 (mb 18 7) HT_ ?_
      refine pu 3 23 (mb 18 15) HT_ ?_
      refine pu 4 24 (mb 18 31) HT_ ?_
      refine pu 5 25 (mb 18 63) HT_ ?_
      refine pu 6 26 (mb 18 127) HT_ ?_
      refine pu 7 27 (mb 18 255) HT_ ?_
      refine pu 8 28 (mb 18 511) HT_ ?_
      refine pu 9 29 (mb 18 1023) HT_ ?_
      refine pu 10 30 (mb 18 2047) HT_ ?_
      refine pu 11 31 (mb 18 4095) HT_ ?_
      refine pu 12 32 (mb 18 8191) HT_ ?_
      refine pu 13 33 (mb 18 16383) HT_ ?_
      refine pu 14 34 (mb 18 32767) HT_ ?_
      refine pu 15 35 (mb 18 65535) HT_ ?_
      refine pu 16 36 (mb 18 131071) HT_ ?_
      refine pa 17 37 (mb 18 262143) HT_ ?_
      refine eA HT_ ?_
      try go_wp2
      go_meet
      case rel => exact ⟨_, (true), rS, H', ⟨by have := HK1.out; first | omega | exact Nat.le_refl _⟩, ⟨bA⟩⟩
     rw [if_neg c7] at H
     have c7b0 := decide_eq_false c7
     clear c7
     (first | rw [c7b0] | (simp only [i64_w, i32_w]; rw [c7b0]) | skip)
     by_cases c9 : x5_1 > 0
     ·
      rw [if_pos c9] at H
      have c9b0 := decide_eq_true c9
      clear c9
      obtain ⟨ji10, hji10⟩ : ∃ j_ : Int, (wrap64 (x5_1 - 1)) = j_ := ⟨_, rfl⟩
      replace H : (if 0 ≤ (ji10) then (if (ji10) < (l1.length : Int) then (spec_IsTogether.j1 k1 l0 l1 x5_1 t177 (decide ((rd l1 (ji10)) ≥ (rd l1 x5_1)))) else (none)) else (none)) = some r := by first | (rw [hji10] at H; exact H) | (simp only [hji10] at H ⊢; exact H)
      have hji10w : (IntKind.i64.wrap (x5_1 - 1)) = ji10 := (i64_w _).trans hji10
      have c11 : 0 ≤ (ji10) := ifN H
      replace H := ifT H
      have c11b0 := decide_eq_true c11
      clear c11
      have c12 : (ji10) < (l1.length : Int) := ifN H
      replace H := ifT H
      have c12b0 := decide_eq_true c12
      clear c12
      have H' := Aside0.mk H
      clear H
      try go_wp2
      have HBo := HB
      replace HB := db HB
      obtain ⟨p178, q178⟩ : 0 ≤ ((ji10) : Int) ∧ (ji10) < (l1.length : Int) := ⟨dA, dA⟩
      obtain ⟨ad178, e178, hx178_0⟩ := Kd.at_int HR1.out (ji10) p178 q178
      have hw178_0 := hx178_0
      obtain rfl : ad176 = ad178 := (by injection e178)
      replace hx178_0 := hC HB hx178_0
      obtain ⟨p178, q178⟩ := eT p178 q178
      obtain ⟨p179, q179⟩ : 0 ≤ (x5_1 : Int) ∧ x5_1 < (l1.length : Int) := ⟨dA, dA⟩
      obtain ⟨ad179, e179, hx179_0⟩ := Kd.at_int HR1.out x5_1 p179 q179
      have hw179_0 := hx179_0
      obtain rfl : ad176 = ad179 := (by injection e179)
      replace hx179_0 := hC HB hx179_0
      obtain ⟨p179, q179⟩ := eT p179 q179
      refine sw (ds := []) 18 (mb 18 0) spec_IsTogether.tab5 spec_IsTogether.bits5 (h1c (hC HB hw178_0) (h1 (hC HB hw179_0))) (fun hHeld HT_ HW_ => ?_)
      generalize wr.drew = w13 at HB hx178_0 hx179_0 hHeld ⊢
      refine pa 0 20 (mb 18 1) HT_ ?_
      refine pa 1 21 (mb 18 3) HT_ ?_
      refine pa 2 22 (mb 18 7) HT_ ?_
      refine pa 3 23 (mb 18 15) HT_ ?_
      refine pa 4 24 (mb 18 31) HT_ ?_
      refine pa 5 25 (mb 18 63) HT_ ?_
      refine pa 6 26 (mb 18 127) HT_ ?_
      refine pa 7 27 (mb 18 255) HT_ ?_
      refine pa 8 28 (mb 18 511) HT_ ?_
      refine pa 9 29 (mb 18 1023) HT_ ?_
      refine pa 11 31 (mb 18 3071) HT_ ?_
      refine pa 12 32 (mb 18 7167) HT_ ?_
      refine pa 13 33 (mb 18 15359) HT_ ?_
      refine ta2 10 30 (mb 18 16383) HT_ HW_ hHeld ?_
      refine ta2 14 34 (mb 18 32767) HT_ HW_ hHeld ?_
      refine pa 15 35 (mb 18 65535) HT_ ?_
      refine pa 16 36 (mb 18 131071) HT_ ?_
      refine pa 17 37 (mb 18 262143) HT_ ?_
      refine eA HT_ ?_
      try go_wp2
      go_meet
      case rel => exact ⟨_, (decide ((rd l1 (ji10)) ≥ (rd l1 x5_1))), (by first | rfl | (simp; done) | (simp only [← hji10] <;> (first | rfl | simp)) | (simp [*]; done)), H', ⟨by have := HK1.out; first | omega | exact Nat.le_refl _⟩, ⟨bA⟩⟩
     rw [if_neg c9] at H
     have c9b0 := decide_eq_false c9
     clear c9
     have H' := Aside0.mk H
     clear H
     try go_wp2
     have HBo := HB
     replace HB := db HB
     refine sw (ds := []) 18 (mb 18 0) spec_IsTogether.tab5 spec_IsTogether.bits5 h0 (fun hHeld HT_ HW_ => ?_)
     generalize wr.drew = w14 at HB hHeld ⊢
     refine pa 0 20 (mb 18 1) HT_ ?_
     refine pa 1 21 (mb 18 3) HT_ ?_
     refine pa 2 22 (mb 18 7) HT_ ?_
     refine pa 3 23 (mb 18 15) HT_ ?_
     refine pa 4 24 (mb 18 31) HT_ ?_
     refine pa 5 25 (mb 18 63) HT_ ?_
     refine pu 6 26 (mb 18 127) HT_ ?_
     refine pu 7 27 (mb 18 255) HT_ ?_
     refine pu 8 28 (mb 18 511) HT_ ?_
     refine pu 9 29 (mb 18 1023) HT_ ?_
     refine pu 10 30 (mb 18 2047) HT_ ?_
     refine pu 11 31 (mb 18 4095) HT_ ?_
     refine pu 12 32 (mb 18 8191) HT_ ?_
     refine pu 13 33 (mb 18 16383) HT_ ?_
     refine pu 14 34 (mb 18 32767) HT_ ?_
     refine pu 15 35 (mb 18 65535) HT_ ?_
     refine pa 16 36 (mb 18 131071) HT_ ?_
     refine pa 17 37 (mb 18 262143) HT_ ?_
     refine eA HT_ ?_
     try go_wp2
     go_meet
     case rel => exact ⟨_, (false), rS, H', ⟨by have := HK1.out; first | omega | exact Nat.le_refl _⟩, ⟨bA⟩⟩
    case rest =>
     clear HC6
     obtain ⟨kq, x37_5, rfl, HA, HJ5, HB⟩ := hcut
     cases kq with
     | zero => exact absurd HA.out (by simp [spec_IsTogether.j1])
     | succ kj5 =>
      have H := HA.out
      clear HA
      simp only [spec_IsTogether.j1] at H
      by_cases c15 : x37_5 = true
      ·
       subst c15
       have H1 : (some false) = some r := by rw [if_pos rfl] at H; exact H
       clear H
       have H := H1
       clear H1
       obtain rfl := Option.some.inj H
       go_wp2
       go_ret
       exact ⟨rA, bA⟩
      replace c15 := Bool.eq_false_iff.mpr c15
      subst c15
      have H1 : (spec_IsTogether.l1 kj5 l0 l1 x5_1 t177 0) = some r := by rw [if_neg (show ¬ (false = true) by decide)] at H; exact H
      clear H
      have H := H1
      clear H1
      have H' := Aside0.mk H
      clear H
      go_wp2
      go_loopg [7] kj5 (fun kq v7 w' => ∃ (x7_3 : Int), v7 = .int .i64 x7_3 ∧ Aside0 (spec_IsTogether.l1 kq l0 l1 x5_1 t177 x7_3 = some r) ∧ Aside0 (kq ≤ kj5) ∧ Aside0 (Below w.heap.size w w'))
      case atStart => exact ⟨(0), rS, H', ⟨Nat.le_refl _⟩, ⟨bA⟩⟩
      case round =>
       clear H'
       obtain ⟨x7_3, rfl, HA, HK3, HB⟩ := hrel
       cases gk with
       | zero => exact absurd HA.out (by simp [spec_IsTogether.l1])
       | succ k3 =>
        have H := HA.out
        clear HA
        simp only [spec_IsTogether.l1] at H
        by_cases c16 : x7_3 < x5_1
        ·
         rw [if_pos c16] at H
         have c16b0 := decide_eq_true c16
         clear c16
         have c17 : 0 ≤ t177 := ifN H
         replace H := ifT H
         have c17b0 := decide_eq_true c17
         clear c17
         have c18 : t177 < (l0.length : Int) := ifN H
         replace H := ifT H
         have c18b0 := decide_eq_true c18
         clear c18
         have c19 : 0 ≤ x7_3 := ifN H
         replace H := ifT H
         have c19b0 := decide_eq_true c19
         clear c19
         have c20 : x7_3 < (l1.length : Int) := ifN H
         replace H := ifT H
         have c20b0 := decide_eq_true c20
         clear c20
         obtain ⟨t182, A21, H⟩ := bindE H
         try dsimp only at H
         have c22 : 0 ≤ t182 := ifN H
         replace H := ifT H
         have c22b0 := decide_eq_true c22
         clear c22
         have c23 : t182 < (l0.length : Int) := ifN H
         replace H := ifT H
         have c23b0 := decide_eq_true c23
         clear c23
         obtain ⟨t184, A24, H⟩ := bindE H
         try dsimp only at H
         by_cases c25 : t184 = true
         ·
          subst c25
          have H1 : (some false) = some r := by rw [if_pos rfl] at H; exact H
          clear H
          have H := H1
          clear H1
          obtain rfl := Option.some.inj H
          try go_wp2
          have HBo := HB
          replace HB := db HB
          obtain ⟨p180, q180⟩ : 0 ≤ (t177 : Int) ∧ t177 < (l0.length : Int) := ⟨dA, dA⟩
          obtain ⟨ad180, e180, hx180_0, hx180_1, hx180_2, hx180_3⟩ := at_T50 HR0.out t177 p180 q180
          have hw180_3 := hx180_3
          have hw180_2 := hx180_2
          have hw180_1 := hx180_1
          have hw180_0 := hx180_0
          cases e180
          replace hx180_0 := hC HB hx180_0
          replace hx180_1 := hC HB hx180_1
          replace hx180_2 := hC HB hx180_2
          replace hx180_3 := hC HB hx180_3
          obtain ⟨p180, q180⟩ := eT p180 q180
          obtain ⟨p181, q181⟩ : 0 ≤ (x7_3 : Int) ∧ x7_3 < (l1.length : Int) := ⟨dA, dA⟩
          obtain ⟨ad181, e181, hx181_0⟩ := Kd.at_int HR1.out x7_3 p181 q181
          have hw181_0 := hx181_0
          obtain rfl : ad176 = ad181 := (by injection e181)
          replace hx181_0 := hC HB hx181_0
          obtain ⟨p181, q181⟩ := eT p181 q181
          obtain ⟨p183, q183⟩ : 0 ≤ (t182 : Int) ∧ t182 < (l0.length : Int) := ⟨dA, dA⟩
          obtain ⟨ad183, e183, hx183_0, hx183_1, hx183_2, hx183_3⟩ := at_T50 HR0.out t182 p183 q183
          have hw183_3 := hx183_3
          have hw183_2 := hx183_2
          have hw183_1 := hx183_1
          have hw183_0 := hx183_0
          obtain rfl : ad180 = ad183 := (by injection e183)
          replace hx183_0 := hC HB hx183_0
          replace hx183_1 := hC HB hx183_1
          replace hx183_2 := hC HB hx183_2
          replace hx183_3 := hC HB hx183_3
          obtain ⟨p183, q183⟩ := eT p183 q183
          refine sw (ds := []) 14 (mb 14 0) spec_IsTogether.tab10 spec_IsTogether.bits10 (h1c (hC HB hw180_0) (h1c (hC HB hw180_1) (h1c (hC HB hw180_2) (h1c (hC HB hw180_3) (h1c (hC HB hw181_0) (h1c (hC HB hw183_0) (h1c (hC HB hw183_1) (h1c (hC HB hw183_2) (h1 (hC HB hw183_3)))))))))) (fun hHeld HT_ HW_ => ?_)
          generalize wr.drew = w26 at HB hx180_0 hx180_1 hx180_2 hx180_3 hx181_0 hx183_0 hx183_1 hx183_2 hx183_3 hHeld ⊢
          refine pa 0 43 (mb 14 1) HT_ ?_
          refine pa 1 44 (mb 14 3) HT_ ?_
          refine pa 2 45 (mb 14 7) HT_ ?_
          refine pa 4 47 (mb 14 23) HT_ ?_
          refine pa 5 48 (mb 14 55) HT_ ?_
          refine pa 6 49 (mb 14 119) HT_ ?_
          refine pa 7 50 (mb 14 247) HT_ ?_
          refine pa 8 51 (mb 14 503) HT_ ?_
          refine ta9 3 46 (mb 14 511) HT_ HW_ hHeld ?_
          refine ta9 9 52 (mb 14 1023) HT_ HW_ hHeld ?_
          refine oa 10 53 (mb 14 2047) HT_ (fun K hK => ?_)
          refine gA Try.func144 #[.slice (some ad180) l0.length c0, .int .i64 (rd l1 x7_3)] ?_
          with_reducible refine (spec_FindPath.calls k3 _ _ l0 (rd l1 x7_3) t182 _ ?side1 ?side2 A21.out).mono ?_
          (case side1 => exact cB HR0)
          (case side2 => exact HC0.out)
          rintro e w' ⟨rfl, ⟨nd, rfl⟩⟩
          refine ⟨_, rfl, ?_⟩
          refine hK.out _ _ ⟨(hC HB hw180_0), (hC HB hw180_1), (hC HB hw180_2), (hC HB hw180_3), (hC HB hw181_0), (hC HB hw183_0), (hC HB hw183_1), (hC HB hw183_2), (hC HB hw183_3)⟩ (fun hHeld => ?_)
          clear hK K
          refine nB ?_
          refine pa 11 54 (mb 14 4095) HT_ ?_
          refine ta9 12 55 (mb 14 8191) HT_ HW_ hHeld ?_
          refine oa 13 56 (mb 14 16383) HT_ (fun K hK => ?_)
          refine gA Try.func145 #[.agg #[.int .i64 ((rd_T50 l0 t177).f0), .int .i64 ((rd_T50 l0 t177).f1), .int .i64 ((rd_T50 l0 t177).f2), .int .i64 ((rd_T50 l0 t177).f3)], .agg #[.int .i64 ((rd_T50 l0 t182).f0), .int .i64 ((rd_T50 l0 t182).f1), .int .i64 ((rd_T50 l0 t182).f2), .int .i64 ((rd_T50 l0 t182).f3)]] ?_
          with_reducible refine (spec_Conflict.calls k3 ((rd_T50 l0 t177).f0) ((rd_T50 l0 t177).f1) ((rd_T50 l0 t177).f2) ((rd_T50 l0 t177).f3) ((rd_T50 l0 t182).f0) ((rd_T50 l0 t182).f1) ((rd_T50 l0 t182).f2) ((rd_T50 l0 t182).f3) true _ A24.out).mono ?_
          rintro e w27 ⟨rfl, hb⟩
          refine ⟨_, rfl, ?_⟩
          replace HB := bs HB hb
          (try clear hb)
          (try clear hb2)
          (try clear hk)
          (try clear hi)
          refine hK.out _ _ ⟨(hC HB hw180_0), (hC HB hw180_1), (hC HB hw180_2), (hC HB hw180_3), (hC HB hw181_0), (hC HB hw183_0), (hC HB hw183_1), (hC HB hw183_2), (hC HB hw183_3)⟩ (fun hHeld => ?_)
          clear hK K
          refine nB ?_
          refine eA HT_ ?_
          try go_wp2
          go_ret
          exact ⟨rA, bA⟩
         replace c25 := Bool.eq_false_iff.mpr c25
         subst c25
         have H1 : (spec_IsTogether.l1 k3 l0 l1 x5_1 t177 (wrap64 (x7_3 + 1))) = some r := by rw [if_neg (show ¬ (false = true) by decide)] at H; exact H
         clear H
         have H := H1
         clear H1
         have H' := Aside0.mk H
         clear H
         try go_wp2
         have HBo := HB
         replace HB := db HB
         obtain ⟨p180, q180⟩ : 0 ≤ (t177 : Int) ∧ t177 < (l0.length : Int) := ⟨dA, dA⟩
         obtain ⟨ad180, e180, hx180_0, hx180_1, hx180_2, hx180_3⟩ := at_T50 HR0.out t177 p180 q180
         have hw180_3 := hx180_3
         have hw180_2 := hx180_2
         have hw180_1 := hx180_1
         have hw180_0 := hx180_0
         cases e180
         replace hx180_0 := hC HB hx180_0
         replace hx180_1 := hC HB hx180_1
         replace hx180_2 := hC HB hx180_2
         replace hx180_3 := hC HB hx180_3
         obtain ⟨p180, q180⟩ := eT p180 q180
         obtain ⟨p181, q181⟩ : 0 ≤ (x7_3 : Int) ∧ x7_3 < (l1.length : Int) := ⟨dA, dA⟩
         obtain ⟨ad181, e181, hx181_0⟩ := Kd.at_int HR1.out x7_3 p181 q181
         have hw181_0 := hx181_0
         obtain rfl : ad176 = ad181 := (by injection e181)
         replace hx181_0 := hC HB hx181_0
         obtain ⟨p181, q181⟩ := eT p181 q181
         obtain ⟨p183, q183⟩ : 0 ≤ (t182 : Int) ∧ t182 < (l0.length : Int) := ⟨dA, dA⟩
         obtain ⟨ad183, e183, hx183_0, hx183_1, hx183_2, hx183_3⟩ := at_T50 HR0.out t182 p183 q183
         have hw183_3 := hx183_3
         have hw183_2 := hx183_2
         have hw183_1 := hx183_1
         have hw183_0 := hx183_0
         obtain rfl : ad180 = ad183 := (by injection e183)
         replace hx183_0 := hC HB hx183_0
         replace hx183_1 := hC HB hx183_1
         replace hx183_2 := hC HB hx183_2
         replace hx183_3 := hC HB hx183_3
         obtain ⟨p183, q183⟩ := eT p183 q183
         refine sw (ds := []) 14 (mb 14 0) spec_IsTogether.tab10 spec_IsTogether.bits10 (h1c (hC HB hw180_0) (h1c (hC HB hw180_1) (h1c (hC HB hw180_2) (h1c (hC HB hw180_3) (h1c (hC HB hw181_0) (h1c (hC HB hw183_0) (h1c (hC HB hw183_1) (h1c (hC HB hw183_2) (h1 (hC HB hw183_3)))))))))) (fun hHeld HT_ HW_ => ?_)
         generalize wr.drew = w28 at HB hx180_0 hx180_1 hx180_2 hx180_3 hx181_0 hx183_0 hx183_1 hx183_2 hx183_3 hHeld ⊢
         refine pa 0 43 (mb 14 1) HT_ ?_
         refine pa 1 44 (mb 14 3) HT_ ?_
         refine pa 2 45 (mb 14 7) HT_ ?_
         refine pa 4 47 (mb 14 23) HT_ ?_
         refine pa 5 48 (mb 14 55) HT_ ?_
         refine pa 6 49 (mb 14 119) HT_ ?_
         refine pa 7 50 (mb 14 247) HT_ ?_
         refine pa 8 51 (mb 14 503) HT_ ?_
         refine ta9 3 46 (mb 14 511) HT_ HW_ hHeld ?_
         refine ta9 9 52 (mb 14 1023) HT_ HW_ hHeld ?_
         refine oa 10 53 (mb 14 2047) HT_ (fun K hK => ?_)
         refine gA Try.func144 #[.slice (some ad180) l0.length c0, .int .i64 (rd l1 x7_3)] ?_
         with_reducible refine (spec_FindPath.calls k3 _ _ l0 (rd l1 x7_3) t182 _ ?side1 ?side2 A21.out).mono ?_
         (case side1 => exact cB HR0)
         (case side2 => exact HC0.out)
         rintro e w' ⟨rfl, ⟨nd, rfl⟩⟩
         refine ⟨_, rfl, ?_⟩
         refine hK.out _ _ ⟨(hC HB hw180_0), (hC HB hw180_1), (hC HB hw180_2), (hC HB hw180_3), (hC HB hw181_0), (hC HB hw183_0), (hC HB hw183_1), (hC HB hw183_2), (hC HB hw183_3)⟩ (fun hHeld => ?_)
         clear hK K
         refine nB ?_
         refine pa 11 54 (mb 14 4095) HT_ ?_
         refine ta9 12 55 (mb 14 8191) HT_ HW_ hHeld ?_
         refine oa 13 56 (mb 14 16383) HT_ (fun K hK => ?_)
         refine gA Try.func145 #[.agg #[.int .i64 ((rd_T50 l0 t177).f0), .int .i64 ((rd_T50 l0 t177).f1), .int .i64 ((rd_T50 l0 t177).f2), .int .i64 ((rd_T50 l0 t177).f3)], .agg #[.int .i64 ((rd_T50 l0 t182).f0), .int .i64 ((rd_T50 l0 t182).f1), .int .i64 ((rd_T50 l0 t182).f2), .int .i64 ((rd_T50 l0 t182).f3)]] ?_
         with_reducible refine (spec_Conflict.calls k3 ((rd_T50 l0 t177).f0) ((rd_T50 l0 t177).f1) ((rd_T50 l0 t177).f2) ((rd_T50 l0 t177).f3) ((rd_T50 l0 t182).f0) ((rd_T50 l0 t182).f1) ((rd_T50 l0 t182).f2) ((rd_T50 l0 t182).f3) false _ A24.out).mono ?_
         rintro e w29 ⟨rfl, hb⟩
         refine ⟨_, rfl, ?_⟩
         replace HB := bs HB hb
         (try clear hb)
         (try clear hb2)
         (try clear hk)
         (try clear hi)
         refine hK.out _ _ ⟨(hC HB hw180_0), (hC HB hw180_1), (hC HB hw180_2), (hC HB hw180_3), (hC HB hw181_0), (hC HB hw183_0), (hC HB hw183_1), (hC HB hw183_2), (hC HB hw183_3)⟩ (fun hHeld => ?_)
         clear hK K
         refine nB ?_
         refine eA HT_ ?_
         try go_wp2
         go_roundg k3
         case measure => have := HK1.out; have := HJ5.out; have := HK3.out; omega
         case rel => exact ⟨(wrap64 (x7_3 + 1)), rS, H', ⟨by have := HK1.out; have := HJ5.out; have := HK3.out; omega⟩, ⟨bA⟩⟩
        rw [if_neg c16] at H
        have c16b0 := decide_eq_false c16
        clear c16
        have H' := Aside0.mk H
        clear H
        go_wp2
        go_roundg k3
        case measure => have := HK1.out; have := HJ5.out; have := HK3.out; omega
        case rel => exact ⟨(wrap64 (x5_1 + 1)), rS, H', ⟨by have := HK1.out; have := HJ5.out; have := HK3.out; omega⟩, ⟨bA⟩⟩
   rw [if_neg c3] at H
   have c3b0 := decide_eq_false c3
   clear c3
   obtain ⟨t175, A30, H⟩ := bindE H
   try dsimp only at H
   obtain rfl := Option.some.inj H
   go_wp2_with (first | ((with_reducible refine gate_callee (f := 33) rfl ?_); refine gL (some 58) Try.func33 #[.slice A0 l0.length c0] ?_; (with_reducible refine (spec_ArePaths.calls k1 _ _ l0 t175 _ ?_ ?_ A30.out).mono ?_); exact cB HR0; exact HC0.out; rintro e w31 ⟨rfl, hb⟩; refine ⟨_, rfl, ?_⟩; replace HB := bs HB hb; (try clear hb)))
   go_ret
   exact ⟨rA, bA⟩

/-! ### spec_LeastGreen: function 113 -/
def spec_LeastGreen.l0 : Nat → List (S50) → List Int → Int → Option (Int)
 | 0, _, _, _ => none
 | k + 1, x0, x1, x5 => if x5 < (x1.length : Int) then (if 0 ≤ x5 then ((spec_FindPath.f k x0 (rd x1 x5)).bind fun t186 => (if t186 ≥ 0 then (if 0 ≤ t186 then (if t186 < (x0.length : Int) then (if ((rd_T50 x0 t186).f1) = 2 then (some 7) else (spec_LeastGreen.l0 k x0 x1 (wrap64 (x5 + 1)))) else (none)) else (none)) else (spec_LeastGreen.l0 k x0 x1 (wrap64 (x5 + 1))))) else (none)) else (some 5)
def spec_LeastGreen.f (k : Nat) (l0 : List (S50)) (l1 : List Int) : Option (Int) := spec_LeastGreen.l0 k l0 l1 0
theorem spec_LeastGreen.mono_l : ∀ k, (∀ y0 y1 y2, LeO (spec_LeastGreen.l0 k y0 y1 y2) (spec_LeastGreen.l0 (k + 1) y0 y1 y2))
 | 0 => fun _ _ _ r h => by simp [spec_LeastGreen.l0] at h
 | k + 1 => by
  have ih0 := spec_LeastGreen.mono_l k
  ·
   intro y0 y1 y2
   unfold spec_LeastGreen.l0
   exact mz2 ih0 spec_FindPath.mono
theorem spec_LeastGreen.mono : ∀ a0 a1 k, LeO (spec_LeastGreen.f k a0 a1) (spec_LeastGreen.f (k + 1) a0 a1) := by
 intro a0 a1 k
 have ih0 := spec_LeastGreen.mono_l k
 unfold spec_LeastGreen.f
 exact mz2 ih0 spec_FindPath.mono
set_option maxHeartbeats 8000000 in
set_option maxRecDepth 100000 in
theorem spec_LeastGreen.calls (k : Nat) (A0 : Option Addr) (c0 : Nat) (l0 : List (S50)) (A1 : Option Addr) (c1 : Nat) (l1 : List Int) (r : Int) (w : World) (hr0 : Kd.C k50 w A0 l0.length l0) (hc0 : l0.length ≤ c0) (hr1 : Kd.C (Kd.int .i64) w A1 l1.length l1) (hc1 : l1.length ≤ c1) (h : spec_LeastGreen.f k l0 l1 = some r) :
  Calls Try.prog 113 #[.slice A0 l0.length c0, .slice A1 l1.length c1] w fun e w' => e = .returned (.int .i64 r) ∧ Drawn0 w w' := by
 have HR0 := Aside0.mk hr0
 have HC0 := Aside0.mk hc0
 clear hr0 hc0
 have HR1 := Aside0.mk hr1
 have HC1 := Aside0.mk hc1
 clear hr1 hc1
 have H : (spec_LeastGreen.l0 k l0 l1 0) = some r := h
 clear h
 have H' := Aside0.mk H
 clear H
 go_enter Try.func113, Try.ntmps113
 go_wp2
 go_loopg [5] k (fun kq v5 w' => ∃ (x5_1 : Int), v5 = .int .i64 x5_1 ∧ Aside0 (spec_LeastGreen.l0 kq l0 l1 x5_1 = some r) ∧ Aside0 (kq ≤ k) ∧ Drawn0 w w')
 case atStart => exact ⟨(0), rS, H', ⟨Nat.le_refl _⟩, by repeat (first | exact Drawn0.refl _ | apply Drawn0.step)⟩
 case round =>
  clear H'
  obtain ⟨x5_1, rfl, HA, HK1, ⟨m1, rfl⟩⟩ := hrel
  cases gk with
  | zero => exact absurd HA.out (by simp [spec_LeastGreen.l0])
  | succ k1 =>
   have H := HA.out
   clear HA
   simp only [spec_LeastGreen.l0] at H
   by_cases c3 : x5_1 < (l1.length : Int)
   ·
    rw [if_pos c3] at H
    have c3b0 := decide_eq_true c3
    clear c3
    have c4 : 0 ≤ x5_1 := ifN H
    replace H := ifT H
    have c4b0 := decide_eq_true c4
    clear c4
    obtain ⟨t186, A5, H⟩ := bindE H
    try dsimp only at H
    by_cases c6 : t186 ≥ 0
    ·
     rw [if_pos c6] at H
     have c6b0 := decide_eq_true c6
     clear c6
     have c7 : 0 ≤ t186 := ifN H
     replace H := ifT H
     have c7b0 := decide_eq_true c7
     clear c7
     have c8 : t186 < (l0.length : Int) := ifN H
     replace H := ifT H
     have c8b0 := decide_eq_true c8
     clear c8
     by_cases c9 : ((rd_T50 l0 t186).f1) = 2
     ·
      rw [if_pos c9] at H
      have c9b0 : (((rd_T50 l0 t186).f1) == 2) = true := beq_iff_eq.mpr c9
      have c9b1 : (((rd_T50 l0 t186).f1) != 2) = false := bne_eq_false_iff_eq.mpr c9
      clear c9
      obtain rfl := Option.some.inj H
      obtain ⟨p185, q185⟩ : 0 ≤ (x5_1 : Int) ∧ x5_1 < (l1.length : Int) := ⟨dA, dA⟩
      obtain ⟨ad185, e185, hx185_0⟩ := Kd.at_int HR1.out x5_1 p185 q185
      cases e185
      obtain ⟨p185, q185⟩ := eT p185 q185
      go_wp2_with (first | ((with_reducible refine gate_callee (f := 144) rfl ?_); refine gL (some 18) Try.func144 #[.slice A0 l0.length c0, .int .i64 (rd l1 x5_1)] ?_; (with_reducible refine (spec_FindPath.calls k1 _ _ l0 (rd l1 x5_1) t186 _ ?_ ?_ A5.out).mono ?_); exact cO HR0; exact HC0.out; rintro e w' ⟨rfl, ⟨nd, rfl⟩⟩; refine ⟨_, rfl, ?_⟩; have p187 : 0 ≤ (t186 : Int) := dA; have q187 : t186 < (l0.length : Int) := dA; obtain ⟨ad187, e187, hx187_0, hx187_1, hx187_2, hx187_3⟩ := at_T50 HR0.out t186 p187 q187; cases e187; replace p187 := eq_true p187; replace q187 := eq_true q187))
      go_ret
      exact ⟨rS, dD⟩
     rw [if_neg c9] at H
     have c9b0 : (((rd_T50 l0 t186).f1) == 2) = false := beq_eq_false_iff_ne.mpr c9
     have c9b1 : (((rd_T50 l0 t186).f1) != 2) = true := bne_iff_ne.mpr c9
     have H' := Aside0.mk H
     clear H
     obtain ⟨p185, q185⟩ : 0 ≤ (x5_1 : Int) ∧ x5_1 < (l1.length : Int) := ⟨dA, dA⟩
     obtain ⟨ad185, e185, hx185_0⟩ := Kd.at_int HR1.out x5_1 p185 q185
     cases e185
     obtain ⟨p185, q185⟩ := eT p185 q185
     go_wp2_with (first | ((with_reducible refine gate_callee (f := 144) rfl ?_); refine gL (some 18) Try.func144 #[.slice A0 l0.length c0, .int .i64 (rd l1 x5_1)] ?_; (with_reducible refine (spec_FindPath.calls k1 _ _ l0 (rd l1 x5_1) t186 _ ?_ ?_ A5.out).mono ?_); exact cO HR0; exact HC0.out; rintro e w' ⟨rfl, ⟨nd, rfl⟩⟩; refine ⟨_, rfl, ?_⟩; have p187 : 0 ≤ (t186 : Int) := dA; have q187 : t186 < (l0.length : Int) := dA; obtain ⟨ad187, e187, hx187_0, hx187_1, hx187_2, hx187_3⟩ := at_T50 HR0.out t186 p187 q187; cases e187; replace p187 := eq_true p187; replace q187 := eq_true q187))
     go_roundg k1
     case measure => have := HK1.out; omega
     case rel => exact ⟨(wrap64 (x5_1 + 1)), rS, H', ⟨by have := HK1.out; omega⟩, by repeat (first | exact Drawn0.refl _ | apply Drawn0.step)⟩
    rw [if_neg c6] at H
    have c6b0 := decide_eq_false c6
    clear c6
    have H' := Aside0.mk H
    clear H
    obtain ⟨p185, q185⟩ : 0 ≤ (x5_1 : Int) ∧ x5_1 < (l1.length : Int) := ⟨dA, dA⟩
    obtain ⟨ad185, e185, hx185_0⟩ := Kd.at_int HR1.out x5_1 p185 q185
    cases e185
    obtain ⟨p185, q185⟩ := eT p185 q185
    go_wp2_with (first | ((with_reducible refine gate_callee (f := 144) rfl ?_); refine gL (some 18) Try.func144 #[.slice A0 l0.length c0, .int .i64 (rd l1 x5_1)] ?_; (with_reducible refine (spec_FindPath.calls k1 _ _ l0 (rd l1 x5_1) t186 _ ?_ ?_ A5.out).mono ?_); exact cO HR0; exact HC0.out; rintro e w' ⟨rfl, ⟨nd, rfl⟩⟩; refine ⟨_, rfl, ?_⟩))
    go_roundg k1
    case measure => have := HK1.out; omega
    case rel => exact ⟨(wrap64 (x5_1 + 1)), rS, H', ⟨by have := HK1.out; omega⟩, by repeat (first | exact Drawn0.refl _ | apply Drawn0.step)⟩
   rw [if_neg c3] at H
   have c3b0 := decide_eq_false c3
   clear c3
   obtain rfl := Option.some.inj H
   go_wp2
   go_ret
   exact ⟨rS, dD⟩

/-! ### spec_l6Has: function 133 -/
def spec_l6Has.l0 : Nat → List Int → Int → Int → Option (Bool)
 | 0, _, _, _ => none
 | k + 1, x0, x1, x5 => if x5 < (x0.length : Int) then (if 0 ≤ x5 then (if (rd x0 x5) = x1 then (some true) else (spec_l6Has.l0 k x0 x1 (wrap64 (x5 + 1)))) else (none)) else (some false)
def spec_l6Has.f (k : Nat) (l0 : List Int) (a1 : Int) : Option (Bool) := spec_l6Has.l0 k l0 a1 0
theorem spec_l6Has.mono_l : ∀ k, (∀ y0 y1 y2, LeO (spec_l6Has.l0 k y0 y1 y2) (spec_l6Has.l0 (k + 1) y0 y1 y2))
 | 0 => fun _ _ _ r h => by simp [spec_l6Has.l0] at h
 | k + 1 => by
  have ih0 := spec_l6Has.mono_l k
  ·
   intro y0 y1 y2
   unfold spec_l6Has.l0
   exact mz1 ih0
theorem spec_l6Has.mono : ∀ a0 a1 k, LeO (spec_l6Has.f k a0 a1) (spec_l6Has.f (k + 1) a0 a1) := by
 intro a0 a1 k
 have ih0 := spec_l6Has.mono_l k
 unfold spec_l6Has.f
 exact mz1 ih0
set_option maxHeartbeats 8000000 in
set_option maxRecDepth 100000 in
theorem spec_l6Has.calls (k : Nat) (A0 : Option Addr) (c0 : Nat) (l0 : List Int) (a1 : Int) (r : Bool) (w : World) (hr0 : Kd.C (Kd.int .i64) w A0 l0.length l0) (hc0 : l0.length ≤ c0) (h : spec_l6Has.f k l0 a1 = some r) :
  Calls Try.prog 133 #[.slice A0 l0.length c0, .int .i64 a1] w fun e w' => e = .returned (.bool r) ∧ Drawn0 w w' := by
 have HR0 := Aside0.mk hr0
 have HC0 := Aside0.mk hc0
 clear hr0 hc0
 have H : (spec_l6Has.l0 k l0 a1 0) = some r := h
 clear h
 have H' := Aside0.mk H
 clear H
 go_enter Try.func133, Try.ntmps133
 go_wp2
 go_loopg [5] k (fun kq v5 w' => ∃ (x5_1 : Int), v5 = .int .i64 x5_1 ∧ Aside0 (spec_l6Has.l0 kq l0 a1 x5_1 = some r) ∧ Aside0 (kq ≤ k) ∧ Drawn0 w w')
 case atStart => exact ⟨(0), rS, H', ⟨Nat.le_refl _⟩, by repeat (first | exact Drawn0.refl _ | apply Drawn0.step)⟩
 case round =>
  clear H'
  obtain ⟨x5_1, rfl, HA, HK1, ⟨m1, rfl⟩⟩ := hrel
  cases gk with
  | zero => exact absurd HA.out (by simp [spec_l6Has.l0])
  | succ k1 =>
   have H := HA.out
   clear HA
   simp only [spec_l6Has.l0] at H
   by_cases c3 : x5_1 < (l0.length : Int)
   ·
    rw [if_pos c3] at H
    have c3b0 := decide_eq_true c3
    clear c3
    have c4 : 0 ≤ x5_1 := ifN H
    replace H := ifT H
    have c4b0 := decide_eq_true c4
    clear c4
    by_cases c5 : (rd l0 x5_1) = a1
    ·
     rw [if_pos c5] at H
     have c5b0 : ((rd l0 x5_1) == a1) = true := beq_iff_eq.mpr c5
     have c5b1 : ((rd l0 x5_1) != a1) = false := bne_eq_false_iff_eq.mpr c5
     clear c5
     obtain rfl := Option.some.inj H
     obtain ⟨p188, q188⟩ : 0 ≤ (x5_1 : Int) ∧ x5_1 < (l0.length : Int) := ⟨dA, dA⟩
     obtain ⟨ad188, e188, hx188_0⟩ := Kd.at_int HR0.out x5_1 p188 q188
     cases e188
     obtain ⟨p188, q188⟩ := eT p188 q188
     go_wp2
     go_ret
     exact ⟨rS, dD⟩
    rw [if_neg c5] at H
    have c5b0 : ((rd l0 x5_1) == a1) = false := beq_eq_false_iff_ne.mpr c5
    have c5b1 : ((rd l0 x5_1) != a1) = true := bne_iff_ne.mpr c5
    have H' := Aside0.mk H
    clear H
    obtain ⟨p188, q188⟩ : 0 ≤ (x5_1 : Int) ∧ x5_1 < (l0.length : Int) := ⟨dA, dA⟩
    obtain ⟨ad188, e188, hx188_0⟩ := Kd.at_int HR0.out x5_1 p188 q188
    cases e188
    obtain ⟨p188, q188⟩ := eT p188 q188
    go_wp2
    go_roundg k1
    case measure => have := HK1.out; omega
    case rel => exact ⟨(wrap64 (x5_1 + 1)), rS, H', ⟨by have := HK1.out; omega⟩, by repeat (first | exact Drawn0.refl _ | apply Drawn0.step)⟩
   rw [if_neg c3] at H
   have c3b0 := decide_eq_false c3
   clear c3
   obtain rfl := Option.some.inj H
   go_wp2
   go_ret
   exact ⟨rS, dD⟩

/-! ### spec_Covers: function 114 -/
mutual
def spec_Covers.l0 : Nat → List (S50) → List (List Int) → Int → Option (Bool)
 | 0, _, _, _ => none
 | k + 1, x0, x1, x5 => if x5 < (x1.length : Int) then (if 0 ≤ x5 then ((spec_IsTogether.f k x0 (rd_L3 x1 x5)).bind fun t190 => (if t190 = true then (spec_Covers.l0 k x0 x1 (wrap64 (x5 + 1))) else (some false))) else (none)) else (spec_Covers.l1 k x0 x1 0)
def spec_Covers.l1 : Nat → List (S50) → List (List Int) → Int → Option (Bool)
 | 0, _, _, _ => none
 | k + 1, x0, x1, x6 => if x6 < (x0.length : Int) then (spec_Covers.l2 k x0 x1 x6 false 0) else ((spec_ArePaths.f k x0).bind fun t191 => (some t191))
def spec_Covers.l2 : Nat → List (S50) → List (List Int) → Int → Bool → Int → Option (Bool)
 | 0, _, _, _, _, _ => none
 | k + 1, x0, x1, x6, x7, x8 => if x8 < (x1.length : Int) then (if x7 = true then (spec_Covers.l2 k x0 x1 x6 true (wrap64 (x8 + 1))) else (if 0 ≤ x8 then (if 0 ≤ x6 then (if x6 < (x0.length : Int) then ((spec_l6Has.f k (rd_L3 x1 x8) ((rd_T50 x0 x6).f0)).bind fun t194 => (spec_Covers.l2 k x0 x1 x6 t194 (wrap64 (x8 + 1)))) else (none)) else (none)) else (none))) else (if x7 = true then (spec_Covers.l1 k x0 x1 (wrap64 (x6 + 1))) else (some false))
end
def spec_Covers.f (k : Nat) (l0 : List (S50)) (l1 : List (List Int)) : Option (Bool) := spec_Covers.l0 k l0 l1 0
theorem spec_Covers.mono_l : ∀ k, (∀ y0 y1 y2, LeO (spec_Covers.l0 k y0 y1 y2) (spec_Covers.l0 (k + 1) y0 y1 y2)) ∧ (∀ y0 y1 y2, LeO (spec_Covers.l1 k y0 y1 y2) (spec_Covers.l1 (k + 1) y0 y1 y2)) ∧ (∀ y0 y1 y2 y3 y4, LeO (spec_Covers.l2 k y0 y1 y2 y3 y4) (spec_Covers.l2 (k + 1) y0 y1 y2 y3 y4))
 | 0 => ⟨fun _ _ _ r h => by simp [spec_Covers.l0] at h, fun _ _ _ r h => by simp [spec_Covers.l1] at h, fun _ _ _ _ _ r h => by simp [spec_Covers.l2] at h⟩
 | k + 1 => by
  obtain ⟨ih0, ih1, ih2⟩ := spec_Covers.mono_l k
  refine ⟨?_, ?_, ?_⟩
  ·
   intro y0 y1 y2
   unfold spec_Covers.l0
   exact mz6 ih0 ih1 ih2 spec_ArePaths.mono spec_IsTogether.mono spec_l6Has.mono
  ·
   intro y0 y1 y2
   unfold spec_Covers.l1
   exact mz6 ih0 ih1 ih2 spec_ArePaths.mono spec_IsTogether.mono spec_l6Has.mono
  ·
   intro y0 y1 y2 y3 y4
   unfold spec_Covers.l2
   exact mz6 ih0 ih1 ih2 spec_ArePaths.mono spec_IsTogether.mono spec_l6Has.mono
theorem spec_Covers.mono : ∀ a0 a1 k, LeO (spec_Covers.f k a0 a1) (spec_Covers.f (k + 1) a0 a1) := by
 intro a0 a1 k
 obtain ⟨ih0, ih1, ih2⟩ := spec_Covers.mono_l k
 unfold spec_Covers.f
 exact mz6 ih0 ih1 ih2 spec_ArePaths.mono spec_IsTogether.mono spec_l6Has.mono
set_option maxHeartbeats 8000000 in
set_option maxRecDepth 100000 in
theorem spec_Covers.calls (k : Nat) (A0 : Option Addr) (c0 : Nat) (l0 : List (S50)) (A1 : Option Addr) (c1 : Nat) (l1 : List (List Int)) (r : Bool) (w : World) (hr0 : Kd.C k50 w A0 l0.length l0) (hc0 : l0.length ≤ c0) (hr1 : Kd.C (Kd.slice 3 (Kd.int .i64)) w A1 l1.length l1) (hc1 : l1.length ≤ c1) (h : spec_Covers.f k l0 l1 = some r) :
  Calls Try.prog 114 #[.slice A0 l0.length c0, .slice A1 l1.length c1] w fun e w' => e = .returned (.bool r) ∧ Below w.heap.size w w' := by
 have HR0 := Aside0.mk hr0
 have HC0 := Aside0.mk hc0
 clear hr0 hc0
 have HR1 := Aside0.mk hr1
 have HC1 := Aside0.mk hc1
 clear hr1 hc1
 have HB := Aside0.mk (Below.refl w.heap.size w)
 have H : (spec_Covers.l0 k l0 l1 0) = some r := h
 clear h
 have H' := Aside0.mk H
 clear H
 go_enter Try.func114, Try.ntmps114
 go_wp2
 repeat (go_quiet (fail); try go_wp2)
 go_loopg [5] k (fun kq v5 w' => ∃ (x5_1 : Int), v5 = .int .i64 x5_1 ∧ Aside0 (spec_Covers.l0 kq l0 l1 x5_1 = some r) ∧ Aside0 (kq ≤ k) ∧ Aside0 (Below w.heap.size w w'))
 case atStart => exact ⟨(0), rS, H', ⟨Nat.le_refl _⟩, ⟨bA⟩⟩
 case round =>
  clear H'
  obtain ⟨x5_1, rfl, HA, HK1, HB⟩ := hrel
  cases gk with
  | zero => exact absurd HA.out (by simp [spec_Covers.l0])
  | succ k1 =>
   have H := HA.out
   clear HA
   simp only [spec_Covers.l0] at H
   by_cases c3 : x5_1 < (l1.length : Int)
   ·
    rw [if_pos c3] at H
    have c3b0 := decide_eq_true c3
    clear c3
    have c4 : 0 ≤ x5_1 := ifN H
    replace H := ifT H
    have c4b0 := decide_eq_true c4
    clear c4
    obtain ⟨t190, A5, H⟩ := bindE H
    try dsimp only at H
    by_cases c6 : t190 = true
    ·
     subst c6
     have H1 : (spec_Covers.l0 k1 l0 l1 (wrap64 (x5_1 + 1))) = some r := by rw [if_pos rfl] at H; exact H
     clear H
     have H := H1
     clear H1
     have H' := Aside0.mk H
     clear H
     obtain ⟨p189, q189⟩ : 0 ≤ (x5_1 : Int) ∧ x5_1 < (l1.length : Int) := ⟨dA, dA⟩
     obtain ⟨ad189, A189_0, c189_0, e189, hx189_0, hl189_0, hi189_0⟩ := at_L3 HR1.out x5_1 p189 q189
     cases e189
     replace hx189_0 := hC HB hx189_0
     have HR189_0 := Aside0.mk hi189_0
     have HC189_0 := Aside0.mk hl189_0
     clear hi189_0 hl189_0
     obtain ⟨p189, q189⟩ := eT p189 q189
     go_wp2_with (first | (go_at_call 112; (with_reducible refine (spec_IsTogether.calls k1 _ _ l0 _ _ (rd_L3 l1 x5_1) true _ ?_ ?_ ?_ ?_ A5.out).mono ?_); exact cB HR0; exact HC0.out; exact cB HR189_0; exact HC189_0.out; rintro e w7 ⟨rfl, hb⟩; replace HB := bs HB hb; (try clear hb)))
     repeat (go_quiet (first | (go_at_call 112; (with_reducible refine (spec_IsTogether.calls k1 _ _ l0 _ _ (rd_L3 l1 x5_1) true _ ?_ ?_ ?_ ?_ A5.out).mono ?_); exact cB HR0; exact HC0.out; exact cB HR189_0; exact HC189_0.out; rintro e w7 ⟨rfl, hb⟩; replace HB := bs HB hb; (try clear hb))); try go_wp2_with (first | (go_at_call 112; (with_reducible refine (spec_IsTogether.calls k1 _ _ l0 _ _ (rd_L3 l1 x5_1) true _ ?_ ?_ ?_ ?_ A5.out).mono ?_); exact cB HR0; exact HC0.out; exact cB HR189_0; exact HC189_0.out; rintro e w7 ⟨rfl, hb⟩; replace HB := bs HB hb; (try clear hb))))
     go_roundg k1
     case measure => have := HK1.out; omega
     case rel => exact ⟨(wrap64 (x5_1 + 1)), rS, H', ⟨by have := HK1.out; omega⟩, ⟨bA⟩⟩
    replace c6 := Bool.eq_false_iff.mpr c6
    subst c6
    have H1 : (some false) = some r := by rw [if_neg (show ¬ (false = true) by decide)] at H; exact H
    clear H
    have H := H1
    clear H1
    obtain rfl := Option.some.inj H
    obtain ⟨p189, q189⟩ : 0 ≤ (x5_1 : Int) ∧ x5_1 < (l1.length : Int) := ⟨dA, dA⟩
    obtain ⟨ad189, A189_0, c189_0, e189, hx189_0, hl189_0, hi189_0⟩ := at_L3 HR1.out x5_1 p189 q189
    cases e189
    replace hx189_0 := hC HB hx189_0
    have HR189_0 := Aside0.mk hi189_0
    have HC189_0 := Aside0.mk hl189_0
    clear hi189_0 hl189_0
    obtain ⟨p189, q189⟩ := eT p189 q189
    go_wp2_with (first | (go_at_call 112; (with_reducible refine (spec_IsTogether.calls k1 _ _ l0 _ _ (rd_L3 l1 x5_1) false _ ?_ ?_ ?_ ?_ A5.out).mono ?_); exact cB HR0; exact HC0.out; exact cB HR189_0; exact HC189_0.out; rintro e w8 ⟨rfl, hb⟩; replace HB := bs HB hb; (try clear hb)))
    repeat (go_quiet (first | (go_at_call 112; (with_reducible refine (spec_IsTogether.calls k1 _ _ l0 _ _ (rd_L3 l1 x5_1) false _ ?_ ?_ ?_ ?_ A5.out).mono ?_); exact cB HR0; exact HC0.out; exact cB HR189_0; exact HC189_0.out; rintro e w8 ⟨rfl, hb⟩; replace HB := bs HB hb; (try clear hb))); try go_wp2_with (first | (go_at_call 112; (with_reducible refine (spec_IsTogether.calls k1 _ _ l0 _ _ (rd_L3 l1 x5_1) false _ ?_ ?_ ?_ ?_ A5.out).mono ?_); exact cB HR0; exact HC0.out; exact cB HR189_0; exact HC189_0.out; rintro e w8 ⟨rfl, hb⟩; replace HB := bs HB hb; (try clear hb))))
    go_ret
    exact ⟨rA, bA⟩
   rw [if_neg c3] at H
   have c3b0 := decide_eq_false c3
   clear c3
   have H' := Aside0.mk H
   clear H
   go_wp2
   repeat (go_quiet (fail); try go_wp2)
   go_loopg [6] k1 (fun kq v6 w' => ∃ (x6_2 : Int), v6 = .int .i64 x6_2 ∧ Aside0 (spec_Covers.l1 kq l0 l1 x6_2 = some r) ∧ Aside0 (kq ≤ k1) ∧ Aside0 (Below w.heap.size w w'))
   case atStart => exact ⟨(0), rS, H', ⟨Nat.le_refl _⟩, ⟨bA⟩⟩
   case round =>
    clear H'
    obtain ⟨x6_2, rfl, HA, HK2, HB⟩ := hrel
    cases gk with
    | zero => exact absurd HA.out (by simp [spec_Covers.l1])
    | succ k2 =>
     have H := HA.out
     clear HA
     simp only [spec_Covers.l1] at H
     by_cases c9 : x6_2 < (l0.length : Int)
     ·
      rw [if_pos c9] at H
      have c9b0 := decide_eq_true c9
      clear c9
      have H' := Aside0.mk H
      clear H
      go_wp2
      repeat (go_quiet (fail); try go_wp2)
      go_loopg [7, 8] k2 (fun kq v7 v8 w' => ∃ (x7_3 : Bool) (x8_3 : Int), v7 = .bool x7_3 ∧ v8 = .int .i64 x8_3 ∧ Aside0 (spec_Covers.l2 kq l0 l1 x6_2 x7_3 x8_3 = some r) ∧ Aside0 (kq ≤ k2) ∧ Aside0 (Below w.heap.size w w'))
      case atStart => exact ⟨(false), (0), rS, rS, H', ⟨Nat.le_refl _⟩, ⟨bA⟩⟩
      case round =>
       clear H'
       obtain ⟨x7_3, x8_3, rfl, rfl, HA, HK3, HB⟩ := hrel
       cases gk with
       | zero => exact absurd HA.out (by simp [spec_Covers.l2])
       | succ k3 =>
        have H := HA.out
        clear HA
        simp only [spec_Covers.l2] at H
        by_cases c10 : x8_3 < (l1.length : Int)
        ·
         rw [if_pos c10] at H
         have c10b0 := decide_eq_true c10
         clear c10
         by_cases c11 : x7_3 = true
         ·
          subst c11
          have H1 : (spec_Covers.l2 k3 l0 l1 x6_2 true (wrap64 (x8_3 + 1))) = some r := by rw [if_pos rfl] at H; exact H
          clear H
          have H := H1
          clear H1
          have H' := Aside0.mk H
          clear H
          go_wp2
          repeat (go_quiet (fail); try go_wp2)
          go_roundg k3
          case measure => have := HK1.out; have := HK2.out; have := HK3.out; omega
          case rel => exact ⟨(true), (wrap64 (x8_3 + 1)), rS, rS, H', ⟨by have := HK1.out; have := HK2.out; have := HK3.out; omega⟩, ⟨bA⟩⟩
         replace c11 := Bool.eq_false_iff.mpr c11
         subst c11
         have H1 : (if 0 ≤ x8_3 then (if 0 ≤ x6_2 then (if x6_2 < (l0.length : Int) then ((spec_l6Has.f k3 (rd_L3 l1 x8_3) ((rd_T50 l0 x6_2).f0)).bind fun t194 => (spec_Covers.l2 k3 l0 l1 x6_2 t194 (wrap64 (x8_3 + 1)))) else (none)) else (none)) else (none)) = some r := by rw [if_neg (show ¬ (false = true) by decide)] at H; exact H
         clear H
         have H := H1
         clear H1
         have c12 : 0 ≤ x8_3 := ifN H
         replace H := ifT H
         have c12b0 := decide_eq_true c12
         clear c12
         have c13 : 0 ≤ x6_2 := ifN H
         replace H := ifT H
         have c13b0 := decide_eq_true c13
         clear c13
         have c14 : x6_2 < (l0.length : Int) := ifN H
         replace H := ifT H
         have c14b0 := decide_eq_true c14
         clear c14
         obtain ⟨t194, A15, H⟩ := bindE H
         try dsimp only at H
         have H' := Aside0.mk H
         clear H
         obtain ⟨p192, q192⟩ : 0 ≤ (x8_3 : Int) ∧ x8_3 < (l1.length : Int) := ⟨dA, dA⟩
         obtain ⟨ad192, A192_0, c192_0, e192, hx192_0, hl192_0, hi192_0⟩ := at_L3 HR1.out x8_3 p192 q192
         cases e192
         replace hx192_0 := hC HB hx192_0
         have HR192_0 := Aside0.mk hi192_0
         have HC192_0 := Aside0.mk hl192_0
         clear hi192_0 hl192_0
         obtain ⟨p192, q192⟩ := eT p192 q192
         obtain ⟨p193, q193⟩ : 0 ≤ (x6_2 : Int) ∧ x6_2 < (l0.length : Int) := ⟨dA, dA⟩
         obtain ⟨ad193, e193, hx193_0, hx193_1, hx193_2, hx193_3⟩ := at_T50 (Kd.C_below HR0.out HB.out) x6_2 p193 q193
         cases e193
         obtain ⟨p193, q193⟩ := eT p193 q193
         go_wp2_with (first | (go_at_call 133; (with_reducible refine (spec_l6Has.calls k3 _ _ (rd_L3 l1 x8_3) ((rd_T50 l0 x6_2).f0) t194 _ ?_ ?_ A15.out).mono ?_); exact cB HR192_0; exact HC192_0.out; rintro e w' ⟨rfl, ⟨nd, rfl⟩⟩; (try first | exact ⟨rfl, _, World.drewN_drewN _ _ _⟩ | exact ⟨rfl, _, Eq.trans (World.drewN_drewN _ _ _) (congrArg (World.drewN _) (Nat.add_assoc _ _ _))⟩)))
         repeat (go_quiet (first | (go_at_call 133; (with_reducible refine (spec_l6Has.calls k3 _ _ (rd_L3 l1 x8_3) ((rd_T50 l0 x6_2).f0) t194 _ ?_ ?_ A15.out).mono ?_); exact cB HR192_0; exact HC192_0.out; rintro e w' ⟨rfl, ⟨nd, rfl⟩⟩; (try first | exact ⟨rfl, _, World.drewN_drewN _ _ _⟩ | exact ⟨rfl, _, Eq.trans (World.drewN_drewN _ _ _) (congrArg (World.drewN _) (Nat.add_assoc _ _ _))⟩))); try go_wp2_with (first | (go_at_call 133; (with_reducible refine (spec_l6Has.calls k3 _ _ (rd_L3 l1 x8_3) ((rd_T50 l0 x6_2).f0) t194 _ ?_ ?_ A15.out).mono ?_); exact cB HR192_0; exact HC192_0.out; rintro e w' ⟨rfl, ⟨nd, rfl⟩⟩; (try first | exact ⟨rfl, _, World.drewN_drewN _ _ _⟩ | exact ⟨rfl, _, Eq.trans (World.drewN_drewN _ _ _) (congrArg (World.drewN _) (Nat.add_assoc _ _ _))⟩))))
         go_roundg k3
         case measure => have := HK1.out; have := HK2.out; have := HK3.out; omega
         case rel => exact ⟨(t194), (wrap64 (x8_3 + 1)), rS, rS, H', ⟨by have := HK1.out; have := HK2.out; have := HK3.out; omega⟩, ⟨bA⟩⟩
        rw [if_neg c10] at H
        have c10b0 := decide_eq_false c10
        clear c10
        by_cases c16 : x7_3 = true
        ·
         subst c16
         have H1 : (spec_Covers.l1 k3 l0 l1 (wrap64 (x6_2 + 1))) = some r := by rw [if_pos rfl] at H; exact H
         clear H
         have H := H1
         clear H1
         have H' := Aside0.mk H
         clear H
         go_wp2
         repeat (go_quiet (fail); try go_wp2)
         go_roundg k3
         case measure => have := HK1.out; have := HK2.out; have := HK3.out; omega
         case rel => exact ⟨(wrap64 (x6_2 + 1)), rS, H', ⟨by have := HK1.out; have := HK2.out; have := HK3.out; omega⟩, ⟨bA⟩⟩
        replace c16 := Bool.eq_false_iff.mpr c16
        subst c16
        have H1 : (some false) = some r := by rw [if_neg (show ¬ (false = true) by decide)] at H; exact H
        clear H
        have H := H1
        clear H1
        obtain rfl := Option.some.inj H
        go_wp2
        repeat (go_quiet (fail); try go_wp2)
        go_ret
        exact ⟨rA, bA⟩
     rw [if_neg c9] at H
     have c9b0 := decide_eq_false c9
     clear c9
     obtain ⟨t191, A17, H⟩ := bindE H
     try dsimp only at H
     obtain rfl := Option.some.inj H
     go_wp2_with (first | (go_at_call 33; (with_reducible refine (spec_ArePaths.calls k2 _ _ l0 t191 _ ?_ ?_ A17.out).mono ?_); exact cB HR0; exact HC0.out; rintro e w18 ⟨rfl, hb⟩; replace HB := bs HB hb; (try clear hb)))
     repeat (go_quiet (first | (go_at_call 33; (with_reducible refine (spec_ArePaths.calls k2 _ _ l0 t191 _ ?_ ?_ A17.out).mono ?_); exact cB HR0; exact HC0.out; rintro e w18 ⟨rfl, hb⟩; replace HB := bs HB hb; (try clear hb))); try go_wp2_with (first | (go_at_call 33; (with_reducible refine (spec_ArePaths.calls k2 _ _ l0 t191 _ ?_ ?_ A17.out).mono ?_); exact cB HR0; exact HC0.out; rintro e w18 ⟨rfl, hb⟩; replace HB := bs HB hb; (try clear hb))))
     go_ret
     exact ⟨rA, bA⟩

/-! ### spec_l8Stages: function 115 -/
def spec_l8Stages.l0 : Nat → List (S85) → List (List Int) → Int → Option ((List (List Int)))
 | 0, _, _, _ => none
 | k + 1, x0, x3, x4 => if x4 < (x0.length : Int) then (if 0 ≤ x4 then (if x3.length < 5864062014805 then (spec_l8Stages.l0 k x0 (x3 ++ [(rd_T85 x0 x4).f0]) (wrap64 (x4 + 1))) else (none)) else (none)) else (some x3)
def spec_l8Stages.f (k : Nat) (l0 : List (S85)) : Option ((List (List Int))) := spec_l8Stages.l0 k l0 (([] : List (List Int))) 0
theorem spec_l8Stages.mono_l : ∀ k, (∀ y0 y1 y2, LeO (spec_l8Stages.l0 k y0 y1 y2) (spec_l8Stages.l0 (k + 1) y0 y1 y2))
 | 0 => fun _ _ _ r h => by simp [spec_l8Stages.l0] at h
 | k + 1 => by
  have ih0 := spec_l8Stages.mono_l k
  ·
   intro y0 y1 y2
   unfold spec_l8Stages.l0
   exact mz1 ih0
theorem spec_l8Stages.mono : ∀ a0 k, LeO (spec_l8Stages.f k a0) (spec_l8Stages.f (k + 1) a0) := by
 intro a0 k
 have ih0 := spec_l8Stages.mono_l k
 unfold spec_l8Stages.f
 exact mz1 ih0
set_option maxHeartbeats 8000000 in
set_option maxRecDepth 100000 in
theorem spec_l8Stages.calls (k : Nat) (P0_ : Nat → Prop) (A0 : Option Addr) (c0 : Nat) (l0 : List (S85)) (r : List (List Int)) (w : World) (hs0 : Kd.V k85 85 w w.heap.size (fun k_ => P0_ k_) (.slice A0 l0.length c0) l0) (h : spec_l8Stages.f k l0 = some r) :
  Calls Try.prog 115 #[.slice A0 l0.length c0] w fun e w' => ∃ v0_ : Value, e = .returned (v0_) ∧ Kd.N (Kd.slice 3 (Kd.int .i64)) 35 w' w.heap.size (fun k_ => (P0_ k_ ∨ w.heap.size ≤ k_)) v0_ r ∧ Below w.heap.size w w' := by
 have HO0 := Aside0.mk (show Kd.V k85 85 w w.heap.size (fun k_ => (P0_ k_ ∨ w.heap.size ≤ k_)) (.slice A0 l0.length c0) l0 from Kd.V_mono hs0 (fun k_ hk => .inl hk))
 have HB := Aside0.mk (Below.refl w.heap.size w)
 have H : (spec_l8Stages.l0 k l0 (([] : List (List Int))) 0) = some r := h
 clear h
 obtain ⟨y195, hy195⟩ : ∃ y_ : List (List Int), y_ = (([] : List (List Int))) := ⟨_, rfl⟩
 replace H : (spec_l8Stages.l0 k l0 y195 0) = some r := rH H hy195
 have Ny195 := Aside0.mk hy195
 clear hy195
 have H' := Aside0.mk H
 clear H
 go_enter Try.func115, Try.ntmps115
 go_wp2_with (first | ((with_reducible refine gate_dst (N := 5) rfl ?_); refine Kd.N_lit (Kd.slice 3 (Kd.int .i64)) _ 35 ?hg (N' := 5) ?hd (xs := ([] : List (List Int))) (inner := []) (ok := (fun k_ => (P0_ k_ ∨ w.heap.size ≤ k_))) (okp := (fun k_ => (P0_ k_ ∨ w.heap.size ≤ k_))) ?hr ?hp (fun _ hk => hk) ((show ∀ k_, w.heap.size ≤ k_ → (fun k_ => (P0_ k_ ∨ w.heap.size ≤ k_)) k_ from fun k_ hk => (.inr (Nat.le_trans (below_size bA) hk))) _ (Nat.le_refl _)) (Below.refl _ _) (Nat.le_refl _) (by simp) ?_; (case hd => rfl); (case hg => rfl); (case hr => first | (go_simp; done) | (go_simp; rfl)); (case hp => exact (Reps.none _ _)); intro v196 w2 ho3 hb hg_ hnew_; clear hg_ hnew_; (first | rw [← Ny195.out] at ho3 | (simp only [Int.reduceToNat] at ho3; rw [← Ny195.out] at ho3)); have n0_ := Aside0.mk (Kd.V_elder' (by (with_reducible repeat (first | apply Kd.V_alloc | apply Kd.V_drewN | apply Kd.V_drew)); exact HO0.out) (by first | exact Kd.N_base ho3 | exact Kd.N_base (Kd.S_N ho3)) hb); have n1_ := Aside0.mk (Kd.N_lower ho3 (below_size bA)); have n2_ := bs HB hb; clear HO0; clear HB; have HO0 := n0_; have HO197 := n1_; have HB := n2_; clear n0_ n1_ n2_; clear hb ho3))
 go_loopg [3, 4] k (fun kq v3 v4 w' => ∃ (x3_1 : List (List Int)) (x4_1 : Int), v4 = .int .i64 x4_1 ∧ Aside0 (spec_l8Stages.l0 kq l0 x3_1 x4_1 = some r) ∧ Aside0 (kq ≤ k) ∧ Aside0 (Kd.V k85 85 w' w.heap.size (fun k_ => (P0_ k_ ∨ w.heap.size ≤ k_) ∧ some k_ ≠ (v3 : Value).ownBlock) (.slice A0 l0.length c0) l0) ∧ Aside0 (Kd.N (Kd.slice 3 (Kd.int .i64)) 35 w' w.heap.size (fun k_ => (P0_ k_ ∨ w.heap.size ≤ k_)) v3 x3_1) ∧ Aside0 (Below w.heap.size w w'))
 case atStart => exact ⟨(y195), (0), rS, H', ⟨Nat.le_refl _⟩, ⟨by (with_reducible repeat (first | apply Kd.V_alloc | apply Kd.V_drewN | apply Kd.V_drew)); exact HO0.out⟩, ⟨by (with_reducible repeat (first | apply Kd.N_alloc | apply Kd.N_drewN | apply Kd.N_drew)); exact HO197.out⟩, ⟨bA⟩⟩
 case round =>
  clear H'
  obtain ⟨x3_1, x4_1, rfl, HA, HK1, HO_0, HO_3, HB⟩ := hrel
  cases gk with
  | zero => exact absurd HA.out (by simp [spec_l8Stages.l0])
  | succ k1 =>
   have H := HA.out
   clear HA
   simp only [spec_l8Stages.l0] at H
   by_cases c4 : x4_1 < (l0.length : Int)
   ·
    rw [if_pos c4] at H
    have c4b0 := decide_eq_true c4
    clear c4
    have c5 : 0 ≤ x4_1 := ifN H
    replace H := ifT H
    have c5b0 := decide_eq_true c5
    clear c5
    have c6 : x3_1.length < 5864062014805 := ifN H
    replace H := ifT H
    have LMc6 := Aside0.mk c6
    clear c6
    obtain ⟨y199, hy199⟩ : ∃ y_ : List (List Int), y_ = (x3_1 ++ [(rd_T85 l0 x4_1).f0]) := ⟨_, rfl⟩
    replace H : (spec_l8Stages.l0 k1 l0 y199 (wrap64 (x4_1 + 1))) = some r := rH H hy199
    have Ny199 := Aside0.mk hy199
    clear hy199
    have H' := Aside0.mk H
    clear H
    obtain ⟨p198, q198⟩ : 0 ≤ (x4_1 : Int) ∧ x4_1 < (l0.length : Int) := ⟨dA, dA⟩
    obtain ⟨ad198, A198_0, c198_0, e198, hx198_0, hx198_1, hl198_0, hi198_0⟩ := at_T85 (Kd.V_reads' HO_0.out).2.2 x4_1 p198 q198
    cases e198
    obtain ⟨ce198, hce198, hMe198, hcc198⟩ := Kd.V_get HO_0.out z85 x4_1 p198 (by first | exact q198 | exact dA | (have e_ := (Kd.V_reads' HO_0.out).1; omega))
    obtain ⟨ua198_0, uc198_0, rfl, ul198_0, ge198_0⟩ := k85_openF hMe198
    have hv198_0 := hcc198 0 _ rfl
    rw [Nat.add_zero] at hv198_0
    replace hv198_0 := Option.some.inj (hv198_0.symm.trans hx198_0)
    injection hv198_0 with hva_ hvn_ hvc_
    rw [hva_] at ge198_0
    rw [hvc_] at ul198_0
    have HL198_0 := Aside0.mk (show Kd.V (Kd.int .i64) 3 _ w.heap.size _ _ ((rd_T85 l0 x4_1).f0) from Kd.V_mk ul198_0 ge198_0)
    clear hva_ hvn_ hvc_ ge198_0 ul198_0
    clear hcc198 hce198
    have HR198_0 := Aside0.mk hi198_0
    have HC198_0 := Aside0.mk hl198_0
    clear hi198_0 hl198_0
    obtain ⟨p198, q198⟩ := eT p198 q198
    go_wp2_with (first | ((with_reducible refine gate_builtin (b := .append) (xs := #[.tmp 12, .tmp 18]) rfl ?_); at_builtin; refine Kd.N_append (Kd.slice 3 (Kd.int .i64)) (w0 := w) w.heap.size rfl (.tmp 12) (.tmp 18) 103 35 (.slice none 0 0) 24 rfl Try.underlying103 info35 rfl (by decide) (by omega) u3 x3_1 ((rd_T85 l0 x4_1).f0) [.slice A198_0 ((rd_T85 l0 x4_1).f0).length c198_0] (fun k_ => (P0_ k_ ∨ w.heap.size ≤ k_)) (fun k_ => ((fun k_ => (P0_ k_ ∨ w.heap.size ≤ k_))) k_ ∧ some k_ ≠ (u3 : Value).ownBlock) rfl rfl ?aP (fun _ hk => hk) ?aF ?aO ?aB ?aS ?aL ?_; (case aP => exact (Kd.FK_slice_mk (Kd.V_reads' (Kd.V_mono (ok' := (fun k_ => ((fun k_ => (P0_ k_ ∨ w.heap.size ≤ k_))) k_ ∧ some k_ ≠ (u3 : Value).ownBlock)) (HL198_0.out) (fun k_ hk => ⟨hk.1, hk.2⟩))).2.1 (Kd.V_F (Kd.V_mono (ok' := (fun k_ => ((fun k_ => (P0_ k_ ∨ w.heap.size ≤ k_))) k_ ∧ some k_ ≠ (u3 : Value).ownBlock)) (HL198_0.out) (fun k_ hk => ⟨hk.1, hk.2⟩))))); (case aB => exact bA); (case aF => exact (fun k_ hk => (.inr (Nat.le_trans (below_size bA) hk)))); (case aO => exact (by (with_reducible repeat (first | apply Kd.N_alloc | apply Kd.N_drewN | apply Kd.N_drew)); exact HO_3.out)); (case aS => exact (below_size bA)); (case aL => have := LMc6.out; omega); intro v200 w7 ho hb hg hat; rw [← Ny199.out] at ho; have n0_ := Aside0.mk (Kd.V_afterv (ok := (fun k_ => (P0_ k_ ∨ w.heap.size ≤ k_))) (by (with_reducible repeat (first | apply Kd.V_alloc | apply Kd.V_drewN | apply Kd.V_drew)); exact HO_0.out) hg hat); have n1_ := Aside0.mk (Kd.V_afterv (ok := (fun k_ => (P0_ k_ ∨ w.heap.size ≤ k_))) (by (with_reducible repeat (first | apply Kd.V_alloc | apply Kd.V_drewN | apply Kd.V_drew)); exact HL198_0.out) hg hat); have n2_ := Aside0.mk (hb); have n3_ := Aside0.mk (ho); clear HO_0; clear HL198_0; clear HB; clear HO_3; have HO_0 := n0_; have HL198_0 := n1_; have HB := n2_; have HO201 := n3_; clear n0_ n1_ n2_ n3_; clear ho hb hg hat))
    go_roundg k1
    case measure => have := HK1.out; omega
    case rel => exact ⟨(y199), (wrap64 (x4_1 + 1)), rS, H', ⟨by have := HK1.out; omega⟩, ⟨by (with_reducible repeat (first | apply Kd.V_alloc | apply Kd.V_drewN | apply Kd.V_drew)); exact HO_0.out⟩, ⟨by (with_reducible repeat (first | apply Kd.N_alloc | apply Kd.N_drewN | apply Kd.N_drew)); exact HO201.out⟩, ⟨bA⟩⟩
   rw [if_neg c4] at H
   have c4b0 := decide_eq_false c4
   clear c4
   obtain rfl := Option.some.inj H
   go_wp2
   go_ret
   exact ⟨_, rA, by (with_reducible repeat (first | apply Kd.N_alloc | apply Kd.N_drewN | apply Kd.N_drew)); exact HO_3.out, bA⟩

/-! ### spec_IsPlan: function 61 -/
def spec_IsPlan.l0 : Nat → List (S50) → List (S85) → Int → Option (Bool)
 | 0, _, _, _ => none
 | k + 1, x0, x1, x5 => if x5 < (x1.length : Int) then (if 0 ≤ x5 then (if (((rd_T85 x1 x5).f0).length : Int) = 0 then (some false) else ((spec_IsTogether.f k x0 ((rd_T85 x1 x5).f0)).bind fun t209 => (if t209 = true then ((spec_LeastGreen.f k x0 ((rd_T85 x1 x5).f0)).bind fun t212 => ((spec_l1In.f ((rd_T85 x1 x5).f1) t212 60).bind fun t213 => (if t213 = true then (spec_IsPlan.l0 k x0 x1 (wrap64 (x5 + 1))) else (some false)))) else (some false)))) else (none)) else ((spec_l8Stages.f k x1).bind fun t203 => ((spec_Covers.f k x0 t203).bind fun t206 => (some t206)))
def spec_IsPlan.f (k : Nat) (l0 : List (S50)) (l1 : List (S85)) : Option (Bool) := (spec_l1In.f (l1.length : Int) 1 6).bind fun t202 => (if t202 = true then (spec_IsPlan.l0 k l0 l1 0) else (some false))
theorem spec_IsPlan.mono_l : ∀ k, (∀ y0 y1 y2, LeO (spec_IsPlan.l0 k y0 y1 y2) (spec_IsPlan.l0 (k + 1) y0 y1 y2))
 | 0 => fun _ _ _ r h => by simp [spec_IsPlan.l0] at h
 | k + 1 => by
  have ih0 := spec_IsPlan.mono_l k
  ·
   intro y0 y1 y2
   unfold spec_IsPlan.l0
   exact mz5 ih0 spec_Covers.mono spec_IsTogether.mono spec_LeastGreen.mono spec_l8Stages.mono
theorem spec_IsPlan.mono : ∀ a0 a1 k, LeO (spec_IsPlan.f k a0 a1) (spec_IsPlan.f (k + 1) a0 a1) := by
 intro a0 a1 k
 have ih0 := spec_IsPlan.mono_l k
 unfold spec_IsPlan.f
 exact mz5 ih0 spec_Covers.mono spec_IsTogether.mono spec_LeastGreen.mono spec_l8Stages.mono
def spec_IsPlan.T6 : Bool × List (List Nat × List Nat) := (true, [([], []), ([], []), ([0, 1], [0, 1]), ([2], [2]), ([3], [3]), ([4], [4]), ([5], [5]), ([6], [6]), ([7], [7]), ([7], [7]), ([7], [7]), ([9, 10, 7], [7, 9, 10]), ([11, 7], [7, 11]), ([12, 7], [7, 12]), ([8, 13, 7, 7], [7, 8, 13]), ([14, 7], [7, 14]), ([7, 15], [7, 15]), ([16, 14], [16]), ([17], [17]), ([17], [17]), ([18, 19, 17], [17, 18, 19]), ([20, 17], [17, 20]), ([21, 17], [17, 21]), ([17], [17]), ([17], [17]), ([17], [17]), ([24, 25, 17], [17, 24, 25]), ([26, 17], [17, 26]), ([27, 17], [17, 27]), ([23, 28, 17, 17], [17, 23, 28]), ([22, 29, 29, 17], [17, 22, 29]), ([30, 17], [17, 30]), ([17, 31], [17, 31])])
def spec_IsPlan.B6 : List Nat := [0, 0, 3, 7, 15, 31, 63, 127, 255, 255, 255, 1791, 3839, 7935, 16383, 32767, 65535, 131071, 262143, 262143, 1048575, 2097151, 4194303, 262143, 262143, 262143, 50593791, 117702655, 251920383, 528744447, 1073741823, 2147483647, 4294967295]
theorem spec_IsPlan.tab6 : rtab .any (opsOf Try.f61 6) = spec_IsPlan.T6 := by kernel_rfl
theorem spec_IsPlan.bits6 : waitsOk spec_IsPlan.T6.2 spec_IsPlan.B6 = true := by kernel_rfl
set_option maxHeartbeats 8000000 in
set_option maxRecDepth 100000 in
theorem spec_IsPlan.calls (k : Nat) (A0 : Option Addr) (c0 : Nat) (l0 : List (S50)) (A1 : Option Addr) (c1 : Nat) (l1 : List (S85)) (r : Bool) (w : World) (hr0 : Kd.C k50 w A0 l0.length l0) (hc0 : l0.length ≤ c0) (hr1 : Kd.C k85 w A1 l1.length l1) (hc1 : l1.length ≤ c1) (h : spec_IsPlan.f k l0 l1 = some r) :
  Calls Try.prog 61 #[.slice A0 l0.length c0, .slice A1 l1.length c1] w fun e w' => e = .returned (.bool r) ∧ Below w.heap.size w w' := by
 have HR0 := Aside0.mk hr0
 have HC0 := Aside0.mk hc0
 clear hr0 hc0
 have HR1 := Aside0.mk hr1
 have HC1 := Aside0.mk hc1
 clear hr1 hc1
 have HB := Aside0.mk (Below.refl w.heap.size w)
 have H : ((spec_l1In.f (l1.length : Int) 1 6).bind fun t202 => (if t202 = true then (spec_IsPlan.l0 k l0 l1 0) else (some false))) = some r := h
 clear h
 obtain ⟨t202, A3, H⟩ := bindE H
 try dsimp only at H
 by_cases c4 : t202 = true
 ·
  subst c4
  have H1 : (spec_IsPlan.l0 k l0 l1 0) = some r := by rw [if_pos rfl] at H; exact H
  clear H
  have H := H1
  clear H1
  have H' := Aside0.mk H
  clear H
  go_enter Try.func61, Try.ntmps61
  go_wp2_with (first | ((with_reducible refine gate_callee (f := 111) rfl ?_); refine gL (some 8) Try.func111 #[.int .i64 (l1.length : Int), .int .i64 1, .int .i64 6] ?_; (with_reducible refine (spec_l1In.calls (l1.length : Int) 1 6 true _ A3.out).mono ?_); rintro e w' ⟨rfl, ⟨nd, rfl⟩⟩; refine ⟨_, rfl, ?_⟩))
  go_loopg [5] k (fun kq v5 w' => ∃ (x5_1 : Int), v5 = .int .i64 x5_1 ∧ Aside0 (spec_IsPlan.l0 kq l0 l1 x5_1 = some r) ∧ Aside0 (kq ≤ k) ∧ Aside0 (Below w.heap.size w w'))
  case atStart => exact ⟨(0), rS, H', ⟨Nat.le_refl _⟩, ⟨bA⟩⟩
  case round =>
   clear H'
   obtain ⟨x5_1, rfl, HA, HK1, HB⟩ := hrel
   cases gk with
   | zero => exact absurd HA.out (by simp [spec_IsPlan.l0])
   | succ k1 =>
    have H := HA.out
    clear HA
    simp only [spec_IsPlan.l0] at H
    by_cases c5 : x5_1 < (l1.length : Int)
    ·
     rw [if_pos c5] at H
     have c5b0 := decide_eq_true c5
     clear c5
     have c6 : 0 ≤ x5_1 := ifN H
     replace H := ifT H
     have c6b0 := decide_eq_true c6
     clear c6
     by_cases c7 : (((rd_T85 l1 x5_1).f0).length : Int) = 0
     ·
      rw [if_pos c7] at H
      have c7b0 : ((((rd_T85 l1 x5_1).f0).length : Int) == 0) = true := beq_iff_eq.mpr c7
      have c7b1 : ((((rd_T85 l1 x5_1).f0).length : Int) != 0) = false := bne_eq_false_iff_eq.mpr c7
      clear c7
      obtain rfl := Option.some.inj H
      try go_wp2
      have HBo := HB
      replace HB := db HB
      obtain ⟨p207, q207⟩ : 0 ≤ (x5_1 : Int) ∧ x5_1 < (l1.length : Int) := ⟨dA, dA⟩
      obtain ⟨ad207, A207_0, c207_0, e207, hx207_0, hx207_1, hl207_0, hi207_0⟩ := at_T85 HR1.out x5_1 p207 q207
      have hw207_1 := hx207_1
      have hw207_0 := hx207_0
      cases e207
      replace hx207_0 := hC HB hx207_0
      replace hx207_1 := hC HB hx207_1
      have HR207_0 := Aside0.mk hi207_0
      have HC207_0 := Aside0.mk hl207_0
      clear hi207_0 hl207_0
      obtain ⟨p207, q207⟩ := eT p207 q207
      refine sw (ds := []) 33 (mb 33 0) spec_IsPlan.tab6 spec_IsPlan.bits6 (h1c (hC HB hw207_0) (h1 (hC HB hw207_1))) (fun hHeld HT_ HW_ => ?_)
      generalize wr.drew = w8 at HB HR207_0 hx207_0 hx207_1 hHeld ⊢
      refine pa 0 16 (mb 33 1) HT_ ?_
      refine pa 1 17 (mb 33 3) HT_ ?_
      refine pa 2 18 (mb 33 7) HT_ ?_
      refine pa 3 19 (mb 33 15) HT_ ?_
      refine ta2 4 20 (mb 33 31) HT_ HW_ hHeld ?_
      refine pa 5 21 (mb 33 63) HT_ ?_
      refine pa 6 22 (mb 33 127) HT_ ?_
      refine pa 7 23 (mb 33 255) HT_ ?_
      refine pu 8 24 (mb 33 511) HT_ ?_
      refine pu 9 25 (mb 33 1023) HT_ ?_
      refine pu 10 26 (mb 33 2047) HT_ ?_
      refine pu 11 27 (mb 33 4095) HT_ ?_
      refine pu 12 28 (mb 33 8191) HT_ ?_
      refine pu 13 29 (mb 33 16383) HT_ ?_
      refine pu 14 30 (mb 33 32767) HT_ ?_
      refine pu 15 31 (mb 33 65535) HT_ ?_
      refine pa 16 32 (mb 33 131071) HT_ ?_
      refine pa 17 33 (mb 33 262143) HT_ ?_
      refine pu 18 34 (mb 33 524287) HT_ ?_
      refine pu 19 35 (mb 33 1048575) HT_ ?_
      refine pu 20 36 (mb 33 2097151) HT_ ?_
      refine pu 21 37 (mb 33 4194303) HT_ ?_
      refine pu 22 38 (mb 33 8388607) HT_ ?_
      refine pu 23 39 (mb 33 16777215) HT_ ?_
      refine pu 24 40 (mb 33 33554431) HT_ ?_
      refine pu 25 41 (mb 33 67108863) HT_ ?_
      refine pu 26 42 (mb 33 134217727) HT_ ?_
      refine pu 27 43 (mb 33 268435455) HT_ ?_
      refine pu 28 44 (mb 33 536870911) HT_ ?_
      refine pu 29 45 (mb 33 1073741823) HT_ ?_
      refine pu 30 46 (mb 33 2147483647) HT_ ?_
      refine pu 31 47 (mb 33 4294967295) HT_ ?_
      refine pa 32 48 (mb 33 8589934591) HT_ ?_
      refine eA HT_ ?_
      try go_wp2
      go_ret
      exact ⟨rA, bA⟩
     rw [if_neg c7] at H
     have c7b0 : ((((rd_T85 l1 x5_1).f0).length : Int) == 0) = false := beq_eq_false_iff_ne.mpr c7
     have c7b1 : ((((rd_T85 l1 x5_1).f0).length : Int) != 0) = true := bne_iff_ne.mpr c7
     have c7b2 : ¬ (((rd_T85 l1 x5_1).f0) = []) := fun h_ => c7 (by rw [h_]; rfl)
     obtain ⟨t209, A9, H⟩ := bindE H
     try dsimp only at H
     by_cases c10 : t209 = true
     ·
      subst c10
      have H1 : ((spec_LeastGreen.f k1 l0 ((rd_T85 l1 x5_1).f0)).bind fun t212 => ((spec_l1In.f ((rd_T85 l1 x5_1).f1) t212 60).bind fun t213 => (if t213 = true then (spec_IsPlan.l0 k1 l0 l1 (wrap64 (x5_1 + 1))) else (some false)))) = some r := by rw [if_pos rfl] at H; exact H
      clear H
      have H := H1
      clear H1
      obtain ⟨t212, A11, H⟩ := bindE H
      try dsimp only at H
      obtain ⟨t213, A12, H⟩ := bindE H
      try dsimp only at H
      by_cases c13 : t213 = true
      ·
       subst c13
       have H1 : (spec_IsPlan.l0 k1 l0 l1 (wrap64 (x5_1 + 1))) = some r := by rw [if_pos rfl] at H; exact H
       clear H
       have H := H1
       clear H1
       have H' := Aside0.mk H
       clear H
       try go_wp2
       have HBo := HB
       replace HB := db HB
       obtain ⟨p207, q207⟩ : 0 ≤ (x5_1 : Int) ∧ x5_1 < (l1.length : Int) := ⟨dA, dA⟩
       obtain ⟨ad207, A207_0, c207_0, e207, hx207_0, hx207_1, hl207_0, hi207_0⟩ := at_T85 HR1.out x5_1 p207 q207
       have hw207_1 := hx207_1
       have hw207_0 := hx207_0
       cases e207
       replace hx207_0 := hC HB hx207_0
       replace hx207_1 := hC HB hx207_1
       have HR207_0 := Aside0.mk hi207_0
       have HC207_0 := Aside0.mk hl207_0
       clear hi207_0 hl207_0
       obtain ⟨p207, q207⟩ := eT p207 q207
       obtain ⟨p208, q208⟩ : 0 ≤ (x5_1 : Int) ∧ x5_1 < (l1.length : Int) := ⟨dA, dA⟩
       obtain ⟨ad208, A208_0, c208_0, e208, hx208_0, hx208_1, hl208_0, hi208_0⟩ := at_T85 HR1.out x5_1 p208 q208
       have hw208_1 := hx208_1
       have hw208_0 := hx208_0
       obtain rfl : ad207 = ad208 := (by injection e208)
       replace hx208_0 := hC HB hx208_0
       replace hx208_1 := hC HB hx208_1
       have HR208_0 := Aside0.mk hi208_0
       have HC208_0 := Aside0.mk hl208_0
       clear hi208_0 hl208_0
       obtain ⟨p208, q208⟩ := eT p208 q208
       have ea_ := Option.some.inj (hx207_0.symm.trans hx208_0)
       injection ea_ with ea_ en_ ec_
       subst ea_
       subst ec_
       clear en_
       obtain ⟨p210, q210⟩ : 0 ≤ (x5_1 : Int) ∧ x5_1 < (l1.length : Int) := ⟨dA, dA⟩
       obtain ⟨ad210, A210_0, c210_0, e210, hx210_0, hx210_1, hl210_0, hi210_0⟩ := at_T85 HR1.out x5_1 p210 q210
       have hw210_1 := hx210_1
       have hw210_0 := hx210_0
       obtain rfl : ad207 = ad210 := (by injection e210)
       replace hx210_0 := hC HB hx210_0
       replace hx210_1 := hC HB hx210_1
       have HR210_0 := Aside0.mk hi210_0
       have HC210_0 := Aside0.mk hl210_0
       clear hi210_0 hl210_0
       obtain ⟨p210, q210⟩ := eT p210 q210
       first | have ea_ := Option.some.inj (hw207_0.symm.trans hw210_0) | have ea_ := Option.some.inj (hx207_0.symm.trans hx210_0)
       injection ea_ with ea_ en_ ec_
       subst ea_
       subst ec_
       clear en_
       obtain ⟨p211, q211⟩ : 0 ≤ (x5_1 : Int) ∧ x5_1 < (l1.length : Int) := ⟨dA, dA⟩
       obtain ⟨ad211, A211_0, c211_0, e211, hx211_0, hx211_1, hl211_0, hi211_0⟩ := at_T85 HR1.out x5_1 p211 q211
       have hw211_1 := hx211_1
       have hw211_0 := hx211_0
       obtain rfl : ad207 = ad211 := (by injection e211)
       replace hx211_0 := hC HB hx211_0
       replace hx211_1 := hC HB hx211_1
       have HR211_0 := Aside0.mk hi211_0
       have HC211_0 := Aside0.mk hl211_0
       clear hi211_0 hl211_0
       obtain ⟨p211, q211⟩ := eT p211 q211
       first | have ea_ := Option.some.inj (hw207_0.symm.trans hw211_0) | have ea_ := Option.some.inj (hx207_0.symm.trans hx211_0)
       injection ea_ with ea_ en_ ec_
       subst ea_
       subst ec_
       clear en_
       refine sw (ds := []) 33 (mb 33 0) spec_IsPlan.tab6 spec_IsPlan.bits6 (h1c (hC HB hw207_0) (h1c (hC HB hw207_1) (h1c (hC HB hw208_0) (h1c (hC HB hw208_1) (h1c (hC HB hw210_0) (h1c (hC HB hw210_1) (h1c (hC HB hw211_0) (h1 (hC HB hw211_1))))))))) (fun hHeld HT_ HW_ => ?_)
       generalize wr.drew = w14 at HB HR207_0 HR208_0 HR210_0 HR211_0 hx207_0 hx207_1 hx208_0 hx208_1 hx210_0 hx210_1 hx211_0 hx211_1 hHeld ⊢
       refine pa 0 16 (mb 33 1) HT_ ?_
       refine pa 1 17 (mb 33 3) HT_ ?_
       refine pa 2 18 (mb 33 7) HT_ ?_
       refine pa 3 19 (mb 33 15) HT_ ?_
       refine ta8 4 20 (mb 33 31) HT_ HW_ hHeld ?_
       refine pa 5 21 (mb 33 63) HT_ ?_
       refine pa 6 22 (mb 33 127) HT_ ?_
       refine pa 7 23 (mb 33 255) HT_ ?_
       refine pa 8 24 (mb 33 511) HT_ ?_
       refine pa 9 25 (mb 33 1023) HT_ ?_
       refine pa 10 26 (mb 33 2047) HT_ ?_
       refine pa 11 27 (mb 33 4095) HT_ ?_
       refine pa 12 28 (mb 33 8191) HT_ ?_
       refine ta8 13 29 (mb 33 16383) HT_ HW_ hHeld ?_
       refine oa 14 30 (mb 33 32767) HT_ (fun K hK => ?_)
       refine gA Try.func112 #[.slice A0 l0.length c0, .slice A207_0 ((rd_T85 l1 x5_1).f0).length c207_0] ?_
       with_reducible refine (spec_IsTogether.calls k1 _ _ l0 _ _ ((rd_T85 l1 x5_1).f0) true _ ?side1 ?side2 ?side3 ?side4 A9.out).mono ?_
       (case side1 => exact cB HR0)
       (case side2 => exact HC0.out)
       (case side3 => exact cB HR208_0)
       (case side4 => exact HC208_0.out)
       rintro e w15 ⟨rfl, hb⟩
       refine ⟨_, rfl, ?_⟩
       replace HB := bs HB hb
       (try clear hb)
       (try clear hb2)
       (try clear hk)
       (try clear hi)
       refine hK.out _ _ ⟨(hC HB hw207_0), (hC HB hw207_1), (hC HB hw208_0), (hC HB hw208_1), (hC HB hw210_0), (hC HB hw210_1), (hC HB hw211_0), (hC HB hw211_1)⟩ (fun hHeld => ?_)
       clear hK K
       refine nB ?_
       refine pa 15 31 (mb 33 65535) HT_ ?_
       refine pa 16 32 (mb 33 131071) HT_ ?_
       refine pa 17 33 (mb 33 262143) HT_ ?_
       refine pa 18 34 (mb 33 524287) HT_ ?_
       refine pa 19 35 (mb 33 1048575) HT_ ?_
       refine pa 20 36 (mb 33 2097151) HT_ ?_
       refine pa 21 37 (mb 33 4194303) HT_ ?_
       refine pa 23 39 (mb 33 12582911) HT_ ?_
       refine pa 24 40 (mb 33 29360127) HT_ ?_
       refine pa 25 41 (mb 33 62914559) HT_ ?_
       refine pa 26 42 (mb 33 130023423) HT_ ?_
       refine pa 27 43 (mb 33 264241151) HT_ ?_
       refine ta8 22 38 (mb 33 268435455) HT_ HW_ hHeld ?_
       refine ta8 28 44 (mb 33 536870911) HT_ HW_ hHeld ?_
       refine oa 29 45 (mb 33 1073741823) HT_ (fun K hK => ?_)
       refine gA Try.func113 #[.slice A0 l0.length c0, .slice A207_0 ((rd_T85 l1 x5_1).f0).length c207_0] ?_
       with_reducible refine (spec_LeastGreen.calls k1 _ _ l0 _ _ ((rd_T85 l1 x5_1).f0) t212 _ ?side1 ?side2 ?side3 ?side4 A11.out).mono ?_
       (case side1 => exact cB HR0)
       (case side2 => exact HC0.out)
       (case side3 => exact cB HR211_0)
       (case side4 => exact HC211_0.out)
       rintro e w' ⟨rfl, ⟨nd, rfl⟩⟩
       refine ⟨_, rfl, ?_⟩
       refine hK.out _ _ ⟨(hC HB hw207_0), (hC HB hw207_1), (hC HB hw208_0), (hC HB hw208_1), (hC HB hw210_0), (hC HB hw210_1), (hC HB hw211_0), (hC HB hw211_1)⟩ (fun hHeld => ?_)
       clear hK K
       refine nB ?_
       refine oa 30 46 (mb 33 2147483647) HT_ (fun K hK => ?_)
       refine gA Try.func111 #[.int .i64 ((rd_T85 l1 x5_1).f1), .int .i64 t212, .int .i64 60] ?_
       with_reducible refine (spec_l1In.calls ((rd_T85 l1 x5_1).f1) t212 60 true _ A12.out).mono ?_
       rintro e w' ⟨rfl, ⟨nd, rfl⟩⟩
       refine ⟨_, rfl, ?_⟩
       refine hK.out _ _ ⟨(hC HB hw207_0), (hC HB hw207_1), (hC HB hw208_0), (hC HB hw208_1), (hC HB hw210_0), (hC HB hw210_1), (hC HB hw211_0), (hC HB hw211_1)⟩ (fun hHeld => ?_)
       clear hK K
       refine nB ?_
       refine pa 31 47 (mb 33 4294967295) HT_ ?_
       refine pa 32 48 (mb 33 8589934591) HT_ ?_
       refine eA HT_ ?_
       try go_wp2
       go_roundg k1
       case measure => have := HK1.out; omega
       case rel => exact ⟨(wrap64 (x5_1 + 1)), rS, H', ⟨by have := HK1.out; omega⟩, ⟨bA⟩⟩
      replace c13 := Bool.eq_false_iff.mpr c13
      subst c13
      have H1 : (some false) = some r := by rw [if_neg (show ¬ (false = true) by decide)] at H; exact H
      clear H
      have H := H1
      clear H1
      obtain rfl := Option.some.inj H
      try go_wp2
      have HBo := HB
      replace HB := db HB
      obtain ⟨p207, q207⟩ : 0 ≤ (x5_1 : Int) ∧ x5_1 < (l1.length : Int) := ⟨dA, dA⟩
      obtain ⟨ad207, A207_0, c207_0, e207, hx207_0, hx207_1, hl207_0, hi207_0⟩ := at_T85 HR1.out x5_1 p207 q207
      have hw207_1 := hx207_1
      have hw207_0 := hx207_0
      cases e207
      replace hx207_0 := hC HB hx207_0
      replace hx207_1 := hC HB hx207_1
      have HR207_0 := Aside0.mk hi207_0
      have HC207_0 := Aside0.mk hl207_0
      clear hi207_0 hl207_0
      obtain ⟨p207, q207⟩ := eT p207 q207
      obtain ⟨p208, q208⟩ : 0 ≤ (x5_1 : Int) ∧ x5_1 < (l1.length : Int) := ⟨dA, dA⟩
      obtain ⟨ad208, A208_0, c208_0, e208, hx208_0, hx208_1, hl208_0, hi208_0⟩ := at_T85 HR1.out x5_1 p208 q208
      have hw208_1 := hx208_1
      have hw208_0 := hx208_0
      obtain rfl : ad207 = ad208 := (by injection e208)
      replace hx208_0 := hC HB hx208_0
      replace hx208_1 := hC HB hx208_1
      have HR208_0 := Aside0.mk hi208_0
      have HC208_0 := Aside0.mk hl208_0
      clear hi208_0 hl208_0
      obtain ⟨p208, q208⟩ := eT p208 q208
      have ea_ := Option.some.inj (hx207_0.symm.trans hx208_0)
      injection ea_ with ea_ en_ ec_
      subst ea_
      subst ec_
      clear en_
      obtain ⟨p210, q210⟩ : 0 ≤ (x5_1 : Int) ∧ x5_1 < (l1.length : Int) := ⟨dA, dA⟩
      obtain ⟨ad210, A210_0, c210_0, e210, hx210_0, hx210_1, hl210_0, hi210_0⟩ := at_T85 HR1.out x5_1 p210 q210
      have hw210_1 := hx210_1
      have hw210_0 := hx210_0
      obtain rfl : ad207 = ad210 := (by injection e210)
      replace hx210_0 := hC HB hx210_0
      replace hx210_1 := hC HB hx210_1
      have HR210_0 := Aside0.mk hi210_0
      have HC210_0 := Aside0.mk hl210_0
      clear hi210_0 hl210_0
      obtain ⟨p210, q210⟩ := eT p210 q210
      first | have ea_ := Option.some.inj (hw207_0.symm.trans hw210_0) | have ea_ := Option.some.inj (hx207_0.symm.trans hx210_0)
      injection ea_ with ea_ en_ ec_
      subst ea_
      subst ec_
      clear en_
      obtain ⟨p211, q211⟩ : 0 ≤ (x5_1 : Int) ∧ x5_1 < (l1.length : Int) := ⟨dA, dA⟩
      obtain ⟨ad211, A211_0, c211_0, e211, hx211_0, hx211_1, hl211_0, hi211_0⟩ := at_T85 HR1.out x5_1 p211 q211
      have hw211_1 := hx211_1
      have hw211_0 := hx211_0
      obtain rfl : ad207 = ad211 := (by injection e211)
      replace hx211_0 := hC HB hx211_0
      replace hx211_1 := hC HB hx211_1
      have HR211_0 := Aside0.mk hi211_0
      have HC211_0 := Aside0.mk hl211_0
      clear hi211_0 hl211_0
      obtain ⟨p211, q211⟩ := eT p211 q211
      first | have ea_ := Option.some.inj (hw207_0.symm.trans hw211_0) | have ea_ := Option.some.inj (hx207_0.symm.trans hx211_0)
      injection ea_ with ea_ en_ ec_
      subst ea_
      subst ec_
      clear en_
      refine sw (ds := []) 33 (mb 33 0) spec_IsPlan.tab6 spec_IsPlan.bits6 (h1c (hC HB hw207_0) (h1c (hC HB hw207_1) (h1c (hC HB hw208_0) (h1c (hC HB hw208_1) (h1c (hC HB hw210_0) (h1c (hC HB hw210_1) (h1c (hC HB hw211_0) (h1 (hC HB hw211_1))))))))) (fun hHeld HT_ HW_ => ?_)
      generalize wr.drew = w16 at HB HR207_0 HR208_0 HR210_0 HR211_0 hx207_0 hx207_1 hx208_0 hx208_1 hx210_0 hx210_1 hx211_0 hx211_1 hHeld ⊢
      refine pa 0 16 (mb 33 1) HT_ ?_
      refine pa 1 17 (mb 33 3) HT_ ?_
      refine pa 2 18 (mb 33 7) HT_ ?_
      refine pa 3 19 (mb 33 15) HT_ ?_
      refine ta8 4 20 (mb 33 31) HT_ HW_ hHeld ?_
      refine pa 5 21 (mb 33 63) HT_ ?_
      refine pa 6 22 (mb 33 127) HT_ ?_
      refine pa 7 23 (mb 33 255) HT_ ?_
      refine pa 8 24 (mb 33 511) HT_ ?_
      refine pa 9 25 (mb 33 1023) HT_ ?_
      refine pa 10 26 (mb 33 2047) HT_ ?_
      refine pa 11 27 (mb 33 4095) HT_ ?_
      refine pa 12 28 (mb 33 8191) HT_ ?_
      refine ta8 13 29 (mb 33 16383) HT_ HW_ hHeld ?_
      refine oa 14 30 (mb 33 32767) HT_ (fun K hK => ?_)
      refine gA Try.func112 #[.slice A0 l0.length c0, .slice A207_0 ((rd_T85 l1 x5_1).f0).length c207_0] ?_
      with_reducible refine (spec_IsTogether.calls k1 _ _ l0 _ _ ((rd_T85 l1 x5_1).f0) true _ ?side1 ?side2 ?side3 ?side4 A9.out).mono ?_
      (case side1 => exact cB HR0)
      (case side2 => exact HC0.out)
      (case side3 => exact cB HR208_0)
      (case side4 => exact HC208_0.out)
      rintro e w17 ⟨rfl, hb⟩
      refine ⟨_, rfl, ?_⟩
      replace HB := bs HB hb
      (try clear hb)
      (try clear hb2)
      (try clear hk)
      (try clear hi)
      refine hK.out _ _ ⟨(hC HB hw207_0), (hC HB hw207_1), (hC HB hw208_0), (hC HB hw208_1), (hC HB hw210_0), (hC HB hw210_1), (hC HB hw211_0), (hC HB hw211_1)⟩ (fun hHeld => ?_)
      clear hK K
      refine nB ?_
      refine pa 15 31 (mb 33 65535) HT_ ?_
      refine pa 16 32 (mb 33 131071) HT_ ?_
      refine pa 17 33 (mb 33 262143) HT_ ?_
      refine pa 18 34 (mb 33 524287) HT_ ?_
      refine pa 19 35 (mb 33 1048575) HT_ ?_
      refine pa 20 36 (mb 33 2097151) HT_ ?_
      refine pa 21 37 (mb 33 4194303) HT_ ?_
      refine pa 23 39 (mb 33 12582911) HT_ ?_
      refine pa 24 40 (mb 33 29360127) HT_ ?_
      refine pa 25 41 (mb 33 62914559) HT_ ?_
      refine pa 26 42 (mb 33 130023423) HT_ ?_
      refine pa 27 43 (mb 33 264241151) HT_ ?_
      refine ta8 22 38 (mb 33 268435455) HT_ HW_ hHeld ?_
      refine ta8 28 44 (mb 33 536870911) HT_ HW_ hHeld ?_
      refine oa 29 45 (mb 33 1073741823) HT_ (fun K hK => ?_)
      refine gA Try.func113 #[.slice A0 l0.length c0, .slice A207_0 ((rd_T85 l1 x5_1).f0).length c207_0] ?_
      with_reducible refine (spec_LeastGreen.calls k1 _ _ l0 _ _ ((rd_T85 l1 x5_1).f0) t212 _ ?side1 ?side2 ?side3 ?side4 A11.out).mono ?_
      (case side1 => exact cB HR0)
      (case side2 => exact HC0.out)
      (case side3 => exact cB HR211_0)
      (case side4 => exact HC211_0.out)
      rintro e w' ⟨rfl, ⟨nd, rfl⟩⟩
      refine ⟨_, rfl, ?_⟩
      refine hK.out _ _ ⟨(hC HB hw207_0), (hC HB hw207_1), (hC HB hw208_0), (hC HB hw208_1), (hC HB hw210_0), (hC HB hw210_1), (hC HB hw211_0), (hC HB hw211_1)⟩ (fun hHeld => ?_)
      clear hK K
      refine nB ?_
      refine oa 30 46 (mb 33 2147483647) HT_ (fun K hK => ?_)
      refine gA Try.func111 #[.int .i64 ((rd_T85 l1 x5_1).f1), .int .i64 t212, .int .i64 60] ?_
      with_reducible refine (spec_l1In.calls ((rd_T85 l1 x5_1).f1) t212 60 false _ A12.out).mono ?_
      rintro e w' ⟨rfl, ⟨nd, rfl⟩⟩
      refine ⟨_, rfl, ?_⟩
      refine hK.out _ _ ⟨(hC HB hw207_0), (hC HB hw207_1), (hC HB hw208_0), (hC HB hw208_1), (hC HB hw210_0), (hC HB hw210_1), (hC HB hw211_0), (hC HB hw211_1)⟩ (fun hHeld => ?_)
      clear hK K
      refine nB ?_
      refine pa 31 47 (mb 33 4294967295) HT_ ?_
      refine pa 32 48 (mb 33 8589934591) HT_ ?_
      refine eA HT_ ?_
      try go_wp2
      go_ret
      exact ⟨rA, bA⟩
     replace c10 := Bool.eq_false_iff.mpr c10
     subst c10
     have H1 : (some false) = some r := by rw [if_neg (show ¬ (false = true) by decide)] at H; exact H
     clear H
     have H := H1
     clear H1
     obtain rfl := Option.some.inj H
     try go_wp2
     have HBo := HB
     replace HB := db HB
     obtain ⟨p207, q207⟩ : 0 ≤ (x5_1 : Int) ∧ x5_1 < (l1.length : Int) := ⟨dA, dA⟩
     obtain ⟨ad207, A207_0, c207_0, e207, hx207_0, hx207_1, hl207_0, hi207_0⟩ := at_T85 HR1.out x5_1 p207 q207
     have hw207_1 := hx207_1
     have hw207_0 := hx207_0
     cases e207
     replace hx207_0 := hC HB hx207_0
     replace hx207_1 := hC HB hx207_1
     have HR207_0 := Aside0.mk hi207_0
     have HC207_0 := Aside0.mk hl207_0
     clear hi207_0 hl207_0
     obtain ⟨p207, q207⟩ := eT p207 q207
     obtain ⟨p208, q208⟩ : 0 ≤ (x5_1 : Int) ∧ x5_1 < (l1.length : Int) := ⟨dA, dA⟩
     obtain ⟨ad208, A208_0, c208_0, e208, hx208_0, hx208_1, hl208_0, hi208_0⟩ := at_T85 HR1.out x5_1 p208 q208
     have hw208_1 := hx208_1
     have hw208_0 := hx208_0
     obtain rfl : ad207 = ad208 := (by injection e208)
     replace hx208_0 := hC HB hx208_0
     replace hx208_1 := hC HB hx208_1
     have HR208_0 := Aside0.mk hi208_0
     have HC208_0 := Aside0.mk hl208_0
     clear hi208_0 hl208_0
     obtain ⟨p208, q208⟩ := eT p208 q208
     have ea_ := Option.some.inj (hx207_0.symm.trans hx208_0)
     injection ea_ with ea_ en_ ec_
     subst ea_
     subst ec_
     clear en_
     refine sw (ds := []) 33 (mb 33 0) spec_IsPlan.tab6 spec_IsPlan.bits6 (h1c (hC HB hw207_0) (h1c (hC HB hw207_1) (h1c (hC HB hw208_0) (h1 (hC HB hw208_1))))) (fun hHeld HT_ HW_ => ?_)
     generalize wr.drew = w18 at HB HR207_0 HR208_0 hx207_0 hx207_1 hx208_0 hx208_1 hHeld ⊢
     refine pa 0 16 (mb 33 1) HT_ ?_
     refine pa 1 17 (mb 33 3) HT_ ?_
     refine pa 2 18 (mb 33 7) HT_ ?_
     refine pa 3 19 (mb 33 15) HT_ ?_
     refine ta4 4 20 (mb 33 31) HT_ HW_ hHeld ?_
     refine pa 5 21 (mb 33 63) HT_ ?_
     refine pa 6 22 (mb 33 127) HT_ ?_
     refine pa 7 23 (mb 33 255) HT_ ?_
     refine pa 8 24 (mb 33 511) HT_ ?_
     refine pa 9 25 (mb 33 1023) HT_ ?_
     refine pa 10 26 (mb 33 2047) HT_ ?_
     refine pa 11 27 (mb 33 4095) HT_ ?_
     refine pa 12 28 (mb 33 8191) HT_ ?_
     refine ta4 13 29 (mb 33 16383) HT_ HW_ hHeld ?_
     refine oa 14 30 (mb 33 32767) HT_ (fun K hK => ?_)
     refine gA Try.func112 #[.slice A0 l0.length c0, .slice A207_0 ((rd_T85 l1 x5_1).f0).length c207_0] ?_
     with_reducible refine (spec_IsTogether.calls k1 _ _ l0 _ _ ((rd_T85 l1 x5_1).f0) false _ ?side1 ?side2 ?side3 ?side4 A9.out).mono ?_
     (case side1 => exact cB HR0)
     (case side2 => exact HC0.out)
     (case side3 => exact cB HR208_0)
     (case side4 => exact HC208_0.out)
     rintro e w19 ⟨rfl, hb⟩
     refine ⟨_, rfl, ?_⟩
     replace HB := bs HB hb
     (try clear hb)
     (try clear hb2)
     (try clear hk)
     (try clear hi)
     refine hK.out _ _ ⟨(hC HB hw207_0), (hC HB hw207_1), (hC HB hw208_0), (hC HB hw208_1)⟩ (fun hHeld => ?_)
     clear hK K
     refine nB ?_
     refine pa 15 31 (mb 33 65535) HT_ ?_
     refine pa 16 32 (mb 33 131071) HT_ ?_
     refine pa 17 33 (mb 33 262143) HT_ ?_
     refine pu 18 34 (mb 33 524287) HT_ ?_
     refine pu 19 35 (mb 33 1048575) HT_ ?_
     refine pu 20 36 (mb 33 2097151) HT_ ?_
     refine pu 21 37 (mb 33 4194303) HT_ ?_
     refine pu 22 38 (mb 33 8388607) HT_ ?_
     refine pu 23 39 (mb 33 16777215) HT_ ?_
     refine pu 24 40 (mb 33 33554431) HT_ ?_
     refine pu 25 41 (mb 33 67108863) HT_ ?_
     refine pu 26 42 (mb 33 134217727) HT_ ?_
     refine pu 27 43 (mb 33 268435455) HT_ ?_
     refine pu 28 44 (mb 33 536870911) HT_ ?_
     refine pu 29 45 (mb 33 1073741823) HT_ ?_
     refine pu 30 46 (mb 33 2147483647) HT_ ?_
     refine pu 31 47 (mb 33 4294967295) HT_ ?_
     refine pa 32 48 (mb 33 8589934591) HT_ ?_
     refine eA HT_ ?_
     try go_wp2
     go_ret
     exact ⟨rA, bA⟩
    rw [if_neg c5] at H
    have c5b0 := decide_eq_false c5
    clear c5
    obtain ⟨t203, A20, H⟩ := bindE H
    try dsimp only at H
    obtain ⟨t206, A21, H⟩ := bindE H
    try dsimp only at H
    obtain rfl := Option.some.inj H
    go_wp2_with (first | ((with_reducible refine gate_callee (f := 115) rfl ?_); refine gL (some 51) Try.func115 #[.slice A1 l1.length c1] ?_; (with_reducible refine (spec_l8Stages.calls k1 (fun k_ => k_ < w.heap.size) _ _ l1 t203 _ ?_ A20.out).mono ?_); exact Kd.V_mk HC1.out (Kd.F_below (Kd.C_F k85_heap HR1.out) bA); rintro e w22 ⟨v204, rfl, ho0, hb⟩; refine ⟨_, rfl, ?_⟩; have HO205 := Aside0.mk (Kd.N_lower (Kd.N_mono (ok' := fun k_ => True) ho0 (fun k_ hk_ => trivial)) (below_size bA)); replace HB := bs HB hb; (try clear hb); (try clear ho0); obtain ⟨Ao23, co23, eo23⟩ := Kd.N_slice HO205.out; subst eo23) | ((with_reducible refine gate_callee (f := 114) rfl ?_); refine gL (some 52) Try.func114 #[.slice A0 l0.length c0, .slice Ao23 t203.length co23] ?_; (with_reducible refine (spec_Covers.calls k1 _ _ l0 _ _ t203 t206 _ ?_ ?_ ?_ ?_ A21.out).mono ?_); exact cB HR0; exact HC0.out; (focus repeat (first | exact (Kd.N_reads' HO205.out).2.2 | (with_reducible refine Kd.C_alloc ?_ _) | (with_reducible refine Kd.C_drewN ?_ _) | (with_reducible refine Kd.C_drew ?_))); exact (Kd.N_reads' HO205.out).2.1; rintro e w24 ⟨rfl, hb⟩; refine ⟨_, rfl, ?_⟩; have n0_ := Aside0.mk (Kd.N_below (by (with_reducible repeat (first | apply Kd.N_alloc | apply Kd.N_drewN | apply Kd.N_drew)); exact HO205.out) hb); have n1_ := bs HB hb; clear HO205; clear HB; have HO205 := n0_; have HB := n1_; clear n0_ n1_; (try clear hb)))
    go_ret
    exact ⟨rA, bA⟩
 replace c4 := Bool.eq_false_iff.mpr c4
 subst c4
 have H1 : (some false) = some r := by rw [if_neg (show ¬ (false = true) by decide)] at H; exact H
 clear H
 have H := H1
 clear H1
 obtain rfl := Option.some.inj H
 go_enter Try.func61, Try.ntmps61
 go_wp2_with (first | ((with_reducible refine gate_callee (f := 111) rfl ?_); refine gL (some 8) Try.func111 #[.int .i64 (l1.length : Int), .int .i64 1, .int .i64 6] ?_; (with_reducible refine (spec_l1In.calls (l1.length : Int) 1 6 false _ A3.out).mono ?_); rintro e w' ⟨rfl, ⟨nd, rfl⟩⟩; refine ⟨_, rfl, ?_⟩))
 go_ret
 exact ⟨rA, bA⟩

end Go.Proofs.Ytjgonpcajedkjaa.P
