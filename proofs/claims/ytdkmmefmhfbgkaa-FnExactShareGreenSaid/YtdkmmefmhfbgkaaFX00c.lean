/- Printed by myprint.py (wip/tools) over the kit's print: what Go's functions compute, and that they do. Lean checks it. -/
import Derived.Test.YtdkmmefmhfbgkaaF0
namespace Go.Proofs.Ytdkmmefmhfbgkaa.P
open Go.RowKit Go.Proofs.YtdkmmefmhfbgkaaW.PrintWords Go.Proofs.YtdkmmefmhfbgkaaW.PrintLast Go.Proofs.YtdkmmefmhfbgkaaW.PrintMore Go.Proofs.Ytdkmmefmhfbgkaa.Sq
attribute [local go_sem] max2_int min2_int max_two min_two max_three min_three max_four min_four
set_option linter.unusedVariables false
set_option linter.unusedSimpArgs false

/-! ### impl_FindPath: function 119 -/
def impl_FindPath.q (id : Int) (x : S89) : Bool := decide (x.f0 = id)
set_option maxHeartbeats 400000 in
set_option maxRecDepth 100000 in
theorem impl_FindPath.clo (id : Int) (g : Nat) (x : S89) (w : World) (hc : w.cell? ⟨g, 0, none⟩ = some (.int .i64 id)) :
  Calls Try.prog 143 #[.agg #[.int .i64 x.f0, .int .i64 x.f1, .int .i64 x.f2, .int .i64 x.f3], .pointer (some ⟨g, 0, none⟩)] w fun e w' => e = .returned (.bool (impl_FindPath.q id x)) ∧ Below w.heap.size w w' := by
 have hu := Try.underlying89
 have hg : g < w.heap.size := World.block_lt_of_cell? w _ hc
 go_enter Try.func143, Try.ntmps143
 go_wp2
 go_ret
 exact ⟨by unfold impl_FindPath.q; first | rfl | simp, (Below.refl _ _).alloc (Nat.le_refl _) _⟩
def impl_FindPath.ix (id : Int) : List S89 → Int → Int
 | [], _ => -1
 | x :: l, i => if impl_FindPath.q id x = true then i else impl_FindPath.ix id l (i + 1)
theorem impl_FindPath.ix_hit (id : Int) : ∀ (l : List S89) (i : Int) (m : Nat) (hm : m < l.length), (∀ j (hj : j < m), impl_FindPath.q id (l[j]'(by omega)) = false) → impl_FindPath.q id l[m] = true → impl_FindPath.ix id l i = i + m
 | [], i, m, hm, _, _ => absurd hm (by simp)
 | p :: l, i, 0, hm, _, h => by
  unfold impl_FindPath.ix
  rw [if_pos (show impl_FindPath.q id p = true from h)]
  simp
 | p :: l, i, m + 1, hm, hne, h => by
  unfold impl_FindPath.ix
  have h2 : impl_FindPath.q id p = false := hne 0 (by omega)
  rw [if_neg (by rw [h2]; decide), impl_FindPath.ix_hit id l (i + 1) m (by simpa using hm) (fun j hj => hne (j + 1) (by omega)) h]
  omega
theorem impl_FindPath.ix_miss (id : Int) : ∀ (l : List S89) (i : Int), (∀ j (hj : j < l.length), impl_FindPath.q id l[j] = false) → impl_FindPath.ix id l i = -1
 | [], i, _ => rfl
 | p :: l, i, h => by
  unfold impl_FindPath.ix
  have h2 : impl_FindPath.q id p = false := h 0 (by simp)
  rw [if_neg (by rw [h2]; decide), impl_FindPath.ix_miss id l (i + 1) (fun j hj => h (j + 1) (by simpa using hj))]
theorem impl_FindPath.rd_ (l : List S89) (j : Nat) (hj : j < l.length) : rd_T89 l (j : Int) = l[j] := by
 unfold rd_T89; simp [List.getD_eq_getElem?_getD, List.getElem?_eq_getElem hj]
set_option maxHeartbeats 4000000 in
set_option maxRecDepth 100000 in
theorem impl_FindPath.idx (id : Int) (g : Nat) (A0 : Option Addr) (c0 : Nat) (l0 : List S89) (w : World) (hr0 : Kd.C k89 w A0 l0.length l0) (hc0 : l0.length ≤ c0) (hc : w.cell? ⟨g, 0, none⟩ = some (.int .i64 id)) :
  Calls Try.prog 142 #[.slice A0 l0.length c0, .func (.func 143) #[] #[.pointer (some ⟨g, 0, none⟩)]] w fun e w' => e = .returned (.int .i64 (impl_FindPath.ix id l0 0)) ∧ Below w.heap.size w w' := by
 have hu := Try.underlying89
 have HC := Aside0.mk hc
 clear hc
 have HR0 := Aside0.mk hr0
 have HC0 := Aside0.mk hc0
 have hlen : l0.length ≤ 9223372036854775807 := hr0.2.1
 clear hr0 hc0
 have HB := Aside0.mk (Below.refl w.heap.size w)
 go_enter Try.func142, Try.ntmps142
 go_wp2
 go_loopg [5, 8] l0.length (fun gg v5 v8 w' => ∃ kk : Nat, v8 = .int .i64 kk ∧ Aside0 (kk ≤ l0.length) ∧ Aside0 (l0.length - kk ≤ gg) ∧ Aside0 (Below w.heap.size w w') ∧ Aside0 (∀ j (hj : j < kk) (hl : j < l0.length), impl_FindPath.q id l0[j] = false))
 case atStart => exact ⟨0, rfl, ⟨Nat.zero_le _⟩, ⟨by omega⟩, HB, ⟨fun j hj => absurd hj (Nat.not_lt_zero _)⟩⟩
 case round =>
  clear HB
  obtain ⟨kk, rfl, hk, hg, HB, HA⟩ := hrel
  by_cases hlt : kk < l0.length
  ·
   have hltz : decide ((kk : Int) < (l0.length : Int)) = true := decide_eq_true (by omega)
   have hltn : decide (kk < l0.length) = true := decide_eq_true hlt
   have p0 : (0 : Int) ≤ (kk : Int) := by omega
   have q0 : (kk : Int) < (l0.length : Int) := by omega
   have HE := Aside0.mk (impl_FindPath.rd_ l0 kk hlt)
   obtain ⟨ad, e1, hx0, hx1, hx2, hx3⟩ := at_T89 HR0.out (kk : Int) p0 q0
   cases e1
   rw [Int.toNat_natCast] at hx0 hx1 hx2 hx3
   replace hx0 := hC HB hx0
   replace hx1 := hC HB hx1
   replace hx2 := hC HB hx2
   replace hx3 := hC HB hx3
   replace p0 := eq_true p0
   replace q0 := eq_true q0
   have hcl := fun (w' : World) (hb : Below w.heap.size w w') => impl_FindPath.clo id g (rd_T89 l0 (kk : Int)) w' ((hb.cell (World.block_lt_of_cell? w _ HC.out)).trans HC.out)
   cases hq : impl_FindPath.q id (rd_T89 l0 (kk : Int)) with
   | true =>
    rw [hq] at hcl
    have HCL := Aside0.mk hcl
    have HQ := Aside0.mk hq
    clear hcl hq
    go_wp2_with (go_at_call 143; refine (HCL.out _ HB.out).mono ?_; rintro e w1 ⟨rfl, hb1⟩)
    go_ret
    refine ⟨?_, below_step HB.out hb1⟩
    have hq := HQ.out
    rw [HE.out] at hq
    rw [impl_FindPath.ix_hit id l0 0 kk hlt (fun j hj => HA.out j hj (by omega)) hq, Int.zero_add]
    rfl
   | false =>
    rw [hq] at hcl
    have HCL := Aside0.mk hcl
    have HQ := Aside0.mk hq
    clear hcl hq
    go_wp2_with (go_at_call 143; refine (HCL.out _ HB.out).mono ?_; rintro e w1 ⟨rfl, hb1⟩)
    go_roundg (l0.length - (kk + 1))
    case measure => have := hg.out; omega
    case rel =>
     refine ⟨kk + 1, by go_num, ⟨by omega⟩, ⟨by omega⟩, ⟨below_step HB.out hb1⟩, ⟨fun j hj hl => ?_⟩⟩
     rcases Nat.lt_or_ge j kk with h3 | h3
     ·
      exact HA.out j h3 hl
     ·
      have h4 : j = kk := by omega
      subst h4
      rw [← HE.out]
      exact HQ.out
  ·
   have hge : decide ((kk : Int) < (l0.length : Int)) = false := decide_eq_false (by omega)
   have hgen : decide (kk < l0.length) = false := decide_eq_false hlt
   go_wp2
   go_ret
   refine ⟨?_, HB.out⟩
   rw [impl_FindPath.ix_miss id l0 0 (fun j hj => HA.out j (by omega) hj)]
   rfl

def impl_FindPath.f (l0 : List S89) (a1 : Int) : Option Int := some (impl_FindPath.ix a1 l0 0)
set_option maxHeartbeats 400000 in
set_option maxRecDepth 100000 in
theorem impl_FindPath.calls (A0 : Option Addr) (c0 : Nat) (l0 : List S89) (a1 : Int) (r : Int) (w : World) (hr0 : Kd.C k89 w A0 l0.length l0) (hc0 : l0.length ≤ c0) (h : impl_FindPath.f l0 a1 = some r) :
  Calls Try.prog 119 #[.slice A0 l0.length c0, .int .i64 a1] w fun e w' => e = .returned (.int .i64 r) ∧ Below w.heap.size w w' := by
 obtain rfl := Option.some.inj h
 have HR0 := Aside0.mk hr0
 have HC0 := Aside0.mk hc0
 clear hr0 hc0 h
 go_enter Try.func119, Try.ntmps119
 go_wp2_with (go_at_call 142; refine (impl_FindPath.idx a1 w.heap.size A0 c0 l0 _ ?s1 HC0.out ?s2).mono ?_; (case s1 => exact Kd.C_alloc HR0.out _); (case s2 => simp); rintro e w1 ⟨rfl, hb1⟩)
 go_ret
 exact ⟨rfl, below_step (below_alloc (Below.refl _ _) _) hb1⟩

/-! ### impl_LeastGreen: function 77 -/
def impl_LeastGreen.l0 : Nat → List (S89) → List Int → Int → Int → Option (Int)
 | 0, _, _, _, _ => none
 | k + 1, x0, x8, x9, x10 => if x10 < x9 then (if 0 ≤ x10 then (if x10 < (x8.length : Int) then ((impl_FindPath.f x0 (rd x8 x10)).bind fun t336 => (if t336 ≥ 0 then (if 0 ≤ t336 then (if t336 < (x0.length : Int) then (if ((rd_T89 x0 t336).f1) = 2 then (some 7) else (impl_LeastGreen.l0 k x0 x8 x9 (wrap64 (x10 + 1)))) else (none)) else (none)) else (impl_LeastGreen.l0 k x0 x8 x9 (wrap64 (x10 + 1))))) else (none)) else (none)) else (some 5)
def impl_LeastGreen.f (k : Nat) (l0 : List (S89)) (l1 : List Int) : Option (Int) := impl_LeastGreen.l0 k l0 l1 (l1.length : Int) 0
theorem impl_LeastGreen.mono_l : ∀ k, (∀ y0 y1 y2 y3, LeO (impl_LeastGreen.l0 k y0 y1 y2 y3) (impl_LeastGreen.l0 (k + 1) y0 y1 y2 y3))
 | 0 => fun _ _ _ _ r h => by simp [impl_LeastGreen.l0] at h
 | k + 1 => by
  have ih0 := impl_LeastGreen.mono_l k
  ·
   intro y0 y1 y2 y3
   unfold impl_LeastGreen.l0
   exact mz1 ih0
theorem impl_LeastGreen.mono : ∀ a0 a1 k, LeO (impl_LeastGreen.f k a0 a1) (impl_LeastGreen.f (k + 1) a0 a1) := by
 intro a0 a1 k
 have ih0 := impl_LeastGreen.mono_l k
 unfold impl_LeastGreen.f
 exact mz1 ih0
set_option maxHeartbeats 8000000 in
set_option maxRecDepth 100000 in
theorem impl_LeastGreen.calls (k : Nat) (A0 : Option Addr) (c0 : Nat) (l0 : List (S89)) (A1 : Option Addr) (c1 : Nat) (l1 : List Int) (r : Int) (w : World) (hr0 : Kd.C k89 w A0 l0.length l0) (hc0 : l0.length ≤ c0) (hr1 : Kd.C (Kd.int .i64) w A1 l1.length l1) (hc1 : l1.length ≤ c1) (h : impl_LeastGreen.f k l0 l1 = some r) :
  Calls Try.prog 77 #[.slice A0 l0.length c0, .slice A1 l1.length c1] w fun e w' => e = .returned (.int .i64 r) ∧ Below w.heap.size w w' := by
 have HR0 := Aside0.mk hr0
 have HC0 := Aside0.mk hc0
 clear hr0 hc0
 have HR1 := Aside0.mk hr1
 have HC1 := Aside0.mk hc1
 clear hr1 hc1
 have HB := Aside0.mk (Below.refl w.heap.size w)
 have H : (impl_LeastGreen.l0 k l0 l1 (l1.length : Int) 0) = some r := h
 clear h
 have H' := Aside0.mk H
 clear H
 go_enter Try.func77, Try.ntmps77
 go_wp2
 go_loopg [10] k (fun kq v10 w' => ∃ (x10_1 : Int), v10 = .int .i64 x10_1 ∧ Aside0 (impl_LeastGreen.l0 kq l0 l1 (l1.length : Int) x10_1 = some r) ∧ Aside0 (kq ≤ k) ∧ Aside0 (Below w.heap.size w w'))
 case atStart => exact ⟨(0), rS, H', ⟨Nat.le_refl _⟩, ⟨bA⟩⟩
 case round =>
  clear H'
  obtain ⟨x10_1, rfl, HA, HK1, HB⟩ := hrel
  cases gk with
  | zero => exact absurd HA.out (by simp [impl_LeastGreen.l0])
  | succ k1 =>
   have H := HA.out
   clear HA
   simp only [impl_LeastGreen.l0] at H
   by_cases c3 : x10_1 < (l1.length : Int)
   ·
    rw [if_pos c3] at H
    have c3b0 := decide_eq_true c3
    clear c3
    have c4 : 0 ≤ x10_1 := ifN H
    replace H := ifT H
    have c4b0 := decide_eq_true c4
    clear c4
    have c5 : x10_1 < (l1.length : Int) := ifN H
    replace H := ifT H
    have c5b0 := decide_eq_true c5
    clear c5
    obtain ⟨t336, A6, H⟩ := bindE H
    try dsimp only at H
    by_cases c7 : t336 ≥ 0
    ·
     rw [if_pos c7] at H
     have c7b0 := decide_eq_true c7
     clear c7
     have c8 : 0 ≤ t336 := ifN H
     replace H := ifT H
     have c8b0 := decide_eq_true c8
     clear c8
     have c9 : t336 < (l0.length : Int) := ifN H
     replace H := ifT H
     have c9b0 := decide_eq_true c9
     clear c9
     by_cases c10 : ((rd_T89 l0 t336).f1) = 2
     ·
      rw [if_pos c10] at H
      have c10b0 : (((rd_T89 l0 t336).f1) == 2) = true := beq_iff_eq.mpr c10
      have c10b1 : (((rd_T89 l0 t336).f1) != 2) = false := bne_eq_false_iff_eq.mpr c10
      clear c10
      obtain rfl := Option.some.inj H
      obtain ⟨p335, q335⟩ : 0 ≤ (x10_1 : Int) ∧ x10_1 < (l1.length : Int) := ⟨dA, dA⟩
      obtain ⟨ad335, e335, hx335_0⟩ := Kd.at_int (Kd.C_below HR1.out HB.out) x10_1 p335 q335
      cases e335
      obtain ⟨p335, q335⟩ := eT p335 q335
      go_wp2_with (first | ((with_reducible refine gate_callee (f := 119) rfl ?_); refine gL (some 16) Try.func119 #[.slice A0 l0.length c0, .int .i64 (rd l1 x10_1)] ?_; (with_reducible refine (impl_FindPath.calls _ _ l0 (rd l1 x10_1) t336 _ ?_ ?_ A6.out).mono ?_); exact cB HR0; exact HC0.out; rintro e w11 ⟨rfl, hb⟩; refine ⟨_, rfl, ?_⟩; replace HB := bs HB hb; (try clear hb); have p337 : 0 ≤ (t336 : Int) := dA; have q337 : t336 < (l0.length : Int) := dA; obtain ⟨ad337, e337, hx337_0, hx337_1, hx337_2, hx337_3⟩ := at_T89 HR0.out t336 p337 q337; cases e337; replace hx337_0 := hC HB hx337_0; replace hx337_1 := hC HB hx337_1; replace hx337_2 := hC HB hx337_2; replace hx337_3 := hC HB hx337_3; replace p337 := eq_true p337; replace q337 := eq_true q337))
      go_ret
      exact ⟨rA, bA⟩
     rw [if_neg c10] at H
     have c10b0 : (((rd_T89 l0 t336).f1) == 2) = false := beq_eq_false_iff_ne.mpr c10
     have c10b1 : (((rd_T89 l0 t336).f1) != 2) = true := bne_iff_ne.mpr c10
     have H' := Aside0.mk H
     clear H
     obtain ⟨p335, q335⟩ : 0 ≤ (x10_1 : Int) ∧ x10_1 < (l1.length : Int) := ⟨dA, dA⟩
     obtain ⟨ad335, e335, hx335_0⟩ := Kd.at_int (Kd.C_below HR1.out HB.out) x10_1 p335 q335
     cases e335
     obtain ⟨p335, q335⟩ := eT p335 q335
     go_wp2_with (first | ((with_reducible refine gate_callee (f := 119) rfl ?_); refine gL (some 16) Try.func119 #[.slice A0 l0.length c0, .int .i64 (rd l1 x10_1)] ?_; (with_reducible refine (impl_FindPath.calls _ _ l0 (rd l1 x10_1) t336 _ ?_ ?_ A6.out).mono ?_); exact cB HR0; exact HC0.out; rintro e w12 ⟨rfl, hb⟩; refine ⟨_, rfl, ?_⟩; replace HB := bs HB hb; (try clear hb); have p337 : 0 ≤ (t336 : Int) := dA; have q337 : t336 < (l0.length : Int) := dA; obtain ⟨ad337, e337, hx337_0, hx337_1, hx337_2, hx337_3⟩ := at_T89 HR0.out t336 p337 q337; cases e337; replace hx337_0 := hC HB hx337_0; replace hx337_1 := hC HB hx337_1; replace hx337_2 := hC HB hx337_2; replace hx337_3 := hC HB hx337_3; replace p337 := eq_true p337; replace q337 := eq_true q337))
     go_roundg k1
     case measure => have := HK1.out; omega
     case rel => exact ⟨(wrap64 (x10_1 + 1)), rS, H', ⟨by have := HK1.out; omega⟩, ⟨bA⟩⟩
    rw [if_neg c7] at H
    have c7b0 := decide_eq_false c7
    clear c7
    have H' := Aside0.mk H
    clear H
    obtain ⟨p335, q335⟩ : 0 ≤ (x10_1 : Int) ∧ x10_1 < (l1.length : Int) := ⟨dA, dA⟩
    obtain ⟨ad335, e335, hx335_0⟩ := Kd.at_int (Kd.C_below HR1.out HB.out) x10_1 p335 q335
    cases e335
    obtain ⟨p335, q335⟩ := eT p335 q335
    go_wp2_with (first | ((with_reducible refine gate_callee (f := 119) rfl ?_); refine gL (some 16) Try.func119 #[.slice A0 l0.length c0, .int .i64 (rd l1 x10_1)] ?_; (with_reducible refine (impl_FindPath.calls _ _ l0 (rd l1 x10_1) t336 _ ?_ ?_ A6.out).mono ?_); exact cB HR0; exact HC0.out; rintro e w13 ⟨rfl, hb⟩; refine ⟨_, rfl, ?_⟩; replace HB := bs HB hb; (try clear hb)))
    go_roundg k1
    case measure => have := HK1.out; omega
    case rel => exact ⟨(wrap64 (x10_1 + 1)), rS, H', ⟨by have := HK1.out; omega⟩, ⟨bA⟩⟩
   rw [if_neg c3] at H
   have c3b0 := decide_eq_false c3
   clear c3
   obtain rfl := Option.some.inj H
   go_wp2
   go_ret
   exact ⟨rA, bA⟩

/-! ### slices_Clone_int_int: function 90 -/
def slices_Clone_int_int.f (l0 : List Int) : Option (List Int) := if l0.length < 17592186044416 then some l0 else none
theorem slices_Clone_int_int.eq0 {P : Program} (w : World) (d : Nat) (t e : TypeId) (a : Option Addr) (n c n' c' : Nat) (h : P.underlying t = some (.slice e)) : (Op.equalIn (d + 1) t (.slice a n c) (.slice none n' c')).run P w = .ok a.isNone w := by
 cases a <;> simp [Op.equalIn, run_underlying h]
theorem slices_Clone_int_int.eq1 {P : Program} (w : World) (t e : TypeId) (a : Option Addr) (n c n' c' : Nat) (h : P.underlying t = some (.slice e)) : (binOp .eql t (.slice a n c) (.slice none n' c')).run P w = .ok (.bool a.isNone) w := by
 simp only [binOp]
 simp [Op.equal, Op.maxDepth, slices_Clone_int_int.eq0 w 9999 t e a n c n' c' h]
set_option maxHeartbeats 4000000 in
set_option maxRecDepth 100000 in
theorem slices_Clone_int_int.calls (A0 : Option Addr) (c0 : Nat) (l0 : List Int) (r : List Int) (w : World) (hr0 : Kd.C (Kd.int .i64) w A0 l0.length l0) (hc0 : l0.length ≤ c0) (h : slices_Clone_int_int.f l0 = some r) :
  Calls Try.prog 90 #[.slice A0 l0.length c0] w fun e w' => ∃ v0_ : Value, e = .returned (v0_) ∧ Kd.R (Kd.int .i64) 3 w' w.heap.size (fun _ => True) v0_ r ∧ Below w.heap.size w w' := by
 unfold slices_Clone_int_int.f at h
 have hlim := ifN h
 replace h := ifT h
 obtain rfl := Option.some.inj h
 have HL := Aside0.mk hlim
 have HR0 := Aside0.mk hr0
 have HC0 := Aside0.mk hc0
 clear hr0 hc0 h hlim
 have q_ : ∀ (w : World) (a : Option Addr) (n c n' c' : Nat), (binOp .eql 41 (.slice a n c) (.slice none n' c')).run Try.prog w = .ok (.bool a.isNone) w := fun w a n c n' c' => slices_Clone_int_int.eq1 w _ _ a n c n' c' Try.underlying41
 cases A0 with
 | none =>
  have hl0 : l0 = [] := by
   rcases Nat.eq_zero_or_pos l0.length with h0 | h0
   ·
    exact List.eq_nil_of_length_eq_zero h0
   ·
    obtain ⟨ad, ha, _⟩ := HR0.out.2.2 h0
    cases ha
  subst hl0
  go_enter Try.func90, Try.ntmps90
  go_wp2
  go_ret
  exact ⟨_, rfl, Kd.R_nil _ _ _ _ _, Below.refl _ _⟩
 | some ad =>
  go_enter Try.func90, Try.ntmps90
  go_wp2_with (first
   | ((with_reducible refine gate_dst (N := 5) rfl ?_); refine Kd.R_lit (Kd.int .i64) _ 3 ?hg (N := 5) ?hd (xs := ([] : List Int)) (inner := []) (ok := fun _ => True) (okp := fun _ => True) ?hr ?hp (fun _ hk => hk) trivial (Below.refl w.heap.size w) (Nat.le_refl _) (by simp) ?_; (case hd => rfl); (case hg => rfl); (case hr => first | (go_simp; done) | (go_simp; rfl)); (case hp => exact (Reps.none _ _)); intro v304 w3 ho4 hb hg_ hnew_; have HO := Aside0.mk ho4; have HB := Aside0.mk hb; clear ho4 hb hg_ hnew_)
   | ((with_reducible refine gate_builtin (b := .append) (xs := #[.tmp 5, .tmp 6]) rfl ?_); at_builtin; refine Kd.R_append_rows (Kd.int .i64) (w0 := w) w.heap.size rfl (.tmp 5) (.tmp 6) 41 3 (.int .i64 0) 8 rfl Try.underlying41 info3 rfl (by decide) (by omega) v304 ([] : List Int) l0 _ _ _ (fun _ => True) (fun _ => False) rfl rfl ?aO ?aR (fun _ _ h => h) (fun _ h => h.elim) ?aF ?aB ?aS ?aL ?_; (case aR => exact Kd.C_below HR0.out HB.out); (case aB => exact HB.out); (case aF => exact (fun _ _ => trivial)); (case aO => exact HO.out); (case aS => exact HB.out.size); (case aL => have := HL.out; simp; omega); intro v1 w9 ho hb hg hat; rw [List.nil_append] at ho; have HO1 := Aside0.mk ho; have HB1 := Aside0.mk hb; clear ho hb hg hat))
  go_ret
  exact ⟨_, rfl, HO1.out, HB1.out⟩

/-! ### impl_clonePlan: function 111 -/
def impl_clonePlan.l0 : Nat → List (S92) → List (S92) → Int → Int → Option ((List (S92)))
 | 0, _, _, _, _ => none
 | k + 1, x3, x7, x8, x9 => if x9 < x8 then (if 0 ≤ x9 then (if x9 < (x7.length : Int) then ((slices_Clone_int_int.f ((rd_T92 x7 x9).f0)).bind fun t343 => (if x3.length < 4398046511104 then (impl_clonePlan.l0 k (x3 ++ [(⟨t343, (rd_T92 x7 x9).f1⟩ : S92)]) x7 x8 (wrap64 (x9 + 1))) else (none))) else (none)) else (none)) else (some x3)
def impl_clonePlan.f (k : Nat) (l0 : List (S92)) : Option ((List (S92))) := impl_clonePlan.l0 k (([] : List (S92))) l0 (l0.length : Int) 0
theorem impl_clonePlan.mono_l : ∀ k, (∀ y0 y1 y2 y3, LeO (impl_clonePlan.l0 k y0 y1 y2 y3) (impl_clonePlan.l0 (k + 1) y0 y1 y2 y3))
 | 0 => fun _ _ _ _ r h => by simp [impl_clonePlan.l0] at h
 | k + 1 => by
  have ih0 := impl_clonePlan.mono_l k
  ·
   intro y0 y1 y2 y3
   unfold impl_clonePlan.l0
   exact mz1 ih0
theorem impl_clonePlan.mono : ∀ a0 k, LeO (impl_clonePlan.f k a0) (impl_clonePlan.f (k + 1) a0) := by
 intro a0 k
 have ih0 := impl_clonePlan.mono_l k
 unfold impl_clonePlan.f
 exact mz1 ih0
def impl_clonePlan.T5 : Bool × List (List Nat × List Nat) := (true, [([], []), ([], []), ([1], [1]), ([2], [2]), ([], []), ([4], [4]), ([3, 5], [3, 5]), ([6], [6]), ([0, 7, 3], [0, 7]), ([8, 8, 0, 1, 2, 3, 4, 5, 6, 7, 8], [0, 8])])
def impl_clonePlan.B5 : List Nat := [0, 0, 2, 6, 0, 16, 62, 126, 255, 511]
theorem impl_clonePlan.tab5 : rtab .any (opsOf Try.f111 5) = impl_clonePlan.T5 := by kernel_rfl
theorem impl_clonePlan.bits5 : waitsOk impl_clonePlan.T5.2 impl_clonePlan.B5 = true := by kernel_rfl
set_option maxHeartbeats 8000000 in
set_option maxRecDepth 100000 in
theorem impl_clonePlan.calls (k : Nat) (A0 : Option Addr) (c0 : Nat) (l0 : List (S92)) (r : List (S92)) (w : World) (hr0 : Kd.C k92 w A0 l0.length l0) (hc0 : l0.length ≤ c0) (h : impl_clonePlan.f k l0 = some r) :
  Calls Try.prog 111 #[.slice A0 l0.length c0] w fun e w' => ∃ v0_ : Value, e = .returned (v0_) ∧ Kd.S k92 92 w' w.heap.size (fun _ => True) v0_ r ∧ Below w.heap.size w w' := by
 have hu92 := Try.underlying92
 have HR0 := Aside0.mk hr0
 have HC0 := Aside0.mk hc0
 clear hr0 hc0
 have HB := Aside0.mk (Below.refl w.heap.size w)
 have H : (impl_clonePlan.l0 k (([] : List (S92))) l0 (l0.length : Int) 0) = some r := h
 clear h
 obtain ⟨y338, hy338⟩ : ∃ y_ : List (S92), y_ = (([] : List (S92))) := ⟨_, rfl⟩
 replace H : (impl_clonePlan.l0 k y338 l0 (l0.length : Int) 0) = some r := rH H hy338
 have Ny338 := Aside0.mk hy338
 clear hy338
 have H' := Aside0.mk H
 clear H
 go_enter Try.func111, Try.ntmps111
 go_wp2_with (first | ((with_reducible refine gate_dst (N := 6) rfl ?_); refine Kd.S_lit k92 _ 92 ?hg (N := 6) ?hd (xs := ([] : List (S92))) (inner := []) (ok := fun _ => True) (okp := fun _ => True) ?hr ?hp (fun _ hk => hk) trivial (Below.refl _ _) (Nat.le_refl _) (by simp) ?_; (case hd => rfl); (case hg => rfl); (case hr => first | (go_simp; done) | (go_simp; rfl)); (case hp => exact (Reps.none _ _)); intro v339 w2 ho3 hb hg_ hnew_; clear hg_ hnew_; (first | rw [← Ny338.out] at ho3 | (simp only [Int.reduceToNat] at ho3; rw [← Ny338.out] at ho3)); have HO340 := sl w ho3; replace HB := bs HB hb; clear hb ho3))
 go_loopg [3, 9] k (fun kq v3 v9 w' => ∃ (x3_1 : List (S92)) (x9_1 : Int), v9 = .int .i64 x9_1 ∧ Aside0 (impl_clonePlan.l0 kq x3_1 l0 (l0.length : Int) x9_1 = some r) ∧ Aside0 (kq ≤ k) ∧ Aside0 (Kd.S k92 92 w' w.heap.size (fun _ => True) v3 x3_1) ∧ Aside0 (Below w.heap.size w w'))
 case atStart => exact ⟨(y338), (0), rS, H', ⟨Nat.le_refl _⟩, ⟨sK HO340⟩, ⟨bA⟩⟩
 case round =>
  clear H'
  obtain ⟨x3_1, x9_1, rfl, HA, HK1, HO_3, HB⟩ := hrel
  cases gk with
  | zero => exact absurd HA.out (by simp [impl_clonePlan.l0])
  | succ k1 =>
   have H := HA.out
   clear HA
   simp only [impl_clonePlan.l0] at H
   by_cases c4 : x9_1 < (l0.length : Int)
   ·
    rw [if_pos c4] at H
    have c4b0 := decide_eq_true c4
    clear c4
    have c5 : 0 ≤ x9_1 := ifN H
    replace H := ifT H
    have c5b0 := decide_eq_true c5
    clear c5
    have c6 : x9_1 < (l0.length : Int) := ifN H
    replace H := ifT H
    have c6b0 := decide_eq_true c6
    clear c6
    obtain ⟨t343, A7, H⟩ := bindE H
    try dsimp only at H
    have c8 : x3_1.length < 4398046511104 := ifN H
    replace H := ifT H
    have LMc8 := Aside0.mk c8
    clear c8
    obtain ⟨y346, hy346⟩ : ∃ y_ : List (S92), y_ = (x3_1 ++ [(⟨t343, (rd_T92 l0 x9_1).f1⟩ : S92)]) := ⟨_, rfl⟩
    replace H : (impl_clonePlan.l0 k1 y346 l0 (l0.length : Int) (wrap64 (x9_1 + 1))) = some r := rH H hy346
    have Ny346 := Aside0.mk hy346
    clear hy346
    have H' := Aside0.mk H
    clear H
    obtain ⟨p341, q341⟩ : 0 ≤ (x9_1 : Int) ∧ x9_1 < (l0.length : Int) := ⟨dA, dA⟩
    obtain ⟨ad341, A341_0, c341_0, e341, hx341_0, hx341_1, hl341_0, hi341_0⟩ := at_T92 HR0.out x9_1 p341 q341
    cases e341
    replace hx341_0 := hC HB hx341_0
    replace hx341_1 := hC HB hx341_1
    have HR341_0 := Aside0.mk hi341_0
    have HC341_0 := Aside0.mk hl341_0
    clear hi341_0 hl341_0
    obtain ⟨p341, q341⟩ := eT p341 q341
    try go_wp2_with (first | ((with_reducible refine gate_dst (N := 5) rfl ?_); refine bE (N := 5) (cs := #[.slice none 0 0, .int .i64 0]) (t := 92) ?_; intro gb342 hg w9 hbox hb; replace HO_3 := Aside0.mk (Kd.S_below (Kd.S_elderB (sK HO_3) gb342 (Nat.le_of_eq hg.symm)) hb); have BK342 := Aside0.mk (hbox); have GW342 := gw w hg; have GE342 := gw w hg; replace HB := bs HB hb; clear hb hbox hg; obtain ⟨_, _, _, _⟩ := blkc2 BK342))
    have n0_ : Aside0 (Kd.S k92 92 ((w9.setCell ⟨gb342, 0, none⟩ (.slice A341_0 ((rd_T92 l0 x9_1).f0).length c341_0)).setCell ⟨gb342, 1, none⟩ (.int .i64 ((rd_T92 l0 x9_1).f1))) w.heap.size (fun k_ => k_ ≠ gb342) u3 x3_1) := ⟨by (with_reducible repeat (first | apply Kd.S_alloc | apply Kd.S_drewN | apply Kd.S_drew)); exact Kd.S_mono (Kd.S_far (p := ⟨gb342, 1, none⟩) (Kd.S_far (p := ⟨gb342, 0, none⟩) (Kd.S_mono HO_3.out (fun k_ hk => (⟨hk, hk.2⟩ : _ ∧ k_ ≠ gb342))) (fun _ hk => hk.2) (.slice A341_0 ((rd_T92 l0 x9_1).f0).length c341_0)) (fun _ hk => hk.2) (.int .i64 ((rd_T92 l0 x9_1).f1))) (fun _ hk => hk.1.2)⟩
    have n1_ : Aside0 (((w9.setCell ⟨gb342, 0, none⟩ (.slice A341_0 ((rd_T92 l0 x9_1).f0).length c341_0)).setCell ⟨gb342, 1, none⟩ (.int .i64 ((rd_T92 l0 x9_1).f1))).heap[gb342]? = some (.cells #[.slice A341_0 ((rd_T92 l0 x9_1).f0).length c341_0, .int .i64 ((rd_T92 l0 x9_1).f1)] 92 (0, 0))) := ⟨kp BK342⟩
    have n2_ : Aside0 (Below w.heap.size w ((w9.setCell ⟨gb342, 0, none⟩ (.slice A341_0 ((rd_T92 l0 x9_1).f0).length c341_0)).setCell ⟨gb342, 1, none⟩ (.int .i64 ((rd_T92 l0 x9_1).f1)))) := ⟨bG⟩
    (try clear HO_3)
    (try clear BK342)
    (try clear HB)
    generalize ((w9.setCell ⟨gb342, 0, none⟩ (.slice A341_0 ((rd_T92 l0 x9_1).f0).length c341_0)).setCell ⟨gb342, 1, none⟩ (.int .i64 ((rd_T92 l0 x9_1).f1))) = w11 at n0_ n1_ n2_ ⊢
    have HO_3 := n0_
    have BK342 := n1_
    have HB := n2_
    clear n0_ n1_ n2_
    replace HO_3 := ds HO_3
    replace BK342 := dk BK342
    have HBo := HB
    replace HB := db HB
    refine sw (ds := []) 10 (mb 10 0) impl_clonePlan.tab5 impl_clonePlan.bits5 (h2 BK342) (fun hHeld HT_ HW_ => ?_)
    generalize w11.drew = w12 at HO_3 BK342 HB hHeld ⊢
    refine pa 0 13 (mb 10 1) HT_ ?_
    refine pa 1 14 (mb 10 3) HT_ ?_
    refine pa 4 17 (mb 10 19) HT_ ?_
    refine ta2 2 15 (mb 10 23) HT_ HW_ hHeld ?_
    refine ta2 5 18 (mb 10 55) HT_ HW_ hHeld ?_
    refine oa 3 16 (mb 10 63) HT_ (fun K hK => ?_)
    refine gA Try.func90 #[.slice A341_0 ((rd_T92 l0 x9_1).f0).length c341_0] ?_
    with_reducible refine (slices_Clone_int_int.calls _ _ ((rd_T92 l0 x9_1).f0) t343 _ ?side1 ?side2 A7.out).mono ?_
    (case side1 => exact cB HR341_0)
    (case side2 => exact HC341_0.out)
    rintro e w13 ⟨v344, rfl, ho0, hb⟩
    refine ⟨_, rfl, ?_⟩
    replace HO_3 := se HO_3 ho0 hb
    have HO345 := rl w ho0
    replace BK342 := kb BK342 hb
    replace HB := bs HB hb
    (try clear hb)
    (try clear hb2)
    (try clear hk)
    (try clear hi)
    (try clear ho0)
    obtain ⟨Ao14, co14, eo14⟩ := Kd.R_slice HO345.out
    (first | subst eo14 | (injection eo14 with f1_ f2_ f3_; have f4_ := f1_.symm; have f5_ := f3_.symm; clear f1_ f2_ f3_; subst f4_; subst f5_))
    refine hK.out _ _ (cn2 BK342) (fun hHeld => ?_)
    clear hK K
    refine nB ?_
    refine pa 6 19 (mb 10 127) HT_ ?_
    refine oa 7 20 (mb 10 255) HT_ (fun K hK => ?_)
    refine value_ (w1 := ?_) (v := ?_) (by rfl) rfl ?_ ?_
    rotate_left 2
    ·
     go_simp
     constructor
     ·
      rfl
     ·
      rfl
    refine hK.out _ _ ⟨(blk_cell (blk_alloc BK342.out _) 0).trans rfl, (blk_cell (blk_alloc BK342.out _) 1).trans rfl⟩ (fun hHeld => ?_)
    clear hK K
    refine nB ?_
    refine oa 8 21 (mb 10 511) HT_ (fun K hK => ?_)
    refine Kd.S_append_step k92 (w0 := w) w.heap.size (by rfl) (.tmp 13) (.tmp 20) 30 92 (.agg #[(.slice none 0 0), (.int .i64 0)]) 32 rfl Try.underlying30 info92 rfl (by decide) (by omega) u3 x3_1 (⟨t343, (rd_T92 l0 x9_1).f1⟩ : S92) [.slice Ao14 t343.length co14, .int .i64 ((rd_T92 l0 x9_1).f1)] (fun k_ => k_ ≠ gb342) (fun k_ => some k_ = (.slice Ao14 t343.length co14 : Value).ownBlock) rfl rfl ?aP (fun k_ hk_ => ((Kd.R_mono (ok' := fun k_ => ((fun k_ => k_ ≠ gb342)) k_ ∧ some k_ ≠ (u3 : Value).ownBlock) (Kd.R_types (Kd.R_apart' (HO345.out) (Kd.S_typed HO_3.out) (by decide)) BK342.out (by decide)) (fun k_ hk => ⟨hk.2, hk.1.2⟩))).1 k_ hk_.symm) ?aF ?aO ?aB ?aS ?aL ?_
    (case aP => exact k92_mkM _ _ _ (⟨t343, (rd_T92 l0 x9_1).f1⟩ : S92) (Kd.R_mono (Kd.R_tight rfl (Kd.R_mono (ok' := fun k_ => ((fun k_ => k_ ≠ gb342)) k_ ∧ some k_ ≠ (u3 : Value).ownBlock) (Kd.R_types (Kd.R_apart' (HO345.out) (Kd.S_typed HO_3.out) (by decide)) BK342.out (by decide)) (fun k_ hk => ⟨hk.2, hk.1.2⟩))) (fun _ h_ => h_)))
    (case aB => exact bG)
    (case aF => exact (fun k_ hk => Kd.freshB (g := gb342) (o := .cells #[.slice A341_0 ((rd_T92 l0 x9_1).f0).length c341_0, .int .i64 ((rd_T92 l0 x9_1).f1)] 92 (0, 0)) (bK BK342) k_ hk))
    (case aO => exact (sm HO_3 (fun k_ hk => ⟨hk.1, fun e_ => hk.2 e_⟩)))
    (case aS => exact (below_size bG))
    (case aL => have := LMc8.out; omega)
    intro v347 w15 ho hb hg hat
    rw [← Ny346.out] at ho
    have n0_ := Aside0.mk (blk_grown (g := gb342) (o := .cells #[.slice A341_0 ((rd_T92 l0 x9_1).f0).length c341_0, .int .i64 ((rd_T92 l0 x9_1).f1)] 92 (0, 0)) (bK BK342) hg (Kd.S_away HO_3.out (fun _ hk => hk.1)))
    have n1_ := Aside0.mk (hb)
    have n2_ := Aside0.mk (ho)
    clear BK342
    clear HB
    clear HO_3
    clear HO345
    have BK342 := n0_
    have HB := n1_
    have HO348 := n2_
    clear n0_ n1_ n2_
    clear ho hb hg hat
    refine hK.out _ _ (cn2 BK342) (fun hHeld => ?_)
    clear hK K
    refine nB ?_
    refine pa 9 3 (mb 10 1023) HT_ ?_
    refine eA HT_ ?_
    try go_wp2
    go_roundg k1
    case measure => have := HK1.out; omega
    case rel => exact ⟨(y346), (wrap64 (x9_1 + 1)), rS, H', ⟨by have := HK1.out; omega⟩, ⟨sm HO348 (fun _ hk => trivial)⟩, ⟨bG⟩⟩
   rw [if_neg c4] at H
   have c4b0 := decide_eq_false c4
   clear c4
   obtain rfl := Option.some.inj H
   go_wp2
   go_ret
   exact ⟨_, rA, sK HO_3, bA⟩

/-! ### impl_InRange: function 66 -/
def impl_InRange.f (a0 : Int) (a1 : Int) (a2 : Int) : Option (Bool) := if a1 ≤ a0 then (some (decide (a0 ≤ a2))) else (some false)
set_option maxHeartbeats 8000000 in
set_option maxRecDepth 100000 in
theorem impl_InRange.calls (a0 : Int) (a1 : Int) (a2 : Int) (r : Bool) (w : World) (h : impl_InRange.f a0 a1 a2 = some r) :
  Calls Try.prog 66 #[.int .i64 a0, .int .i64 a1, .int .i64 a2] w fun e w' => e = .returned (.bool r) ∧ Drawn0 w w' := by
 have H : (if a1 ≤ a0 then (some (decide (a0 ≤ a2))) else (some false)) = some r := h
 clear h
 by_cases c4 : a1 ≤ a0
 ·
  rw [if_pos c4] at H
  have c4b0 := decide_eq_true c4
  clear c4
  obtain rfl := Option.some.inj H
  go_enter Try.func66, Try.ntmps66
  go_wp2
  go_ret
  exact ⟨rS, dD⟩
 rw [if_neg c4] at H
 have c4b0 := decide_eq_false c4
 clear c4
 obtain rfl := Option.some.inj H
 go_enter Try.func66, Try.ntmps66
 go_wp2
 go_ret
 exact ⟨rS, dD⟩

/-! ### impl_IsPath: function 146 -/
def impl_IsPath.f (a0_0 : Int) (a0_1 : Int) (a0_2 : Int) (a0_3 : Int) : Option (Bool) := (impl_InRange.f a0_0 1 20).bind fun t350 => (if t350 = true then ((impl_InRange.f a0_1 1 3).bind fun t351 => (if t351 = true then ((impl_InRange.f a0_2 0 3).bind fun t352 => (if t352 = true then ((impl_InRange.f a0_3 0 3).bind fun t353 => (if t353 = true then (some ((a0_2 == a0_3) == (a0_1 == 2))) else (some false))) else (some false))) else (some false))) else (some false))
set_option maxHeartbeats 8000000 in
set_option maxRecDepth 100000 in
theorem impl_IsPath.calls (a0_0 : Int) (a0_1 : Int) (a0_2 : Int) (a0_3 : Int) (r : Bool) (w : World) (h : impl_IsPath.f a0_0 a0_1 a0_2 a0_3 = some r) :
  Calls Try.prog 146 #[.agg #[.int .i64 a0_0, .int .i64 a0_1, .int .i64 a0_2, .int .i64 a0_3]] w fun e w' => e = .returned (.bool r) ∧ Below w.heap.size w w' := by
 have hu89 := Try.underlying89
 have HB := Aside0.mk (Below.refl w.heap.size w)
 have H : ((impl_InRange.f a0_0 1 20).bind fun t350 => (if t350 = true then ((impl_InRange.f a0_1 1 3).bind fun t351 => (if t351 = true then ((impl_InRange.f a0_2 0 3).bind fun t352 => (if t352 = true then ((impl_InRange.f a0_3 0 3).bind fun t353 => (if t353 = true then (some ((a0_2 == a0_3) == (a0_1 == 2))) else (some false))) else (some false))) else (some false))) else (some false))) = some r := h
 clear h
 obtain ⟨t350, A2, H⟩ := bindE H
 try dsimp only at H
 by_cases c3 : t350 = true
 ·
  subst c3
  have H1 : ((impl_InRange.f a0_1 1 3).bind fun t351 => (if t351 = true then ((impl_InRange.f a0_2 0 3).bind fun t352 => (if t352 = true then ((impl_InRange.f a0_3 0 3).bind fun t353 => (if t353 = true then (some ((a0_2 == a0_3) == (a0_1 == 2))) else (some false))) else (some false))) else (some false))) = some r := by rw [if_pos rfl] at H; exact H
  clear H
  have H := H1
  clear H1
  obtain ⟨t351, A4, H⟩ := bindE H
  try dsimp only at H
  by_cases c5 : t351 = true
  ·
   subst c5
   have H1 : ((impl_InRange.f a0_2 0 3).bind fun t352 => (if t352 = true then ((impl_InRange.f a0_3 0 3).bind fun t353 => (if t353 = true then (some ((a0_2 == a0_3) == (a0_1 == 2))) else (some false))) else (some false))) = some r := by rw [if_pos rfl] at H; exact H
   clear H
   have H := H1
   clear H1
   obtain ⟨t352, A6, H⟩ := bindE H
   try dsimp only at H
   by_cases c7 : t352 = true
   ·
    subst c7
    have H1 : ((impl_InRange.f a0_3 0 3).bind fun t353 => (if t353 = true then (some ((a0_2 == a0_3) == (a0_1 == 2))) else (some false))) = some r := by rw [if_pos rfl] at H; exact H
    clear H
    have H := H1
    clear H1
    obtain ⟨t353, A8, H⟩ := bindE H
    try dsimp only at H
    by_cases c9 : t353 = true
    ·
     subst c9
     have H1 : (some ((a0_2 == a0_3) == (a0_1 == 2))) = some r := by rw [if_pos rfl] at H; exact H
     clear H
     have H := H1
     clear H1
     obtain rfl := Option.some.inj H
     go_enter Try.func146, Try.ntmps146
     go_wp2_with (first | ((with_reducible refine gate_dst (N := 1) rfl ?_); refine bE (N := 1) (cs := #[.int .i64 a0_0, .int .i64 a0_1, .int .i64 a0_2, .int .i64 a0_3]) (t := 89) ?_; intro gb349 hg w10 hbox hb; have BK349 := Aside0.mk (hbox); have GW349 := gw w hg; have GE349 := gw w hg; replace HB := bs HB hb; clear hb hbox hg; obtain ⟨_, _, _, _, _, _, _, _⟩ := blkc4 BK349) | ((with_reducible refine gate_callee (f := 66) rfl ?_); refine gL (some 5) Try.func66 #[.int .i64 a0_0, .int .i64 1, .int .i64 20] ?_; (with_reducible refine (impl_InRange.calls a0_0 1 20 true _ A2.out).mono ?_); rintro e w' ⟨rfl, ⟨nd, rfl⟩⟩; refine ⟨_, rfl, ?_⟩) | (go_at_call 66; (with_reducible refine (impl_InRange.calls a0_1 1 3 true _ A4.out).mono ?_); rintro e w' ⟨rfl, ⟨nd, rfl⟩⟩) | (go_at_call 66; (with_reducible refine (impl_InRange.calls a0_2 0 3 true _ A6.out).mono ?_); rintro e w' ⟨rfl, ⟨nd, rfl⟩⟩) | (go_at_call 66; (with_reducible refine (impl_InRange.calls a0_3 0 3 true _ A8.out).mono ?_); rintro e w' ⟨rfl, ⟨nd, rfl⟩⟩))
     go_ret
     exact ⟨rA, bG⟩
    replace c9 := Bool.eq_false_iff.mpr c9
    subst c9
    have H1 : (some false) = some r := by rw [if_neg (show ¬ (false = true) by decide)] at H; exact H
    clear H
    have H := H1
    clear H1
    obtain rfl := Option.some.inj H
    go_enter Try.func146, Try.ntmps146
    go_wp2_with (first | ((with_reducible refine gate_dst (N := 1) rfl ?_); refine bE (N := 1) (cs := #[.int .i64 a0_0, .int .i64 a0_1, .int .i64 a0_2, .int .i64 a0_3]) (t := 89) ?_; intro gb349 hg w12 hbox hb; have BK349 := Aside0.mk (hbox); have GW349 := gw w hg; have GE349 := gw w hg; replace HB := bs HB hb; clear hb hbox hg; obtain ⟨_, _, _, _, _, _, _, _⟩ := blkc4 BK349) | ((with_reducible refine gate_callee (f := 66) rfl ?_); refine gL (some 5) Try.func66 #[.int .i64 a0_0, .int .i64 1, .int .i64 20] ?_; (with_reducible refine (impl_InRange.calls a0_0 1 20 true _ A2.out).mono ?_); rintro e w' ⟨rfl, ⟨nd, rfl⟩⟩; refine ⟨_, rfl, ?_⟩) | (go_at_call 66; (with_reducible refine (impl_InRange.calls a0_1 1 3 true _ A4.out).mono ?_); rintro e w' ⟨rfl, ⟨nd, rfl⟩⟩) | (go_at_call 66; (with_reducible refine (impl_InRange.calls a0_2 0 3 true _ A6.out).mono ?_); rintro e w' ⟨rfl, ⟨nd, rfl⟩⟩) | (go_at_call 66; (with_reducible refine (impl_InRange.calls a0_3 0 3 false _ A8.out).mono ?_); rintro e w' ⟨rfl, ⟨nd, rfl⟩⟩))
    go_ret
    exact ⟨rA, bG⟩
   replace c7 := Bool.eq_false_iff.mpr c7
   subst c7
   have H1 : (some false) = some r := by rw [if_neg (show ¬ (false = true) by decide)] at H; exact H
   clear H
   have H := H1
   clear H1
   obtain rfl := Option.some.inj H
   go_enter Try.func146, Try.ntmps146
   go_wp2_with (first | ((with_reducible refine gate_dst (N := 1) rfl ?_); refine bE (N := 1) (cs := #[.int .i64 a0_0, .int .i64 a0_1, .int .i64 a0_2, .int .i64 a0_3]) (t := 89) ?_; intro gb349 hg w14 hbox hb; have BK349 := Aside0.mk (hbox); have GW349 := gw w hg; have GE349 := gw w hg; replace HB := bs HB hb; clear hb hbox hg; obtain ⟨_, _, _, _, _, _, _, _⟩ := blkc4 BK349) | ((with_reducible refine gate_callee (f := 66) rfl ?_); refine gL (some 5) Try.func66 #[.int .i64 a0_0, .int .i64 1, .int .i64 20] ?_; (with_reducible refine (impl_InRange.calls a0_0 1 20 true _ A2.out).mono ?_); rintro e w' ⟨rfl, ⟨nd, rfl⟩⟩; refine ⟨_, rfl, ?_⟩) | (go_at_call 66; (with_reducible refine (impl_InRange.calls a0_1 1 3 true _ A4.out).mono ?_); rintro e w' ⟨rfl, ⟨nd, rfl⟩⟩) | (go_at_call 66; (with_reducible refine (impl_InRange.calls a0_2 0 3 false _ A6.out).mono ?_); rintro e w' ⟨rfl, ⟨nd, rfl⟩⟩))
   go_ret
   exact ⟨rA, bG⟩
  replace c5 := Bool.eq_false_iff.mpr c5
  subst c5
  have H1 : (some false) = some r := by rw [if_neg (show ¬ (false = true) by decide)] at H; exact H
  clear H
  have H := H1
  clear H1
  obtain rfl := Option.some.inj H
  go_enter Try.func146, Try.ntmps146
  go_wp2_with (first | ((with_reducible refine gate_dst (N := 1) rfl ?_); refine bE (N := 1) (cs := #[.int .i64 a0_0, .int .i64 a0_1, .int .i64 a0_2, .int .i64 a0_3]) (t := 89) ?_; intro gb349 hg w16 hbox hb; have BK349 := Aside0.mk (hbox); have GW349 := gw w hg; have GE349 := gw w hg; replace HB := bs HB hb; clear hb hbox hg; obtain ⟨_, _, _, _, _, _, _, _⟩ := blkc4 BK349) | ((with_reducible refine gate_callee (f := 66) rfl ?_); refine gL (some 5) Try.func66 #[.int .i64 a0_0, .int .i64 1, .int .i64 20] ?_; (with_reducible refine (impl_InRange.calls a0_0 1 20 true _ A2.out).mono ?_); rintro e w' ⟨rfl, ⟨nd, rfl⟩⟩; refine ⟨_, rfl, ?_⟩) | (go_at_call 66; (with_reducible refine (impl_InRange.calls a0_1 1 3 false _ A4.out).mono ?_); rintro e w' ⟨rfl, ⟨nd, rfl⟩⟩))
  go_ret
  exact ⟨rA, bG⟩
 replace c3 := Bool.eq_false_iff.mpr c3
 subst c3
 have H1 : (some false) = some r := by rw [if_neg (show ¬ (false = true) by decide)] at H; exact H
 clear H
 have H := H1
 clear H1
 obtain rfl := Option.some.inj H
 go_enter Try.func146, Try.ntmps146
 go_wp2_with (first | ((with_reducible refine gate_dst (N := 1) rfl ?_); refine bE (N := 1) (cs := #[.int .i64 a0_0, .int .i64 a0_1, .int .i64 a0_2, .int .i64 a0_3]) (t := 89) ?_; intro gb349 hg w18 hbox hb; have BK349 := Aside0.mk (hbox); have GW349 := gw w hg; have GE349 := gw w hg; replace HB := bs HB hb; clear hb hbox hg; obtain ⟨_, _, _, _, _, _, _, _⟩ := blkc4 BK349) | ((with_reducible refine gate_callee (f := 66) rfl ?_); refine gL (some 5) Try.func66 #[.int .i64 a0_0, .int .i64 1, .int .i64 20] ?_; (with_reducible refine (impl_InRange.calls a0_0 1 20 false _ A2.out).mono ?_); rintro e w' ⟨rfl, ⟨nd, rfl⟩⟩; refine ⟨_, rfl, ?_⟩))
 go_ret
 exact ⟨rA, bG⟩

/-! ### impl_ArePaths: function 126 -/
def impl_ArePaths.l0 : Nat → List (S89) → List (S89) → Int → Int → Option (Bool)
 | 0, _, _, _, _ => none
 | k + 1, x0, x8, x9, x10 => if x10 < x9 then (if 0 ≤ x10 then (if x10 < (x8.length : Int) then ((impl_IsPath.f ((rd_T89 x8 x10).f0) ((rd_T89 x8 x10).f1) ((rd_T89 x8 x10).f2) ((rd_T89 x8 x10).f3)).bind fun t356 => (if t356 = true then (if x10 > 0 then (if 0 ≤ (wrap64 (x10 - 1)) then (if (wrap64 (x10 - 1)) < (x0.length : Int) then (if ((rd_T89 x8 x10).f0) ≤ ((rd_T89 x0 (wrap64 (x10 - 1))).f0) then (some false) else (impl_ArePaths.l0 k x0 x8 x9 (wrap64 (x10 + 1)))) else (none)) else (none)) else (impl_ArePaths.l0 k x0 x8 x9 (wrap64 (x10 + 1)))) else (some false))) else (none)) else (none)) else (some true)
def impl_ArePaths.f (k : Nat) (l0 : List (S89)) : Option (Bool) := if (l0.length : Int) > 12 then (some false) else (impl_ArePaths.l0 k l0 l0 (l0.length : Int) 0)
theorem impl_ArePaths.mono_l : ∀ k, (∀ y0 y1 y2 y3, LeO (impl_ArePaths.l0 k y0 y1 y2 y3) (impl_ArePaths.l0 (k + 1) y0 y1 y2 y3))
 | 0 => fun _ _ _ _ r h => by simp [impl_ArePaths.l0] at h
 | k + 1 => by
  have ih0 := impl_ArePaths.mono_l k
  ·
   intro y0 y1 y2 y3
   unfold impl_ArePaths.l0
   exact mz1 ih0
theorem impl_ArePaths.mono : ∀ a0 k, LeO (impl_ArePaths.f k a0) (impl_ArePaths.f (k + 1) a0) := by
 intro a0 k
 have ih0 := impl_ArePaths.mono_l k
 unfold impl_ArePaths.f
 exact mz1 ih0
def impl_ArePaths.T6 : Bool × List (List Nat × List Nat) := (true, [([], []), ([0], [0]), ([1], [1]), ([2, 1], [2]), ([3], [3]), ([4, 3], [3, 4]), ([5, 3, 3], [3, 5]), ([6], [6]), ([7, 6], [6, 7]), ([6], [6]), ([6], [6]), ([10, 6], [6, 10]), ([9, 11, 6], [6, 9, 11]), ([12, 6], [6, 12]), ([13, 6], [6, 13]), ([8, 14, 6], [6, 8, 14]), ([6, 15, 3], [3, 6, 15]), ([3, 16], [3, 16])])
def impl_ArePaths.B6 : List Nat := [0, 1, 3, 7, 15, 31, 63, 127, 255, 127, 127, 1151, 3711, 7807, 15999, 32767, 65535, 131071]
theorem impl_ArePaths.tab6 : rtab .any (opsOf Try.f126 6) = impl_ArePaths.T6 := by kernel_rfl
theorem impl_ArePaths.bits6 : waitsOk impl_ArePaths.T6.2 impl_ArePaths.B6 = true := by kernel_rfl
set_option maxHeartbeats 8000000 in
set_option maxRecDepth 100000 in
theorem impl_ArePaths.calls (k : Nat) (A0 : Option Addr) (c0 : Nat) (l0 : List (S89)) (r : Bool) (w : World) (hr0 : Kd.C k89 w A0 l0.length l0) (hc0 : l0.length ≤ c0) (h : impl_ArePaths.f k l0 = some r) :
  Calls Try.prog 126 #[.slice A0 l0.length c0] w fun e w' => e = .returned (.bool r) ∧ Below w.heap.size w w' := by
 have hu89 := Try.underlying89
 have HR0 := Aside0.mk hr0
 have HC0 := Aside0.mk hc0
 clear hr0 hc0
 have HB := Aside0.mk (Below.refl w.heap.size w)
 have H : (if (l0.length : Int) > 12 then (some false) else (impl_ArePaths.l0 k l0 l0 (l0.length : Int) 0)) = some r := h
 clear h
 by_cases c2 : (l0.length : Int) > 12
 ·
  rw [if_pos c2] at H
  have c2b0 := decide_eq_true c2
  have c2b1 : decide (12 < l0.length) = true := decide_eq_true (by omega)
  clear c2
  obtain rfl := Option.some.inj H
  go_enter Try.func126, Try.ntmps126
  go_wp2
  go_ret
  exact ⟨rA, bA⟩
 rw [if_neg c2] at H
 have c2b0 := decide_eq_false c2
 have c2b1 : decide (12 < l0.length) = false := decide_eq_false (by omega)
 clear c2
 have H' := Aside0.mk H
 clear H
 go_enter Try.func126, Try.ntmps126
 go_wp2
 go_loopg [10] k (fun kq v10 w' => ∃ (x10_1 : Int), v10 = .int .i64 x10_1 ∧ Aside0 (impl_ArePaths.l0 kq l0 l0 (l0.length : Int) x10_1 = some r) ∧ Aside0 (kq ≤ k) ∧ Aside0 (Below w.heap.size w w'))
 case atStart => exact ⟨(0), rS, H', ⟨Nat.le_refl _⟩, ⟨bA⟩⟩
 case round =>
  clear H'
  obtain ⟨x10_1, rfl, HA, HK1, HB⟩ := hrel
  cases gk with
  | zero => exact absurd HA.out (by simp [impl_ArePaths.l0])
  | succ k1 =>
   have H := HA.out
   clear HA
   simp only [impl_ArePaths.l0] at H
   by_cases c3 : x10_1 < (l0.length : Int)
   ·
    rw [if_pos c3] at H
    have c3b0 := decide_eq_true c3
    clear c3
    have c4 : 0 ≤ x10_1 := ifN H
    replace H := ifT H
    have c4b0 := decide_eq_true c4
    clear c4
    have c5 : x10_1 < (l0.length : Int) := ifN H
    replace H := ifT H
    have c5b0 := decide_eq_true c5
    clear c5
    obtain ⟨t356, A6, H⟩ := bindE H
    try dsimp only at H
    by_cases c7 : t356 = true
    ·
     subst c7
     have H1 : (if x10_1 > 0 then (if 0 ≤ (wrap64 (x10_1 - 1)) then (if (wrap64 (x10_1 - 1)) < (l0.length : Int) then (if ((rd_T89 l0 x10_1).f0) ≤ ((rd_T89 l0 (wrap64 (x10_1 - 1))).f0) then (some false) else (impl_ArePaths.l0 k1 l0 l0 (l0.length : Int) (wrap64 (x10_1 + 1)))) else (none)) else (none)) else (impl_ArePaths.l0 k1 l0 l0 (l0.length : Int) (wrap64 (x10_1 + 1)))) = some r := by rw [if_pos rfl] at H; exact H
     clear H
     have H := H1
     clear H1
     by_cases c8 : x10_1 > 0
     ·
      rw [if_pos c8] at H
      have c8b0 := decide_eq_true c8
      clear c8
      obtain ⟨ji9, hji9⟩ : ∃ j_ : Int, (wrap64 (x10_1 - 1)) = j_ := ⟨_, rfl⟩
      replace H : (if 0 ≤ (ji9) then (if (ji9) < (l0.length : Int) then (if ((rd_T89 l0 x10_1).f0) ≤ ((rd_T89 l0 (ji9)).f0) then (some false) else (impl_ArePaths.l0 k1 l0 l0 (l0.length : Int) (wrap64 (x10_1 + 1)))) else (none)) else (none)) = some r := by first | (rw [hji9] at H; exact H) | (simp only [hji9] at H ⊢; exact H)
      (try rw [hji9] at A6)
      have hji9w : (IntKind.i64.wrap (x10_1 - 1)) = ji9 := (i64_w _).trans hji9
      have c10 : 0 ≤ (ji9) := ifN H
      replace H := ifT H
      have c10b0 := decide_eq_true c10
      clear c10
      have c11 : (ji9) < (l0.length : Int) := ifN H
      replace H := ifT H
      have c11b0 := decide_eq_true c11
      clear c11
      by_cases c12 : ((rd_T89 l0 x10_1).f0) ≤ ((rd_T89 l0 (ji9)).f0)
      ·
       rw [if_pos c12] at H
       have c12b0 := decide_eq_true c12
       clear c12
       obtain rfl := Option.some.inj H
       obtain ⟨p354, q354⟩ : 0 ≤ (x10_1 : Int) ∧ x10_1 < (l0.length : Int) := ⟨dA, dA⟩
       obtain ⟨ad354, e354, hx354_0, hx354_1, hx354_2, hx354_3⟩ := at_T89 (Kd.C_below HR0.out HB.out) x10_1 p354 q354
       cases e354
       obtain ⟨p354, q354⟩ := eT p354 q354
       try go_wp2_with (first | ((with_reducible refine gate_dst (N := 4) rfl ?_); refine bE (N := 4) (cs := #[.int .i64 0, .int .i64 0, .int .i64 0, .int .i64 0]) (t := 89) ?_; intro gb355 hg w13 hbox hb; have BK355 := Aside0.mk (hbox); have GW355 := gw w hg; have GE355 := gw w hg; replace HB := bs HB hb; clear hb hbox hg; obtain ⟨_, _, _, _, _, _, _, _⟩ := blkc4 BK355))
       have n0_ : Aside0 (((((w13.setCell ⟨gb355, 0, none⟩ (.int .i64 ((rd_T89 l0 x10_1).f0))).setCell ⟨gb355, 1, none⟩ (.int .i64 ((rd_T89 l0 x10_1).f1))).setCell ⟨gb355, 2, none⟩ (.int .i64 ((rd_T89 l0 x10_1).f2))).setCell ⟨gb355, 3, none⟩ (.int .i64 ((rd_T89 l0 x10_1).f3))).heap[gb355]? = some (.cells #[.int .i64 ((rd_T89 l0 x10_1).f0), .int .i64 ((rd_T89 l0 x10_1).f1), .int .i64 ((rd_T89 l0 x10_1).f2), .int .i64 ((rd_T89 l0 x10_1).f3)] 89 (0, 0))) := ⟨kp BK355⟩
       have n1_ : Aside0 (Below w.heap.size w ((((w13.setCell ⟨gb355, 0, none⟩ (.int .i64 ((rd_T89 l0 x10_1).f0))).setCell ⟨gb355, 1, none⟩ (.int .i64 ((rd_T89 l0 x10_1).f1))).setCell ⟨gb355, 2, none⟩ (.int .i64 ((rd_T89 l0 x10_1).f2))).setCell ⟨gb355, 3, none⟩ (.int .i64 ((rd_T89 l0 x10_1).f3)))) := ⟨bG⟩
       (try clear BK355)
       (try clear HB)
       generalize ((((w13.setCell ⟨gb355, 0, none⟩ (.int .i64 ((rd_T89 l0 x10_1).f0))).setCell ⟨gb355, 1, none⟩ (.int .i64 ((rd_T89 l0 x10_1).f1))).setCell ⟨gb355, 2, none⟩ (.int .i64 ((rd_T89 l0 x10_1).f2))).setCell ⟨gb355, 3, none⟩ (.int .i64 ((rd_T89 l0 x10_1).f3))) = w15 at n0_ n1_ ⊢
       have BK355 := n0_
       have HB := n1_
       clear n0_ n1_
       replace BK355 := dk BK355
       have HBo := HB
       replace HB := db HB
       obtain ⟨p357, q357⟩ : 0 ≤ ((ji9) : Int) ∧ (ji9) < (l0.length : Int) := ⟨dA, dA⟩
       obtain ⟨ad357, e357, hx357_0, hx357_1, hx357_2, hx357_3⟩ := at_T89 HR0.out (ji9) p357 q357
       have hw357_3 := hx357_3
       have hw357_2 := hx357_2
       have hw357_1 := hx357_1
       have hw357_0 := hx357_0
       obtain rfl : ad354 = ad357 := (by injection e357)
       replace hx357_0 := hC HB hx357_0
       replace hx357_1 := hC HB hx357_1
       replace hx357_2 := hC HB hx357_2
       replace hx357_3 := hC HB hx357_3
       obtain ⟨p357, q357⟩ := eT p357 q357
       refine sw (ds := []) 18 (mb 18 0) impl_ArePaths.tab6 impl_ArePaths.bits6 (h4c BK355 (h1c (hC HB hw357_0) (h1c (hC HB hw357_1) (h1c (hC HB hw357_2) (h1 (hC HB hw357_3)))))) (fun hHeld HT_ HW_ => ?_)
       generalize w15.drew = w16 at BK355 HB hx357_0 hx357_1 hx357_2 hx357_3 hHeld ⊢
       refine ta8 0 15 (mb 18 1) HT_ HW_ hHeld ?_
       refine oa 1 16 (mb 18 3) HT_ (fun K hK => ?_)
       refine gA Try.func146 #[.agg #[.int .i64 ((rd_T89 l0 x10_1).f0), .int .i64 ((rd_T89 l0 x10_1).f1), .int .i64 ((rd_T89 l0 x10_1).f2), .int .i64 ((rd_T89 l0 x10_1).f3)]] ?_
       with_reducible refine (impl_IsPath.calls ((rd_T89 l0 x10_1).f0) ((rd_T89 l0 x10_1).f1) ((rd_T89 l0 x10_1).f2) ((rd_T89 l0 x10_1).f3) true _ A6.out).mono ?_
       rintro e w17 ⟨rfl, hb⟩
       refine ⟨_, rfl, ?_⟩
       replace BK355 := kb BK355 hb
       replace HB := bs HB hb
       (try clear hb)
       (try clear hb2)
       (try clear hk)
       (try clear hi)
       refine hK.out _ _ (cm4 BK355 ⟨(hC HB hw357_0), (hC HB hw357_1), (hC HB hw357_2), (hC HB hw357_3)⟩) (fun hHeld => ?_)
       clear hK K
       refine nB ?_
       refine pa 2 17 (mb 18 7) HT_ ?_
       refine pa 3 18 (mb 18 15) HT_ ?_
       refine pa 4 19 (mb 18 31) HT_ ?_
       refine pa 5 20 (mb 18 63) HT_ ?_
       refine pa 6 21 (mb 18 127) HT_ ?_
       refine pa 7 22 (mb 18 255) HT_ ?_
       refine pa 9 24 (mb 18 767) HT_ ?_
       refine pa 10 25 (mb 18 1791) HT_ ?_
       refine pa 11 26 (mb 18 3839) HT_ ?_
       refine pa 12 27 (mb 18 7935) HT_ ?_
       refine pa 13 28 (mb 18 16127) HT_ ?_
       refine ta8 8 23 (mb 18 16383) HT_ HW_ hHeld ?_
       refine ta8 14 29 (mb 18 32767) HT_ HW_ hHeld ?_
       refine pa 15 30 (mb 18 65535) HT_ ?_
       refine pa 16 31 (mb 18 131071) HT_ ?_
       refine pa 17 32 (mb 18 262143) HT_ ?_
       refine eA HT_ ?_
       try go_wp2
       go_ret
       exact ⟨by first | rfl | (simp [errW_none, errW_some] <;> rfl) | (simp only [← hji9]; first | rfl | (simp [errW_none, errW_some] <;> rfl)) | (simp [*, errW_none, errW_some] <;> rfl), bG⟩
      rw [if_neg c12] at H
      have c12b0 := decide_eq_false c12
      clear c12
      have H' := Aside0.mk H
      clear H
      obtain ⟨p354, q354⟩ : 0 ≤ (x10_1 : Int) ∧ x10_1 < (l0.length : Int) := ⟨dA, dA⟩
      obtain ⟨ad354, e354, hx354_0, hx354_1, hx354_2, hx354_3⟩ := at_T89 (Kd.C_below HR0.out HB.out) x10_1 p354 q354
      cases e354
      obtain ⟨p354, q354⟩ := eT p354 q354
      try go_wp2_with (first | ((with_reducible refine gate_dst (N := 4) rfl ?_); refine bE (N := 4) (cs := #[.int .i64 0, .int .i64 0, .int .i64 0, .int .i64 0]) (t := 89) ?_; intro gb355 hg w18 hbox hb; have BK355 := Aside0.mk (hbox); have GW355 := gw w hg; have GE355 := gw w hg; replace HB := bs HB hb; clear hb hbox hg; obtain ⟨_, _, _, _, _, _, _, _⟩ := blkc4 BK355))
      have n0_ : Aside0 (((((w18.setCell ⟨gb355, 0, none⟩ (.int .i64 ((rd_T89 l0 x10_1).f0))).setCell ⟨gb355, 1, none⟩ (.int .i64 ((rd_T89 l0 x10_1).f1))).setCell ⟨gb355, 2, none⟩ (.int .i64 ((rd_T89 l0 x10_1).f2))).setCell ⟨gb355, 3, none⟩ (.int .i64 ((rd_T89 l0 x10_1).f3))).heap[gb355]? = some (.cells #[.int .i64 ((rd_T89 l0 x10_1).f0), .int .i64 ((rd_T89 l0 x10_1).f1), .int .i64 ((rd_T89 l0 x10_1).f2), .int .i64 ((rd_T89 l0 x10_1).f3)] 89 (0, 0))) := ⟨kp BK355⟩
      have n1_ : Aside0 (Below w.heap.size w ((((w18.setCell ⟨gb355, 0, none⟩ (.int .i64 ((rd_T89 l0 x10_1).f0))).setCell ⟨gb355, 1, none⟩ (.int .i64 ((rd_T89 l0 x10_1).f1))).setCell ⟨gb355, 2, none⟩ (.int .i64 ((rd_T89 l0 x10_1).f2))).setCell ⟨gb355, 3, none⟩ (.int .i64 ((rd_T89 l0 x10_1).f3)))) := ⟨bG⟩
      (try clear BK355)
      (try clear HB)
      generalize ((((w18.setCell ⟨gb355, 0, none⟩ (.int .i64 ((rd_T89 l0 x10_1).f0))).setCell ⟨gb355, 1, none⟩ (.int .i64 ((rd_T89 l0 x10_1).f1))).setCell ⟨gb355, 2, none⟩ (.int .i64 ((rd_T89 l0 x10_1).f2))).setCell ⟨gb355, 3, none⟩ (.int .i64 ((rd_T89 l0 x10_1).f3))) = w20 at n0_ n1_ ⊢
      have BK355 := n0_
      have HB := n1_
      clear n0_ n1_
      replace BK355 := dk BK355
      have HBo := HB
      replace HB := db HB
      obtain ⟨p357, q357⟩ : 0 ≤ ((ji9) : Int) ∧ (ji9) < (l0.length : Int) := ⟨dA, dA⟩
      obtain ⟨ad357, e357, hx357_0, hx357_1, hx357_2, hx357_3⟩ := at_T89 HR0.out (ji9) p357 q357
      have hw357_3 := hx357_3
      have hw357_2 := hx357_2
      have hw357_1 := hx357_1
      have hw357_0 := hx357_0
      obtain rfl : ad354 = ad357 := (by injection e357)
      replace hx357_0 := hC HB hx357_0
      replace hx357_1 := hC HB hx357_1
      replace hx357_2 := hC HB hx357_2
      replace hx357_3 := hC HB hx357_3
      obtain ⟨p357, q357⟩ := eT p357 q357
      refine sw (ds := []) 18 (mb 18 0) impl_ArePaths.tab6 impl_ArePaths.bits6 (h4c BK355 (h1c (hC HB hw357_0) (h1c (hC HB hw357_1) (h1c (hC HB hw357_2) (h1 (hC HB hw357_3)))))) (fun hHeld HT_ HW_ => ?_)
      generalize w20.drew = w21 at BK355 HB hx357_0 hx357_1 hx357_2 hx357_3 hHeld ⊢
      refine ta8 0 15 (mb 18 1) HT_ HW_ hHeld ?_
      refine oa 1 16 (mb 18 3) HT_ (fun K hK => ?_)
      refine gA Try.func146 #[.agg #[.int .i64 ((rd_T89 l0 x10_1).f0), .int .i64 ((rd_T89 l0 x10_1).f1), .int .i64 ((rd_T89 l0 x10_1).f2), .int .i64 ((rd_T89 l0 x10_1).f3)]] ?_
      with_reducible refine (impl_IsPath.calls ((rd_T89 l0 x10_1).f0) ((rd_T89 l0 x10_1).f1) ((rd_T89 l0 x10_1).f2) ((rd_T89 l0 x10_1).f3) true _ A6.out).mono ?_
      rintro e w22 ⟨rfl, hb⟩
      refine ⟨_, rfl, ?_⟩
      replace BK355 := kb BK355 hb
      replace HB := bs HB hb
      (try clear hb)
      (try clear hb2)
      (try clear hk)
      (try clear hi)
      refine hK.out _ _ (cm4 BK355 ⟨(hC HB hw357_0), (hC HB hw357_1), (hC HB hw357_2), (hC HB hw357_3)⟩) (fun hHeld => ?_)
      clear hK K
      refine nB ?_
      refine pa 2 17 (mb 18 7) HT_ ?_
      refine pa 3 18 (mb 18 15) HT_ ?_
      refine pa 4 19 (mb 18 31) HT_ ?_
      refine pa 5 20 (mb 18 63) HT_ ?_
      refine pa 6 21 (mb 18 127) HT_ ?_
      refine pa 7 22 (mb 18 255) HT_ ?_
      refine pa 9 24 (mb 18 767) HT_ ?_
      refine pa 10 25 (mb 18 1791) HT_ ?_
      refine pa 11 26 (mb 18 3839) HT_ ?_
      refine pa 12 27 (mb 18 7935) HT_ ?_
      refine pa 13 28 (mb 18 16127) HT_ ?_
      refine ta8 8 23 (mb 18 16383) HT_ HW_ hHeld ?_
      refine ta8 14 29 (mb 18 32767) HT_ HW_ hHeld ?_
      refine pa 15 30 (mb 18 65535) HT_ ?_
      refine pa 16 31 (mb 18 131071) HT_ ?_
      refine pa 17 32 (mb 18 262143) HT_ ?_
      refine eA HT_ ?_
      try go_wp2
      go_roundg k1
      case measure => have := HK1.out; omega
      case rel => exact ⟨(wrap64 (x10_1 + 1)), rS, H', ⟨by have := HK1.out; omega⟩, ⟨bG⟩⟩
     rw [if_neg c8] at H
     have c8b0 := decide_eq_false c8
     clear c8
     have H' := Aside0.mk H
     clear H
     obtain ⟨p354, q354⟩ : 0 ≤ (x10_1 : Int) ∧ x10_1 < (l0.length : Int) := ⟨dA, dA⟩
     obtain ⟨ad354, e354, hx354_0, hx354_1, hx354_2, hx354_3⟩ := at_T89 (Kd.C_below HR0.out HB.out) x10_1 p354 q354
     cases e354
     obtain ⟨p354, q354⟩ := eT p354 q354
     try go_wp2_with (first | ((with_reducible refine gate_dst (N := 4) rfl ?_); refine bE (N := 4) (cs := #[.int .i64 0, .int .i64 0, .int .i64 0, .int .i64 0]) (t := 89) ?_; intro gb355 hg w23 hbox hb; have BK355 := Aside0.mk (hbox); have GW355 := gw w hg; have GE355 := gw w hg; replace HB := bs HB hb; clear hb hbox hg; obtain ⟨_, _, _, _, _, _, _, _⟩ := blkc4 BK355))
     have n0_ : Aside0 (((((w23.setCell ⟨gb355, 0, none⟩ (.int .i64 ((rd_T89 l0 x10_1).f0))).setCell ⟨gb355, 1, none⟩ (.int .i64 ((rd_T89 l0 x10_1).f1))).setCell ⟨gb355, 2, none⟩ (.int .i64 ((rd_T89 l0 x10_1).f2))).setCell ⟨gb355, 3, none⟩ (.int .i64 ((rd_T89 l0 x10_1).f3))).heap[gb355]? = some (.cells #[.int .i64 ((rd_T89 l0 x10_1).f0), .int .i64 ((rd_T89 l0 x10_1).f1), .int .i64 ((rd_T89 l0 x10_1).f2), .int .i64 ((rd_T89 l0 x10_1).f3)] 89 (0, 0))) := ⟨kp BK355⟩
     have n1_ : Aside0 (Below w.heap.size w ((((w23.setCell ⟨gb355, 0, none⟩ (.int .i64 ((rd_T89 l0 x10_1).f0))).setCell ⟨gb355, 1, none⟩ (.int .i64 ((rd_T89 l0 x10_1).f1))).setCell ⟨gb355, 2, none⟩ (.int .i64 ((rd_T89 l0 x10_1).f2))).setCell ⟨gb355, 3, none⟩ (.int .i64 ((rd_T89 l0 x10_1).f3)))) := ⟨bG⟩
     (try clear BK355)
     (try clear HB)
     generalize ((((w23.setCell ⟨gb355, 0, none⟩ (.int .i64 ((rd_T89 l0 x10_1).f0))).setCell ⟨gb355, 1, none⟩ (.int .i64 ((rd_T89 l0 x10_1).f1))).setCell ⟨gb355, 2, none⟩ (.int .i64 ((rd_T89 l0 x10_1).f2))).setCell ⟨gb355, 3, none⟩ (.int .i64 ((rd_T89 l0 x10_1).f3))) = w25 at n0_ n1_ ⊢
     have BK355 := n0_
     have HB := n1_
     clear n0_ n1_
     replace BK355 := dk BK355
     have HBo := HB
     replace HB := db HB
     refine sw (ds := []) 18 (mb 18 0) impl_ArePaths.tab6 impl_ArePaths.bits6 (h4 BK355) (fun hHeld HT_ HW_ => ?_)
     generalize w25.drew = w26 at BK355 HB hHeld ⊢
     refine ta4 0 15 (mb 18 1) HT_ HW_ hHeld ?_
     refine oa 1 16 (mb 18 3) HT_ (fun K hK => ?_)
     refine gA Try.func146 #[.agg #[.int .i64 ((rd_T89 l0 x10_1).f0), .int .i64 ((rd_T89 l0 x10_1).f1), .int .i64 ((rd_T89 l0 x10_1).f2), .int .i64 ((rd_T89 l0 x10_1).f3)]] ?_
     with_reducible refine (impl_IsPath.calls ((rd_T89 l0 x10_1).f0) ((rd_T89 l0 x10_1).f1) ((rd_T89 l0 x10_1).f2) ((rd_T89 l0 x10_1).f3) true _ A6.out).mono ?_
     rintro e w27 ⟨rfl, hb⟩
     refine ⟨_, rfl, ?_⟩
     replace BK355 := kb BK355 hb
     replace HB := bs HB hb
     (try clear hb)
     (try clear hb2)
     (try clear hk)
     (try clear hi)
     refine hK.out _ _ (cn4 BK355) (fun hHeld => ?_)
     clear hK K
     refine nB ?_
     refine pa 2 17 (mb 18 7) HT_ ?_
     refine pa 3 18 (mb 18 15) HT_ ?_
     refine pa 4 19 (mb 18 31) HT_ ?_
     refine pa 5 20 (mb 18 63) HT_ ?_
     refine pa 6 21 (mb 18 127) HT_ ?_
     refine pu 7 22 (mb 18 255) HT_ ?_
     refine pu 8 23 (mb 18 511) HT_ ?_
     refine pu 9 24 (mb 18 1023) HT_ ?_
     refine pu 10 25 (mb 18 2047) HT_ ?_
     refine pu 11 26 (mb 18 4095) HT_ ?_
     refine pu 12 27 (mb 18 8191) HT_ ?_
     refine pu 13 28 (mb 18 16383) HT_ ?_
     refine pu 14 29 (mb 18 32767) HT_ ?_
     refine pu 15 30 (mb 18 65535) HT_ ?_
     refine pa 16 31 (mb 18 131071) HT_ ?_
     refine pa 17 32 (mb 18 262143) HT_ ?_
     refine eA HT_ ?_
     try go_wp2
     go_roundg k1
     case measure => have := HK1.out; omega
     case rel => exact ⟨(wrap64 (x10_1 + 1)), rS, H', ⟨by have := HK1.out; omega⟩, ⟨bG⟩⟩
    replace c7 := Bool.eq_false_iff.mpr c7
    subst c7
    have H1 : (some false) = some r := by rw [if_neg (show ¬ (false = true) by decide)] at H; exact H
    clear H
    have H := H1
    clear H1
    obtain rfl := Option.some.inj H
    obtain ⟨p354, q354⟩ : 0 ≤ (x10_1 : Int) ∧ x10_1 < (l0.length : Int) := ⟨dA, dA⟩
    obtain ⟨ad354, e354, hx354_0, hx354_1, hx354_2, hx354_3⟩ := at_T89 (Kd.C_below HR0.out HB.out) x10_1 p354 q354
    cases e354
    obtain ⟨p354, q354⟩ := eT p354 q354
    try go_wp2_with (first | ((with_reducible refine gate_dst (N := 4) rfl ?_); refine bE (N := 4) (cs := #[.int .i64 0, .int .i64 0, .int .i64 0, .int .i64 0]) (t := 89) ?_; intro gb355 hg w28 hbox hb; have BK355 := Aside0.mk (hbox); have GW355 := gw w hg; have GE355 := gw w hg; replace HB := bs HB hb; clear hb hbox hg; obtain ⟨_, _, _, _, _, _, _, _⟩ := blkc4 BK355))
    have n0_ : Aside0 (((((w28.setCell ⟨gb355, 0, none⟩ (.int .i64 ((rd_T89 l0 x10_1).f0))).setCell ⟨gb355, 1, none⟩ (.int .i64 ((rd_T89 l0 x10_1).f1))).setCell ⟨gb355, 2, none⟩ (.int .i64 ((rd_T89 l0 x10_1).f2))).setCell ⟨gb355, 3, none⟩ (.int .i64 ((rd_T89 l0 x10_1).f3))).heap[gb355]? = some (.cells #[.int .i64 ((rd_T89 l0 x10_1).f0), .int .i64 ((rd_T89 l0 x10_1).f1), .int .i64 ((rd_T89 l0 x10_1).f2), .int .i64 ((rd_T89 l0 x10_1).f3)] 89 (0, 0))) := ⟨kp BK355⟩
    have n1_ : Aside0 (Below w.heap.size w ((((w28.setCell ⟨gb355, 0, none⟩ (.int .i64 ((rd_T89 l0 x10_1).f0))).setCell ⟨gb355, 1, none⟩ (.int .i64 ((rd_T89 l0 x10_1).f1))).setCell ⟨gb355, 2, none⟩ (.int .i64 ((rd_T89 l0 x10_1).f2))).setCell ⟨gb355, 3, none⟩ (.int .i64 ((rd_T89 l0 x10_1).f3)))) := ⟨bG⟩
    (try clear BK355)
    (try clear HB)
    generalize ((((w28.setCell ⟨gb355, 0, none⟩ (.int .i64 ((rd_T89 l0 x10_1).f0))).setCell ⟨gb355, 1, none⟩ (.int .i64 ((rd_T89 l0 x10_1).f1))).setCell ⟨gb355, 2, none⟩ (.int .i64 ((rd_T89 l0 x10_1).f2))).setCell ⟨gb355, 3, none⟩ (.int .i64 ((rd_T89 l0 x10_1).f3))) = w30 at n0_ n1_ ⊢
    have BK355 := n0_
    have HB := n1_
    clear n0_ n1_
    replace BK355 := dk BK355
    have HBo := HB
    replace HB := db HB
    refine sw (ds := []) 18 (mb 18 0) impl_ArePaths.tab6 impl_ArePaths.bits6 (h4 BK355) (fun hHeld HT_ HW_ => ?_)
    generalize w30.drew = w31 at BK355 HB hHeld ⊢
    refine ta4 0 15 (mb 18 1) HT_ HW_ hHeld ?_
    refine oa 1 16 (mb 18 3) HT_ (fun K hK => ?_)
    refine gA Try.func146 #[.agg #[.int .i64 ((rd_T89 l0 x10_1).f0), .int .i64 ((rd_T89 l0 x10_1).f1), .int .i64 ((rd_T89 l0 x10_1).f2), .int .i64 ((rd_T89 l0 x10_1).f3)]] ?_
    with_reducible refine (impl_IsPath.calls ((rd_T89 l0 x10_1).f0) ((rd_T89 l0 x10_1).f1) ((rd_T89 l0 x10_1).f2) ((rd_T89 l0 x10_1).f3) false _ A6.out).mono ?_
    rintro e w32 ⟨rfl, hb⟩
    refine ⟨_, rfl, ?_⟩
    replace BK355 := kb BK355 hb
    replace HB := bs HB hb
    (try clear hb)
    (try clear hb2)
    (try clear hk)
    (try clear hi)
    refine hK.out _ _ (cn4 BK355) (fun hHeld => ?_)
    clear hK K
    refine nB ?_
    refine pa 2 17 (mb 18 7) HT_ ?_
    refine pa 3 18 (mb 18 15) HT_ ?_
    refine pu 4 19 (mb 18 31) HT_ ?_
    refine pu 5 20 (mb 18 63) HT_ ?_
    refine pu 6 21 (mb 18 127) HT_ ?_
    refine pu 7 22 (mb 18 255) HT_ ?_
    refine pu 8 23 (mb 18 511) HT_ ?_
    refine pu 9 24 (mb 18 1023) HT_ ?_
    refine pu 10 25 (mb 18 2047) HT_ ?_
    refine pu 11 26 (mb 18 4095) HT_ ?_
    refine pu 12 27 (mb 18 8191) HT_ ?_
    refine pu 13 28 (mb 18 16383) HT_ ?_
    refine pu 14 29 (mb 18 32767) HT_ ?_
    refine pu 15 30 (mb 18 65535) HT_ ?_
    refine pu 16 31 (mb 18 131071) HT_ ?_
    refine pa 17 32 (mb 18 262143) HT_ ?_
    refine eA HT_ ?_
    try go_wp2
    go_ret
    exact ⟨rA, bG⟩
   rw [if_neg c3] at H
   have c3b0 := decide_eq_false c3
   clear c3
   obtain rfl := Option.some.inj H
   go_wp2
   go_ret
   exact ⟨rA, bA⟩

/-! ### impl_Interleave: function 152 -/
def impl_Interleave.l0 : Nat → Int → Int → Int → Int → List Int → Int → Int → Option (Bool)
 | 0, _, _, _, _, _, _, _ => none
 | k + 1, x0, x1, x2, x3, x16, x17, x18 => if x18 < x17 then (if 0 ≤ x18 then (if x18 < (x16.length : Int) then ((impl_InRange.f (rd x16 x18) 0 7).bind fun t362 => (if t362 = true then (impl_Interleave.l0 k x0 x1 x2 x3 x16 x17 (wrap64 (x18 + 1))) else (some false))) else (none)) else (none)) else (if x0 = x1 then (some false) else (if x0 = x2 then (some false) else (if x0 = x3 then (some false) else (if x1 = x2 then (some false) else (if x1 = x3 then (some false) else (if x2 = x3 then (some false) else (some ((decide ((Int.tmod (wrap64 ((wrap64 (x2 - x0)) + 8)) 8) < (Int.tmod (wrap64 ((wrap64 (x1 - x0)) + 8)) 8))) != (decide ((Int.tmod (wrap64 ((wrap64 (x3 - x0)) + 8)) 8) < (Int.tmod (wrap64 ((wrap64 (x1 - x0)) + 8)) 8)))))))))))
def impl_Interleave.f (k : Nat) (a0 : Int) (a1 : Int) (a2 : Int) (a3 : Int) : Option (Bool) := (some (([a0, a1, a2, a3] : List Int) : List Int)).bind fun y358 => (impl_Interleave.l0 k a0 a1 a2 a3 y358 (y358.length : Int) 0)
theorem impl_Interleave.mono_l : ∀ k, (∀ y0 y1 y2 y3 y4 y5 y6, LeO (impl_Interleave.l0 k y0 y1 y2 y3 y4 y5 y6) (impl_Interleave.l0 (k + 1) y0 y1 y2 y3 y4 y5 y6))
 | 0 => fun _ _ _ _ _ _ _ r h => by simp [impl_Interleave.l0] at h
 | k + 1 => by
  have ih0 := impl_Interleave.mono_l k
  ·
   intro y0 y1 y2 y3 y4 y5 y6
   unfold impl_Interleave.l0
   exact mz1 ih0
theorem impl_Interleave.mono : ∀ a0 a1 a2 a3 k, LeO (impl_Interleave.f k a0 a1 a2 a3) (impl_Interleave.f (k + 1) a0 a1 a2 a3) := by
 intro a0 a1 a2 a3 k
 have ih0 := impl_Interleave.mono_l k
 unfold impl_Interleave.f
 exact mz1 ih0
set_option maxHeartbeats 8000000 in
set_option maxRecDepth 100000 in
theorem impl_Interleave.calls (k : Nat) (a0 : Int) (a1 : Int) (a2 : Int) (a3 : Int) (r : Bool) (w : World) (h : impl_Interleave.f k a0 a1 a2 a3 = some r) :
  Calls Try.prog 152 #[.int .i64 a0, .int .i64 a1, .int .i64 a2, .int .i64 a3] w fun e w' => e = .returned (.bool r) ∧ Below w.heap.size w w' := by
 have HB := Aside0.mk (Below.refl w.heap.size w)
 have H : ((some (([a0, a1, a2, a3] : List Int) : List Int)).bind fun y358 => (impl_Interleave.l0 k a0 a1 a2 a3 y358 (y358.length : Int) 0)) = some r := h
 clear h
 obtain ⟨y358, hy358⟩ : ∃ y_ : List Int, y_ = (([a0, a1, a2, a3] : List Int)) := ⟨_, rfl⟩
 replace H : (impl_Interleave.l0 k a0 a1 a2 a3 y358 (y358.length : Int) 0) = some r := rH H hy358
 have Ny358 := Aside0.mk hy358
 clear hy358
 have H' := Aside0.mk H
 clear H
 go_enter Try.func152, Try.ntmps152
 go_wp2_with (first | ((with_reducible refine gate_dst (N := 16) rfl ?_); refine Kd.R_lit (Kd.int .i64) _ 3 ?hg (N := 16) ?hd (xs := ([a0, a1, a2, a3] : List Int)) (inner := [.int .i64 a0, .int .i64 a1, .int .i64 a2, .int .i64 a3]) (ok := fun _ => True) (okp := fun _ => True) ?hr ?hp (fun _ hk => hk) trivial (Below.refl _ _) (Nat.le_refl _) (by simp) ?_; (case hd => rfl); (case hg => rfl); (case hr => first | (go_simp; done) | (go_simp; rfl)); (case hp => exact (Reps.one (show Kd.M (Kd.int .i64) _ _ _ a0 [.int .i64 a0] from rfl) (Reps.one (show Kd.M (Kd.int .i64) _ _ _ a1 [.int .i64 a1] from rfl) (Reps.one (show Kd.M (Kd.int .i64) _ _ _ a2 [.int .i64 a2] from rfl) (Reps.one (show Kd.M (Kd.int .i64) _ _ _ a3 [.int .i64 a3] from rfl) (Reps.none _ _)))))); intro v359 w5 ho6 hb hg_ hnew_; clear hg_ hnew_; (first | rw [← Ny358.out] at ho6 | (simp only [Int.reduceToNat] at ho6; rw [← Ny358.out] at ho6)); have HO360 := rl w ho6; replace HB := bs HB hb; clear hb ho6; obtain ⟨Ao7, co7, eo7⟩ := Kd.R_slice HO360.out; subst eo7))
 go_loopg [18] k (fun kq v18 w' => ∃ (x18_1 : Int), v18 = .int .i64 x18_1 ∧ Aside0 (impl_Interleave.l0 kq a0 a1 a2 a3 y358 (y358.length : Int) x18_1 = some r) ∧ Aside0 (kq ≤ k) ∧ Aside0 (Kd.R (Kd.int .i64) 3 w' w.heap.size (fun _ => True) (.slice Ao7 y358.length co7) y358) ∧ Aside0 (Below w.heap.size w w'))
 case atStart => exact ⟨(0), rS, H', ⟨Nat.le_refl _⟩, ⟨rK HO360⟩, ⟨bA⟩⟩
 case round =>
  clear H'
  obtain ⟨x18_1, rfl, HA, HK1, HO_16, HB⟩ := hrel
  cases gk with
  | zero => exact absurd HA.out (by simp [impl_Interleave.l0])
  | succ k1 =>
   have H := HA.out
   clear HA
   simp only [impl_Interleave.l0] at H
   by_cases c8 : x18_1 < (y358.length : Int)
   ·
    rw [if_pos c8] at H
    have c8b0 := decide_eq_true c8
    clear c8
    have c9 : 0 ≤ x18_1 := ifN H
    replace H := ifT H
    have c9b0 := decide_eq_true c9
    clear c9
    have c10 : x18_1 < (y358.length : Int) := ifN H
    replace H := ifT H
    have c10b0 := decide_eq_true c10
    clear c10
    obtain ⟨t362, A11, H⟩ := bindE H
    try dsimp only at H
    by_cases c12 : t362 = true
    ·
     subst c12
     have H1 : (impl_Interleave.l0 k1 a0 a1 a2 a3 y358 (y358.length : Int) (wrap64 (x18_1 + 1))) = some r := by rw [if_pos rfl] at H; exact H
     clear H
     have H := H1
     clear H1
     have H' := Aside0.mk H
     clear H
     obtain ⟨p361, q361⟩ : 0 ≤ (x18_1 : Int) ∧ x18_1 < (y358.length : Int) := ⟨dA, dA⟩
     obtain ⟨ad361, e361, hx361_0⟩ := Kd.at_int (Kd.R_reads' HO_16.out).2.2 x18_1 p361 q361
     cases e361
     obtain ⟨p361, q361⟩ := eT p361 q361
     go_wp2_with (first | ((with_reducible refine gate_callee (f := 66) rfl ?_); refine gL (some 23) Try.func66 #[.int .i64 (rd y358 x18_1), .int .i64 0, .int .i64 7] ?_; (with_reducible refine (impl_InRange.calls (rd y358 x18_1) 0 7 true _ A11.out).mono ?_); rintro e w' ⟨rfl, ⟨nd, rfl⟩⟩; refine ⟨_, rfl, ?_⟩))
     go_roundg k1
     case measure => have := HK1.out; omega
     case rel => exact ⟨(wrap64 (x18_1 + 1)), rS, H', ⟨by have := HK1.out; omega⟩, ⟨rK HO_16⟩, ⟨bA⟩⟩
    replace c12 := Bool.eq_false_iff.mpr c12
    subst c12
    have H1 : (some false) = some r := by rw [if_neg (show ¬ (false = true) by decide)] at H; exact H
    clear H
    have H := H1
    clear H1
    obtain rfl := Option.some.inj H
    obtain ⟨p361, q361⟩ : 0 ≤ (x18_1 : Int) ∧ x18_1 < (y358.length : Int) := ⟨dA, dA⟩
    obtain ⟨ad361, e361, hx361_0⟩ := Kd.at_int (Kd.R_reads' HO_16.out).2.2 x18_1 p361 q361
    cases e361
    obtain ⟨p361, q361⟩ := eT p361 q361
    go_wp2_with (first | ((with_reducible refine gate_callee (f := 66) rfl ?_); refine gL (some 23) Try.func66 #[.int .i64 (rd y358 x18_1), .int .i64 0, .int .i64 7] ?_; (with_reducible refine (impl_InRange.calls (rd y358 x18_1) 0 7 false _ A11.out).mono ?_); rintro e w' ⟨rfl, ⟨nd, rfl⟩⟩; refine ⟨_, rfl, ?_⟩))
    go_ret
    exact ⟨rA, bA⟩
   rw [if_neg c8] at H
   have c8b0 := decide_eq_false c8
   clear c8
   by_cases c13 : a0 = a1
   ·
    rw [if_pos c13] at H
    have c13b0 : (a0 == a1) = true := beq_iff_eq.mpr c13
    have c13b1 : (a0 != a1) = false := bne_eq_false_iff_eq.mpr c13
    clear c13
    obtain rfl := Option.some.inj H
    go_wp2
    go_ret
    exact ⟨rA, bA⟩
   rw [if_neg c13] at H
   have c13b0 : (a0 == a1) = false := beq_eq_false_iff_ne.mpr c13
   have c13b1 : (a0 != a1) = true := bne_iff_ne.mpr c13
   by_cases c14 : a0 = a2
   ·
    rw [if_pos c14] at H
    have c14b0 : (a0 == a2) = true := beq_iff_eq.mpr c14
    have c14b1 : (a0 != a2) = false := bne_eq_false_iff_eq.mpr c14
    clear c14
    obtain rfl := Option.some.inj H
    go_wp2
    go_ret
    exact ⟨rA, bA⟩
   rw [if_neg c14] at H
   have c14b0 : (a0 == a2) = false := beq_eq_false_iff_ne.mpr c14
   have c14b1 : (a0 != a2) = true := bne_iff_ne.mpr c14
   by_cases c15 : a0 = a3
   ·
    rw [if_pos c15] at H
    have c15b0 : (a0 == a3) = true := beq_iff_eq.mpr c15
    have c15b1 : (a0 != a3) = false := bne_eq_false_iff_eq.mpr c15
    clear c15
    obtain rfl := Option.some.inj H
    go_wp2
    go_ret
    exact ⟨rA, bA⟩
   rw [if_neg c15] at H
   have c15b0 : (a0 == a3) = false := beq_eq_false_iff_ne.mpr c15
   have c15b1 : (a0 != a3) = true := bne_iff_ne.mpr c15
   by_cases c16 : a1 = a2
   ·
    rw [if_pos c16] at H
    have c16b0 : (a1 == a2) = true := beq_iff_eq.mpr c16
    have c16b1 : (a1 != a2) = false := bne_eq_false_iff_eq.mpr c16
    clear c16
    obtain rfl := Option.some.inj H
    go_wp2
    go_ret
    exact ⟨rA, bA⟩
   rw [if_neg c16] at H
   have c16b0 : (a1 == a2) = false := beq_eq_false_iff_ne.mpr c16
   have c16b1 : (a1 != a2) = true := bne_iff_ne.mpr c16
   by_cases c17 : a1 = a3
   ·
    rw [if_pos c17] at H
    have c17b0 : (a1 == a3) = true := beq_iff_eq.mpr c17
    have c17b1 : (a1 != a3) = false := bne_eq_false_iff_eq.mpr c17
    clear c17
    obtain rfl := Option.some.inj H
    go_wp2
    go_ret
    exact ⟨rA, bA⟩
   rw [if_neg c17] at H
   have c17b0 : (a1 == a3) = false := beq_eq_false_iff_ne.mpr c17
   have c17b1 : (a1 != a3) = true := bne_iff_ne.mpr c17
   by_cases c18 : a2 = a3
   ·
    rw [if_pos c18] at H
    have c18b0 : (a2 == a3) = true := beq_iff_eq.mpr c18
    have c18b1 : (a2 != a3) = false := bne_eq_false_iff_eq.mpr c18
    clear c18
    obtain rfl := Option.some.inj H
    go_wp2
    go_ret
    exact ⟨rA, bA⟩
   rw [if_neg c18] at H
   have c18b0 : (a2 == a3) = false := beq_eq_false_iff_ne.mpr c18
   have c18b1 : (a2 != a3) = true := bne_iff_ne.mpr c18
   obtain rfl := Option.some.inj H
   go_wp2
   go_ret
   exact ⟨rA, bA⟩

/-! ### impl_InPlace: function 153 -/
def impl_InPlace.f (a0 : Int) : Option (Int) := (impl_InRange.f a0 0 3).bind fun t363 => (if t363 = true then (some (wrap64 (2 * a0))) else (some (-1)))
set_option maxHeartbeats 8000000 in
set_option maxRecDepth 100000 in
theorem impl_InPlace.calls (a0 : Int) (r : Int) (w : World) (h : impl_InPlace.f a0 = some r) :
  Calls Try.prog 153 #[.int .i64 a0] w fun e w' => e = .returned (.int .i64 r) ∧ Drawn0 w w' := by
 have H : ((impl_InRange.f a0 0 3).bind fun t363 => (if t363 = true then (some (wrap64 (2 * a0))) else (some (-1)))) = some r := h
 clear h
 obtain ⟨t363, A2, H⟩ := bindE H
 try dsimp only at H
 by_cases c3 : t363 = true
 ·
  subst c3
  have H1 : (some (wrap64 (2 * a0))) = some r := by rw [if_pos rfl] at H; exact H
  clear H
  have H := H1
  clear H1
  obtain rfl := Option.some.inj H
  go_enter Try.func153, Try.ntmps153
  go_wp2_with (first | ((with_reducible refine gate_callee (f := 66) rfl ?_); refine gL (some 4) Try.func66 #[.int .i64 a0, .int .i64 0, .int .i64 3] ?_; (with_reducible refine (impl_InRange.calls a0 0 3 true _ A2.out).mono ?_); rintro e w' ⟨rfl, ⟨nd, rfl⟩⟩; refine ⟨_, rfl, ?_⟩))
  go_ret
  exact ⟨rS, dD⟩
 replace c3 := Bool.eq_false_iff.mpr c3
 subst c3
 have H1 : (some (-1)) = some r := by rw [if_neg (show ¬ (false = true) by decide)] at H; exact H
 clear H
 have H := H1
 clear H1
 obtain rfl := Option.some.inj H
 go_enter Try.func153, Try.ntmps153
 go_wp2_with (first | ((with_reducible refine gate_callee (f := 66) rfl ?_); refine gL (some 4) Try.func66 #[.int .i64 a0, .int .i64 0, .int .i64 3] ?_; (with_reducible refine (impl_InRange.calls a0 0 3 false _ A2.out).mono ?_); rintro e w' ⟨rfl, ⟨nd, rfl⟩⟩; refine ⟨_, rfl, ?_⟩))
 go_ret
 exact ⟨rS, dD⟩

/-! ### impl_OutPlace: function 154 -/
def impl_OutPlace.f (a0 : Int) : Option (Int) := (impl_InRange.f a0 0 3).bind fun t364 => (if t364 = true then (some (wrap64 ((wrap64 (2 * a0)) + 1))) else (some (-1)))
set_option maxHeartbeats 8000000 in
set_option maxRecDepth 100000 in
theorem impl_OutPlace.calls (a0 : Int) (r : Int) (w : World) (h : impl_OutPlace.f a0 = some r) :
  Calls Try.prog 154 #[.int .i64 a0] w fun e w' => e = .returned (.int .i64 r) ∧ Drawn0 w w' := by
 have H : ((impl_InRange.f a0 0 3).bind fun t364 => (if t364 = true then (some (wrap64 ((wrap64 (2 * a0)) + 1))) else (some (-1)))) = some r := h
 clear h
 obtain ⟨t364, A2, H⟩ := bindE H
 try dsimp only at H
 by_cases c3 : t364 = true
 ·
  subst c3
  have H1 : (some (wrap64 ((wrap64 (2 * a0)) + 1))) = some r := by rw [if_pos rfl] at H; exact H
  clear H
  have H := H1
  clear H1
  obtain rfl := Option.some.inj H
  go_enter Try.func154, Try.ntmps154
  go_wp2_with (first | ((with_reducible refine gate_callee (f := 66) rfl ?_); refine gL (some 4) Try.func66 #[.int .i64 a0, .int .i64 0, .int .i64 3] ?_; (with_reducible refine (impl_InRange.calls a0 0 3 true _ A2.out).mono ?_); rintro e w' ⟨rfl, ⟨nd, rfl⟩⟩; refine ⟨_, rfl, ?_⟩))
  go_ret
  exact ⟨rS, dD⟩
 replace c3 := Bool.eq_false_iff.mpr c3
 subst c3
 have H1 : (some (-1)) = some r := by rw [if_neg (show ¬ (false = true) by decide)] at H; exact H
 clear H
 have H := H1
 clear H1
 obtain rfl := Option.some.inj H
 go_enter Try.func154, Try.ntmps154
 go_wp2_with (first | ((with_reducible refine gate_callee (f := 66) rfl ?_); refine gL (some 4) Try.func66 #[.int .i64 a0, .int .i64 0, .int .i64 3] ?_; (with_reducible refine (impl_InRange.calls a0 0 3 false _ A2.out).mono ?_); rintro e w' ⟨rfl, ⟨nd, rfl⟩⟩; refine ⟨_, rfl, ?_⟩))
 go_ret
 exact ⟨rS, dD⟩

/-! ### impl_Conflict: function 133 -/
def impl_Conflict.j0 : Nat → Bool → Int → Int → Int → Int → Int → Int → Int → Int → Option (Bool)
 | 0, _, _, _, _, _, _, _, _, _ => none
 | k + 1, x22, x366000, x366001, x366002, x366003, x367000, x367001, x367002, x367003 => if x22 = true then (some false) else (if x366001 = 2 then (if x367002 = x366002 then (some true) else (some (x367003 == x366002))) else (if x367001 = 2 then (if x366002 = x367002 then (some true) else (some (x366003 == x367002))) else (if x366002 = x367002 then ((impl_InPlace.f x366002).bind fun t369 => ((impl_OutPlace.f x366003).bind fun t370 => ((impl_InPlace.f x367002).bind fun t371 => ((impl_OutPlace.f x367003).bind fun t372 => ((impl_Interleave.f k t369 t370 t371 t372).bind fun t373 => (some t373)))))) else (if x366003 = x367003 then (some true) else ((impl_InPlace.f x366002).bind fun t374 => ((impl_OutPlace.f x366003).bind fun t375 => ((impl_InPlace.f x367002).bind fun t376 => ((impl_OutPlace.f x367003).bind fun t377 => ((impl_Interleave.f k t374 t375 t376 t377).bind fun t378 => (some t378))))))))))
def impl_Conflict.f (k : Nat) (a0_0 : Int) (a0_1 : Int) (a0_2 : Int) (a0_3 : Int) (a1_0 : Int) (a1_1 : Int) (a1_2 : Int) (a1_3 : Int) : Option (Bool) := (impl_IsPath.f a0_0 a0_1 a0_2 a0_3).bind fun t367 => (if t367 = true then ((impl_IsPath.f a1_0 a1_1 a1_2 a1_3).bind fun t368 => (if t368 = true then (if a0_1 = 2 then (impl_Conflict.j0 k (a1_1 == 2) a0_0 a0_1 a0_2 a0_3 a1_0 a1_1 a1_2 a1_3) else (impl_Conflict.j0 k false a0_0 a0_1 a0_2 a0_3 a1_0 a1_1 a1_2 a1_3)) else (impl_Conflict.j0 k true a0_0 a0_1 a0_2 a0_3 a1_0 a1_1 a1_2 a1_3))) else (impl_Conflict.j0 k true a0_0 a0_1 a0_2 a0_3 a1_0 a1_1 a1_2 a1_3))
theorem impl_Conflict.mono_l : ∀ k, (∀ y0 y1 y2 y3 y4 y5 y6 y7 y8, LeO (impl_Conflict.j0 k y0 y1 y2 y3 y4 y5 y6 y7 y8) (impl_Conflict.j0 (k + 1) y0 y1 y2 y3 y4 y5 y6 y7 y8))
 | 0 => fun _ _ _ _ _ _ _ _ _ r h => by simp [impl_Conflict.j0] at h
 | k + 1 => by
  have ih0 := impl_Conflict.mono_l k
  ·
   intro y0 y1 y2 y3 y4 y5 y6 y7 y8
   unfold impl_Conflict.j0
   exact mz2 ih0 impl_Interleave.mono
theorem impl_Conflict.mono : ∀ a0 a1 a2 a3 a4 a5 a6 a7 k, LeO (impl_Conflict.f k a0 a1 a2 a3 a4 a5 a6 a7) (impl_Conflict.f (k + 1) a0 a1 a2 a3 a4 a5 a6 a7) := by
 intro a0 a1 a2 a3 a4 a5 a6 a7 k
 have ih0 := impl_Conflict.mono_l k
 unfold impl_Conflict.f
 exact mz2 ih0 impl_Interleave.mono
def impl_Conflict.T7 : Bool × List (List Nat × List Nat) := (true, [([], []), ([0], [0]), ([], []), ([2], [2]), ([1, 3], [1, 3]), ([4], [4]), ([5], [5]), ([6, 5], [5, 6]), ([5], [5]), ([8, 5], [5, 8]), ([7, 9, 5], [5, 7, 9]), ([5, 10], [5, 10]), ([11, 5], [11]), ([12], [12]), ([13, 12], [12, 13]), ([14, 12, 12], [12, 14]), ([12], [12]), ([16, 12], [12, 16]), ([17, 15, 12], [12, 17]), ([12], [12]), ([19, 12], [12, 19]), ([20, 18, 12], [12, 20]), ([12], [12]), ([22, 12], [12, 22]), ([23, 21, 12], [12, 23]), ([15, 18, 21, 24, 24, 12], [12, 15, 18, 21, 24]), ([12, 25], [12, 25]), ([26, 25, 0, 1, 2, 3, 4, 5, 6, 7, 8, 9, 10, 11, 12, 13, 14, 15, 16, 17, 18, 19, 20, 21, 22, 23, 24, 25, 26], [26])])
def impl_Conflict.B7 : List Nat := [0, 1, 0, 4, 15, 31, 63, 127, 63, 319, 1023, 2047, 4095, 8191, 16383, 32767, 8191, 73727, 262143, 8191, 532479, 2097151, 8191, 4202495, 16777215, 33554431, 67108863, 134217727]
theorem impl_Conflict.tab7 : rtab .any (opsOf Try.f133 7) = impl_Conflict.T7 := by kernel_rfl
theorem impl_Conflict.bits7 : waitsOk impl_Conflict.T7.2 impl_Conflict.B7 = true := by kernel_rfl
set_option maxHeartbeats 8000000 in
set_option maxRecDepth 100000 in
theorem impl_Conflict.calls (k : Nat) (a0_0 : Int) (a0_1 : Int) (a0_2 : Int) (a0_3 : Int) (a1_0 : Int) (a1_1 : Int) (a1_2 : Int) (a1_3 : Int) (r : Bool) (w : World) (h : impl_Conflict.f k a0_0 a0_1 a0_2 a0_3 a1_0 a1_1 a1_2 a1_3 = some r) :
  Calls Try.prog 133 #[.agg #[.int .i64 a0_0, .int .i64 a0_1, .int .i64 a0_2, .int .i64 a0_3], .agg #[.int .i64 a1_0, .int .i64 a1_1, .int .i64 a1_2, .int .i64 a1_3]] w fun e w' => e = .returned (.bool r) ∧ Below w.heap.size w w' := by
 have hu89 := Try.underlying89
 have HB := Aside0.mk (Below.refl w.heap.size w)
 have H : ((impl_IsPath.f a0_0 a0_1 a0_2 a0_3).bind fun t367 => (if t367 = true then ((impl_IsPath.f a1_0 a1_1 a1_2 a1_3).bind fun t368 => (if t368 = true then (if a0_1 = 2 then (impl_Conflict.j0 k (a1_1 == 2) a0_0 a0_1 a0_2 a0_3 a1_0 a1_1 a1_2 a1_3) else (impl_Conflict.j0 k false a0_0 a0_1 a0_2 a0_3 a1_0 a1_1 a1_2 a1_3)) else (impl_Conflict.j0 k true a0_0 a0_1 a0_2 a0_3 a1_0 a1_1 a1_2 a1_3))) else (impl_Conflict.j0 k true a0_0 a0_1 a0_2 a0_3 a1_0 a1_1 a1_2 a1_3))) = some r := h
 clear h
 have HC3 := Aside0.mk H
 clear H
 go_enter Try.func133, Try.ntmps133
 go_upto_region 1 with (first | ((with_reducible refine gate_dst (N := 2) rfl ?_); refine bE (N := 2) (cs := #[.int .i64 a0_0, .int .i64 a0_1, .int .i64 a0_2, .int .i64 a0_3]) (t := 89) ?_; intro gb365 hg w4 hbox hb; have BK365 := Aside0.mk (hbox); have GW365 := gw w hg; have GE365 := gw w hg; replace HB := bs HB hb; clear hb hbox hg) | ((with_reducible refine gate_dst (N := 3) rfl ?_); refine bE (N := 3) (cs := #[.int .i64 a1_0, .int .i64 a1_1, .int .i64 a1_2, .int .i64 a1_3]) (t := 89) ?_; intro gb366 hg w5 hbox hb; have BK366 := Aside0.mk (hbox); have GW366 := gw w hg; have GE366 := gw w hg; replace HB := bs HB hb; have NB365_366 := nl BK365 hg; have NB366_365 := nr BK365 hg; replace BK365 := kb BK365 hb; clear hb hbox hg))
 (try simp only [Act.put, List.setIfInBounds_toArray, List.set_cons_zero, List.set_cons_succ])
 go_cut [22] (fun v22 wc => ∃ (kq : Nat) (x22_2 : Bool), v22 = .bool x22_2 ∧ Aside0 (impl_Conflict.j0 kq x22_2 a0_0 a0_1 a0_2 a0_3 a1_0 a1_1 a1_2 a1_3 = some r) ∧ Aside0 (kq ≤ k) ∧ Aside0 (wc.heap[gb365]? = some (.cells #[.int .i64 a0_0, .int .i64 a0_1, .int .i64 a0_2, .int .i64 a0_3] 89 (0, 0))) ∧ Aside0 (wc.heap[gb366]? = some (.cells #[.int .i64 a1_0, .int .i64 a1_1, .int .i64 a1_2, .int .i64 a1_3] 89 (0, 0))) ∧ Aside0 (Below w.heap.size w wc))
 case first =>
  have H := HC3.out
  clear HC3
  obtain ⟨t367, A6, H⟩ := bindE H
  try dsimp only at H
  by_cases c7 : t367 = true
  ·
   subst c7
   have H1 : ((impl_IsPath.f a1_0 a1_1 a1_2 a1_3).bind fun t368 => (if t368 = true then (if a0_1 = 2 then (impl_Conflict.j0 k (a1_1 == 2) a0_0 a0_1 a0_2 a0_3 a1_0 a1_1 a1_2 a1_3) else (impl_Conflict.j0 k false a0_0 a0_1 a0_2 a0_3 a1_0 a1_1 a1_2 a1_3)) else (impl_Conflict.j0 k true a0_0 a0_1 a0_2 a0_3 a1_0 a1_1 a1_2 a1_3))) = some r := by rw [if_pos rfl] at H; exact H
   clear H
   have H := H1
   clear H1
   obtain ⟨t368, A8, H⟩ := bindE H
   try dsimp only at H
   by_cases c9 : t368 = true
   ·
    subst c9
    have H1 : (if a0_1 = 2 then (impl_Conflict.j0 k (a1_1 == 2) a0_0 a0_1 a0_2 a0_3 a1_0 a1_1 a1_2 a1_3) else (impl_Conflict.j0 k false a0_0 a0_1 a0_2 a0_3 a1_0 a1_1 a1_2 a1_3)) = some r := by rw [if_pos rfl] at H; exact H
    clear H
    have H := H1
    clear H1
    by_cases c10 : a0_1 = 2
    ·
     rw [if_pos c10] at H
     have c10b0 : (a0_1 == 2) = true := beq_iff_eq.mpr c10
     have c10b1 : (a0_1 != 2) = false := bne_eq_false_iff_eq.mpr c10
     clear c10
     (first | rw [c10b0] | (simp only [i64_w, i32_w]; rw [c10b0]) | skip)
     have H' := Aside0.mk H
     clear H
     have hnb11 := NB365_366.out
     have hnc11 := NB366_365.out
     obtain ⟨_, _, _, _, _, _, _, _⟩ := blkc4 BK365
     go_wp2_with (first | ((with_reducible refine gate_callee (f := 146) rfl ?_); refine gL (some 6) Try.func146 #[.agg #[.int .i64 a0_0, .int .i64 a0_1, .int .i64 a0_2, .int .i64 a0_3]] ?_; (with_reducible refine (impl_IsPath.calls a0_0 a0_1 a0_2 a0_3 true _ A6.out).mono ?_); rintro e w13 ⟨rfl, hb⟩; refine ⟨_, rfl, ?_⟩; replace BK365 := kb BK365 hb; replace BK366 := kb BK366 hb; replace HB := bs HB hb; (try clear hb); obtain ⟨_, _, _, _, _, _, _, _⟩ := blkc4 BK366) | (go_at_call 146; (with_reducible refine (impl_IsPath.calls a1_0 a1_1 a1_2 a1_3 true _ A8.out).mono ?_); rintro e w15 ⟨rfl, hb⟩; replace BK365 := kb BK365 hb; replace BK366 := kb BK366 hb; replace HB := bs HB hb; (try clear hb); obtain ⟨_, _, _, _, _, _, _, _⟩ := blkc4 BK365; obtain ⟨_, _, _, _, _, _, _, _⟩ := blkc4 BK366))
     go_meet
     case rel => exact ⟨_, ((a1_1 == 2)), rS, H', ⟨oL⟩, ⟨bK BK365⟩, ⟨bK BK366⟩, ⟨bG⟩⟩
    rw [if_neg c10] at H
    have c10b0 : (a0_1 == 2) = false := beq_eq_false_iff_ne.mpr c10
    have c10b1 : (a0_1 != 2) = true := bne_iff_ne.mpr c10
    (first | rw [c10b0] | (simp only [i64_w, i32_w]; rw [c10b0]) | skip)
    have H' := Aside0.mk H
    clear H
    have hnb18 := NB365_366.out
    have hnc18 := NB366_365.out
    obtain ⟨_, _, _, _, _, _, _, _⟩ := blkc4 BK365
    go_wp2_with (first | ((with_reducible refine gate_callee (f := 146) rfl ?_); refine gL (some 6) Try.func146 #[.agg #[.int .i64 a0_0, .int .i64 a0_1, .int .i64 a0_2, .int .i64 a0_3]] ?_; (with_reducible refine (impl_IsPath.calls a0_0 a0_1 a0_2 a0_3 true _ A6.out).mono ?_); rintro e w20 ⟨rfl, hb⟩; refine ⟨_, rfl, ?_⟩; replace BK365 := kb BK365 hb; replace BK366 := kb BK366 hb; replace HB := bs HB hb; (try clear hb); obtain ⟨_, _, _, _, _, _, _, _⟩ := blkc4 BK366) | (go_at_call 146; (with_reducible refine (impl_IsPath.calls a1_0 a1_1 a1_2 a1_3 true _ A8.out).mono ?_); rintro e w22 ⟨rfl, hb⟩; replace BK365 := kb BK365 hb; replace BK366 := kb BK366 hb; replace HB := bs HB hb; (try clear hb); obtain ⟨_, _, _, _, _, _, _, _⟩ := blkc4 BK365))
    go_meet
    case rel => exact ⟨_, (false), rS, H', ⟨oL⟩, ⟨bK BK365⟩, ⟨bK BK366⟩, ⟨bG⟩⟩
   replace c9 := Bool.eq_false_iff.mpr c9
   subst c9
   have H1 : (impl_Conflict.j0 k true a0_0 a0_1 a0_2 a0_3 a1_0 a1_1 a1_2 a1_3) = some r := by rw [if_neg (show ¬ (false = true) by decide)] at H; exact H
   clear H
   have H := H1
   clear H1
   have H' := Aside0.mk H
   clear H
   have hnb24 := NB365_366.out
   have hnc24 := NB366_365.out
   obtain ⟨_, _, _, _, _, _, _, _⟩ := blkc4 BK365
   go_wp2_with (first | ((with_reducible refine gate_callee (f := 146) rfl ?_); refine gL (some 6) Try.func146 #[.agg #[.int .i64 a0_0, .int .i64 a0_1, .int .i64 a0_2, .int .i64 a0_3]] ?_; (with_reducible refine (impl_IsPath.calls a0_0 a0_1 a0_2 a0_3 true _ A6.out).mono ?_); rintro e w26 ⟨rfl, hb⟩; refine ⟨_, rfl, ?_⟩; replace BK365 := kb BK365 hb; replace BK366 := kb BK366 hb; replace HB := bs HB hb; (try clear hb); obtain ⟨_, _, _, _, _, _, _, _⟩ := blkc4 BK366) | (go_at_call 146; (with_reducible refine (impl_IsPath.calls a1_0 a1_1 a1_2 a1_3 false _ A8.out).mono ?_); rintro e w28 ⟨rfl, hb⟩; replace BK365 := kb BK365 hb; replace BK366 := kb BK366 hb; replace HB := bs HB hb; (try clear hb)))
   go_meet
   case rel => exact ⟨_, (true), rS, H', ⟨oL⟩, ⟨bK BK365⟩, ⟨bK BK366⟩, ⟨bG⟩⟩
  replace c7 := Bool.eq_false_iff.mpr c7
  subst c7
  have H1 : (impl_Conflict.j0 k true a0_0 a0_1 a0_2 a0_3 a1_0 a1_1 a1_2 a1_3) = some r := by rw [if_neg (show ¬ (false = true) by decide)] at H; exact H
  clear H
  have H := H1
  clear H1
  have H' := Aside0.mk H
  clear H
  have hnb29 := NB365_366.out
  have hnc29 := NB366_365.out
  obtain ⟨_, _, _, _, _, _, _, _⟩ := blkc4 BK365
  go_wp2_with (first | ((with_reducible refine gate_callee (f := 146) rfl ?_); refine gL (some 6) Try.func146 #[.agg #[.int .i64 a0_0, .int .i64 a0_1, .int .i64 a0_2, .int .i64 a0_3]] ?_; (with_reducible refine (impl_IsPath.calls a0_0 a0_1 a0_2 a0_3 false _ A6.out).mono ?_); rintro e w31 ⟨rfl, hb⟩; refine ⟨_, rfl, ?_⟩; replace BK365 := kb BK365 hb; replace BK366 := kb BK366 hb; replace HB := bs HB hb; (try clear hb)))
  go_meet
  case rel => exact ⟨_, (true), rS, H', ⟨oL⟩, ⟨bK BK365⟩, ⟨bK BK366⟩, ⟨bG⟩⟩
 case rest =>
  clear HC3
  obtain ⟨kq, x22_2, rfl, HA, HJ2, BK365, BK366, HB⟩ := hcut
  cases kq with
  | zero => exact absurd HA.out (by simp [impl_Conflict.j0])
  | succ kj2 =>
   have H := HA.out
   clear HA
   simp only [impl_Conflict.j0] at H
   by_cases c32 : x22_2 = true
   ·
    subst c32
    have H1 : (some false) = some r := by rw [if_pos rfl] at H; exact H
    clear H
    have H := H1
    clear H1
    obtain rfl := Option.some.inj H
    go_wp2
    go_ret
    exact ⟨rA, bG⟩
   replace c32 := Bool.eq_false_iff.mpr c32
   subst c32
   have H1 : (if a0_1 = 2 then (if a1_2 = a0_2 then (some true) else (some (a1_3 == a0_2))) else (if a1_1 = 2 then (if a0_2 = a1_2 then (some true) else (some (a0_3 == a1_2))) else (if a0_2 = a1_2 then ((impl_InPlace.f a0_2).bind fun t369 => ((impl_OutPlace.f a0_3).bind fun t370 => ((impl_InPlace.f a1_2).bind fun t371 => ((impl_OutPlace.f a1_3).bind fun t372 => ((impl_Interleave.f kj2 t369 t370 t371 t372).bind fun t373 => (some t373)))))) else (if a0_3 = a1_3 then (some true) else ((impl_InPlace.f a0_2).bind fun t374 => ((impl_OutPlace.f a0_3).bind fun t375 => ((impl_InPlace.f a1_2).bind fun t376 => ((impl_OutPlace.f a1_3).bind fun t377 => ((impl_Interleave.f kj2 t374 t375 t376 t377).bind fun t378 => (some t378)))))))))) = some r := by rw [if_neg (show ¬ (false = true) by decide)] at H; exact H
   clear H
   have H := H1
   clear H1
   by_cases c33 : a0_1 = 2
   ·
    rw [if_pos c33] at H
    have c33b0 : (a0_1 == 2) = true := beq_iff_eq.mpr c33
    have c33b1 : (a0_1 != 2) = false := bne_eq_false_iff_eq.mpr c33
    clear c33
    by_cases c34 : a1_2 = a0_2
    ·
     rw [if_pos c34] at H
     have c34b0 : (a1_2 == a0_2) = true := beq_iff_eq.mpr c34
     have c34b1 : (a1_2 != a0_2) = false := bne_eq_false_iff_eq.mpr c34
     clear c34
     obtain rfl := Option.some.inj H
     have hnb35 := NB365_366.out
     have hnc35 := NB366_365.out
     obtain ⟨_, _, _, _, _, _, _, _⟩ := blkc4 BK365
     obtain ⟨_, _, _, _, _, _, _, _⟩ := blkc4 BK366
     go_wp2
     go_ret
     exact ⟨rA, bG⟩
    rw [if_neg c34] at H
    have c34b0 : (a1_2 == a0_2) = false := beq_eq_false_iff_ne.mpr c34
    have c34b1 : (a1_2 != a0_2) = true := bne_iff_ne.mpr c34
    obtain rfl := Option.some.inj H
    have hnb38 := NB365_366.out
    have hnc38 := NB366_365.out
    obtain ⟨_, _, _, _, _, _, _, _⟩ := blkc4 BK365
    obtain ⟨_, _, _, _, _, _, _, _⟩ := blkc4 BK366
    go_wp2
    go_ret
    exact ⟨rA, bG⟩
   rw [if_neg c33] at H
   have c33b0 : (a0_1 == 2) = false := beq_eq_false_iff_ne.mpr c33
   have c33b1 : (a0_1 != 2) = true := bne_iff_ne.mpr c33
   by_cases c41 : a1_1 = 2
   ·
    rw [if_pos c41] at H
    have c41b0 : (a1_1 == 2) = true := beq_iff_eq.mpr c41
    have c41b1 : (a1_1 != 2) = false := bne_eq_false_iff_eq.mpr c41
    clear c41
    by_cases c42 : a0_2 = a1_2
    ·
     rw [if_pos c42] at H
     have c42b0 : (a0_2 == a1_2) = true := beq_iff_eq.mpr c42
     have c42b1 : (a0_2 != a1_2) = false := bne_eq_false_iff_eq.mpr c42
     clear c42
     obtain rfl := Option.some.inj H
     have hnb43 := NB365_366.out
     have hnc43 := NB366_365.out
     obtain ⟨_, _, _, _, _, _, _, _⟩ := blkc4 BK365
     obtain ⟨_, _, _, _, _, _, _, _⟩ := blkc4 BK366
     go_wp2
     go_ret
     exact ⟨rA, bG⟩
    rw [if_neg c42] at H
    have c42b0 : (a0_2 == a1_2) = false := beq_eq_false_iff_ne.mpr c42
    have c42b1 : (a0_2 != a1_2) = true := bne_iff_ne.mpr c42
    obtain rfl := Option.some.inj H
    have hnb46 := NB365_366.out
    have hnc46 := NB366_365.out
    obtain ⟨_, _, _, _, _, _, _, _⟩ := blkc4 BK365
    obtain ⟨_, _, _, _, _, _, _, _⟩ := blkc4 BK366
    go_wp2
    go_ret
    exact ⟨rA, bG⟩
   rw [if_neg c41] at H
   have c41b0 : (a1_1 == 2) = false := beq_eq_false_iff_ne.mpr c41
   have c41b1 : (a1_1 != 2) = true := bne_iff_ne.mpr c41
   by_cases c49 : a0_2 = a1_2
   ·
    rw [if_pos c49] at H
    have c49b0 : (a0_2 == a1_2) = true := beq_iff_eq.mpr c49
    have c49b1 : (a0_2 != a1_2) = false := bne_eq_false_iff_eq.mpr c49
    clear c49
    obtain ⟨t369, A50, H⟩ := bindE H
    try dsimp only at H
    obtain ⟨t370, A51, H⟩ := bindE H
    try dsimp only at H
    obtain ⟨t371, A52, H⟩ := bindE H
    try dsimp only at H
    obtain ⟨t372, A53, H⟩ := bindE H
    try dsimp only at H
    obtain ⟨t373, A54, H⟩ := bindE H
    try dsimp only at H
    obtain rfl := Option.some.inj H
    have hnb55 := NB365_366.out
    have hnc55 := NB366_365.out
    obtain ⟨_, _, _, _, _, _, _, _⟩ := blkc4 BK365
    obtain ⟨_, _, _, _, _, _, _, _⟩ := blkc4 BK366
    try go_wp2
    replace BK365 := dk BK365
    replace BK366 := dk BK366
    have HBo := HB
    replace HB := db HB
    refine sw (ds := []) 28 (mb 28 0) impl_Conflict.tab7 impl_Conflict.bits7 (h4c BK365 (h4 BK366)) (fun hHeld HT_ HW_ => ?_)
    generalize wc.drew = w58 at BK365 BK366 HB hHeld ⊢
    refine pa 0 53 (mb 28 1) HT_ ?_
    refine pa 2 55 (mb 28 5) HT_ ?_
    refine ta8 1 54 (mb 28 7) HT_ HW_ hHeld ?_
    refine ta8 3 56 (mb 28 15) HT_ HW_ hHeld ?_
    refine pa 4 57 (mb 28 31) HT_ ?_
    refine pa 5 58 (mb 28 63) HT_ ?_
    refine pu 6 59 (mb 28 127) HT_ ?_
    refine pu 7 60 (mb 28 255) HT_ ?_
    refine pu 8 61 (mb 28 511) HT_ ?_
    refine pu 9 62 (mb 28 1023) HT_ ?_
    refine pu 10 63 (mb 28 2047) HT_ ?_
    refine pa 11 64 (mb 28 4095) HT_ ?_
    refine pa 12 65 (mb 28 8191) HT_ ?_
    refine pa 13 66 (mb 28 16383) HT_ ?_
    refine pa 16 69 (mb 28 81919) HT_ ?_
    refine pa 19 72 (mb 28 606207) HT_ ?_
    refine pa 22 75 (mb 28 4800511) HT_ ?_
    refine ta8 14 67 (mb 28 4816895) HT_ HW_ hHeld ?_
    refine ta8 17 70 (mb 28 4947967) HT_ HW_ hHeld ?_
    refine ta8 20 73 (mb 28 5996543) HT_ HW_ hHeld ?_
    refine ta8 23 76 (mb 28 14385151) HT_ HW_ hHeld ?_
    refine oa 15 68 (mb 28 14417919) HT_ (fun K hK => ?_)
    refine gA Try.func153 #[.int .i64 a0_2] ?_
    with_reducible refine (impl_InPlace.calls a0_2 t369 _ A50.out).mono ?_
    rintro e w' ⟨rfl, ⟨nd, rfl⟩⟩
    refine ⟨_, rfl, ?_⟩
    refine hK.out _ _ (cm4 BK365 (cn4 BK366)) (fun hHeld => ?_)
    clear hK K
    refine nB ?_
    refine oa 18 71 (mb 28 14680063) HT_ (fun K hK => ?_)
    refine gA Try.func154 #[.int .i64 a0_3] ?_
    with_reducible refine (impl_OutPlace.calls a0_3 t370 _ A51.out).mono ?_
    rintro e w' ⟨rfl, ⟨nd, rfl⟩⟩
    refine ⟨_, rfl, ?_⟩
    refine hK.out _ _ (cm4 BK365 (cn4 BK366)) (fun hHeld => ?_)
    clear hK K
    refine nB ?_
    refine oa 21 74 (mb 28 16777215) HT_ (fun K hK => ?_)
    refine gA Try.func153 #[.int .i64 a1_2] ?_
    with_reducible refine (impl_InPlace.calls a1_2 t371 _ A52.out).mono ?_
    rintro e w' ⟨rfl, ⟨nd, rfl⟩⟩
    refine ⟨_, rfl, ?_⟩
    refine hK.out _ _ (cm4 BK365 (cn4 BK366)) (fun hHeld => ?_)
    clear hK K
    refine nB ?_
    refine oa 24 77 (mb 28 33554431) HT_ (fun K hK => ?_)
    refine gA Try.func154 #[.int .i64 a1_3] ?_
    with_reducible refine (impl_OutPlace.calls a1_3 t372 _ A53.out).mono ?_
    rintro e w' ⟨rfl, ⟨nd, rfl⟩⟩
    refine ⟨_, rfl, ?_⟩
    refine hK.out _ _ (cm4 BK365 (cn4 BK366)) (fun hHeld => ?_)
    clear hK K
    refine nB ?_
    refine oa 25 78 (mb 28 67108863) HT_ (fun K hK => ?_)
    refine gA Try.func152 #[.int .i64 t369, .int .i64 t370, .int .i64 t371, .int .i64 t372] ?_
    with_reducible refine (impl_Interleave.calls kj2 t369 t370 t371 t372 t373 _ A54.out).mono ?_
    rintro e w59 ⟨rfl, hb⟩
    refine ⟨_, rfl, ?_⟩
    replace BK365 := kb BK365 hb
    replace BK366 := kb BK366 hb
    replace HB := bs HB hb
    (try clear hb)
    (try clear hb2)
    (try clear hk)
    (try clear hi)
    refine hK.out _ _ (cm4 BK365 (cn4 BK366)) (fun hHeld => ?_)
    clear hK K
    refine nB ?_
    refine pa 26 79 (mb 28 134217727) HT_ ?_
    refine pa 27 4 (mb 28 268435455) HT_ ?_
    refine eA HT_ ?_
    try go_wp2
    go_ret
    exact ⟨rA, bG⟩
   rw [if_neg c49] at H
   have c49b0 : (a0_2 == a1_2) = false := beq_eq_false_iff_ne.mpr c49
   have c49b1 : (a0_2 != a1_2) = true := bne_iff_ne.mpr c49
   by_cases c60 : a0_3 = a1_3
   ·
    rw [if_pos c60] at H
    have c60b0 : (a0_3 == a1_3) = true := beq_iff_eq.mpr c60
    have c60b1 : (a0_3 != a1_3) = false := bne_eq_false_iff_eq.mpr c60
    clear c60
    obtain rfl := Option.some.inj H
    have hnb61 := NB365_366.out
    have hnc61 := NB366_365.out
    obtain ⟨_, _, _, _, _, _, _, _⟩ := blkc4 BK365
    obtain ⟨_, _, _, _, _, _, _, _⟩ := blkc4 BK366
    try go_wp2
    replace BK365 := dk BK365
    replace BK366 := dk BK366
    have HBo := HB
    replace HB := db HB
    refine sw (ds := []) 28 (mb 28 0) impl_Conflict.tab7 impl_Conflict.bits7 (h4c BK365 (h4 BK366)) (fun hHeld HT_ HW_ => ?_)
    generalize wc.drew = w64 at BK365 BK366 HB hHeld ⊢
    refine pa 0 53 (mb 28 1) HT_ ?_
    refine pa 2 55 (mb 28 5) HT_ ?_
    refine ta8 1 54 (mb 28 7) HT_ HW_ hHeld ?_
    refine ta8 3 56 (mb 28 15) HT_ HW_ hHeld ?_
    refine pa 4 57 (mb 28 31) HT_ ?_
    refine pa 5 58 (mb 28 63) HT_ ?_
    refine pa 6 59 (mb 28 127) HT_ ?_
    refine pa 8 61 (mb 28 383) HT_ ?_
    refine ta8 7 60 (mb 28 511) HT_ HW_ hHeld ?_
    refine ta8 9 62 (mb 28 1023) HT_ HW_ hHeld ?_
    refine pa 10 63 (mb 28 2047) HT_ ?_
    refine pa 11 64 (mb 28 4095) HT_ ?_
    refine pa 12 65 (mb 28 8191) HT_ ?_
    refine pu 13 66 (mb 28 16383) HT_ ?_
    refine pu 14 67 (mb 28 32767) HT_ ?_
    refine pu 15 68 (mb 28 65535) HT_ ?_
    refine pu 16 69 (mb 28 131071) HT_ ?_
    refine pu 17 70 (mb 28 262143) HT_ ?_
    refine pu 18 71 (mb 28 524287) HT_ ?_
    refine pu 19 72 (mb 28 1048575) HT_ ?_
    refine pu 20 73 (mb 28 2097151) HT_ ?_
    refine pu 21 74 (mb 28 4194303) HT_ ?_
    refine pu 22 75 (mb 28 8388607) HT_ ?_
    refine pu 23 76 (mb 28 16777215) HT_ ?_
    refine pu 24 77 (mb 28 33554431) HT_ ?_
    refine pu 25 78 (mb 28 67108863) HT_ ?_
    refine pa 26 79 (mb 28 134217727) HT_ ?_
    refine pa 27 4 (mb 28 268435455) HT_ ?_
    refine eA HT_ ?_
    try go_wp2
    go_ret
    exact ⟨rA, bG⟩
   rw [if_neg c60] at H
   have c60b0 : (a0_3 == a1_3) = false := beq_eq_false_iff_ne.mpr c60
   have c60b1 : (a0_3 != a1_3) = true := bne_iff_ne.mpr c60
   obtain ⟨t374, A65, H⟩ := bindE H
   try dsimp only at H
   obtain ⟨t375, A66, H⟩ := bindE H
   try dsimp only at H
   obtain ⟨t376, A67, H⟩ := bindE H
   try dsimp only at H
   obtain ⟨t377, A68, H⟩ := bindE H
   try dsimp only at H
   obtain ⟨t378, A69, H⟩ := bindE H
   try dsimp only at H
   obtain rfl := Option.some.inj H
   have hnb70 := NB365_366.out
   have hnc70 := NB366_365.out
   obtain ⟨_, _, _, _, _, _, _, _⟩ := blkc4 BK365
   obtain ⟨_, _, _, _, _, _, _, _⟩ := blkc4 BK366
   try go_wp2
   replace BK365 := dk BK365
   replace BK366 := dk BK366
   have HBo := HB
   replace HB := db HB
   refine sw (ds := []) 28 (mb 28 0) impl_Conflict.tab7 impl_Conflict.bits7 (h4c BK365 (h4 BK366)) (fun hHeld HT_ HW_ => ?_)
   generalize wc.drew = w73 at BK365 BK366 HB hHeld ⊢
   refine pa 0 53 (mb 28 1) HT_ ?_
   refine pa 2 55 (mb 28 5) HT_ ?_
   refine ta8 1 54 (mb 28 7) HT_ HW_ hHeld ?_
   refine ta8 3 56 (mb 28 15) HT_ HW_ hHeld ?_
   refine pa 4 57 (mb 28 31) HT_ ?_
   refine pa 5 58 (mb 28 63) HT_ ?_
   refine pa 6 59 (mb 28 127) HT_ ?_
   refine pa 8 61 (mb 28 383) HT_ ?_
   refine ta8 7 60 (mb 28 511) HT_ HW_ hHeld ?_
   refine ta8 9 62 (mb 28 1023) HT_ HW_ hHeld ?_
   refine pa 10 63 (mb 28 2047) HT_ ?_
   refine pa 11 64 (mb 28 4095) HT_ ?_
   refine pa 12 65 (mb 28 8191) HT_ ?_
   refine pa 13 66 (mb 28 16383) HT_ ?_
   refine pa 16 69 (mb 28 81919) HT_ ?_
   refine pa 19 72 (mb 28 606207) HT_ ?_
   refine pa 22 75 (mb 28 4800511) HT_ ?_
   refine ta8 14 67 (mb 28 4816895) HT_ HW_ hHeld ?_
   refine ta8 17 70 (mb 28 4947967) HT_ HW_ hHeld ?_
   refine ta8 20 73 (mb 28 5996543) HT_ HW_ hHeld ?_
   refine ta8 23 76 (mb 28 14385151) HT_ HW_ hHeld ?_
   refine oa 15 68 (mb 28 14417919) HT_ (fun K hK => ?_)
   refine gA Try.func153 #[.int .i64 a0_2] ?_
   with_reducible refine (impl_InPlace.calls a0_2 t374 _ A65.out).mono ?_
   rintro e w' ⟨rfl, ⟨nd, rfl⟩⟩
   refine ⟨_, rfl, ?_⟩
   refine hK.out _ _ (cm4 BK365 (cn4 BK366)) (fun hHeld => ?_)
   clear hK K
   refine nB ?_
   refine oa 18 71 (mb 28 14680063) HT_ (fun K hK => ?_)
   refine gA Try.func154 #[.int .i64 a0_3] ?_
   with_reducible refine (impl_OutPlace.calls a0_3 t375 _ A66.out).mono ?_
   rintro e w' ⟨rfl, ⟨nd, rfl⟩⟩
   refine ⟨_, rfl, ?_⟩
   refine hK.out _ _ (cm4 BK365 (cn4 BK366)) (fun hHeld => ?_)
   clear hK K
   refine nB ?_
   refine oa 21 74 (mb 28 16777215) HT_ (fun K hK => ?_)
   refine gA Try.func153 #[.int .i64 a1_2] ?_
   with_reducible refine (impl_InPlace.calls a1_2 t376 _ A67.out).mono ?_
   rintro e w' ⟨rfl, ⟨nd, rfl⟩⟩
   refine ⟨_, rfl, ?_⟩
   refine hK.out _ _ (cm4 BK365 (cn4 BK366)) (fun hHeld => ?_)
   clear hK K
   refine nB ?_
   refine oa 24 77 (mb 28 33554431) HT_ (fun K hK => ?_)
   refine gA Try.func154 #[.int .i64 a1_3] ?_
   with_reducible refine (impl_OutPlace.calls a1_3 t377 _ A68.out).mono ?_
   rintro e w' ⟨rfl, ⟨nd, rfl⟩⟩
   refine ⟨_, rfl, ?_⟩
   refine hK.out _ _ (cm4 BK365 (cn4 BK366)) (fun hHeld => ?_)
   clear hK K
   refine nB ?_
   refine oa 25 78 (mb 28 67108863) HT_ (fun K hK => ?_)
   refine gA Try.func152 #[.int .i64 t374, .int .i64 t375, .int .i64 t376, .int .i64 t377] ?_
   with_reducible refine (impl_Interleave.calls kj2 t374 t375 t376 t377 t378 _ A69.out).mono ?_
   rintro e w74 ⟨rfl, hb⟩
   refine ⟨_, rfl, ?_⟩
   replace BK365 := kb BK365 hb
   replace BK366 := kb BK366 hb
   replace HB := bs HB hb
   (try clear hb)
   (try clear hb2)
   (try clear hk)
   (try clear hi)
   refine hK.out _ _ (cm4 BK365 (cn4 BK366)) (fun hHeld => ?_)
   clear hK K
   refine nB ?_
   refine pa 26 79 (mb 28 134217727) HT_ ?_
   refine pa 27 4 (mb 28 268435455) HT_ ?_
   refine eA HT_ ?_
   try go_wp2
   go_ret
   exact ⟨rA, bG⟩

/-! ### impl_IsTogether: function 87 -/
mutual
def impl_IsTogether.l0 : Nat → List (S89) → List Int → List Int → Int → Int → Option (Bool)
 | 0, _, _, _, _, _ => none
 | k + 1, x0, x1, x13, x14, x15 => if x15 < x14 then (if 0 ≤ x15 then (if x15 < (x13.length : Int) then ((impl_FindPath.f x0 (rd x13 x15)).bind fun t381 => (if t381 < 0 then (impl_IsTogether.j1 k x0 x1 x15 t381 x13 x14 x15 true) else (if x15 > 0 then (if 0 ≤ (wrap64 (x15 - 1)) then (if (wrap64 (x15 - 1)) < (x1.length : Int) then (impl_IsTogether.j1 k x0 x1 x15 t381 x13 x14 x15 (decide ((rd x13 x15) ≤ (rd x1 (wrap64 (x15 - 1)))))) else (none)) else (none)) else (impl_IsTogether.j1 k x0 x1 x15 t381 x13 x14 x15 false)))) else (none)) else (none)) else (some true)
def impl_IsTogether.j1 : Nat → List (S89) → List Int → Int → Int → List Int → Int → Int → Bool → Option (Bool)
 | 0, _, _, _, _, _, _, _, _ => none
 | k + 1, x0, x1, x5, x7, x13, x14, x15, x37 => if x37 = true then (some false) else (if 0 ≤ x5 then (if x5 ≤ (x1.length : Int) then (impl_IsTogether.l1 k x0 x1 x7 x13 x14 x15 (x1.take (x5 : Int).toNat) ((x1.take (x5 : Int).toNat).length : Int) 0) else (none)) else (none))
def impl_IsTogether.l1 : Nat → List (S89) → List Int → Int → List Int → Int → Int → List Int → Int → Int → Option (Bool)
 | 0, _, _, _, _, _, _, _, _, _ => none
 | k + 1, x0, x1, x7, x13, x14, x15, x40, x41, x42 => if x42 < x41 then (if 0 ≤ x42 then (if x42 < (x40.length : Int) then (if 0 ≤ x7 then (if x7 < (x0.length : Int) then ((impl_FindPath.f x0 (rd x40 x42)).bind fun t386 => (if 0 ≤ t386 then (if t386 < (x0.length : Int) then ((impl_Conflict.f k ((rd_T89 x0 x7).f0) ((rd_T89 x0 x7).f1) ((rd_T89 x0 x7).f2) ((rd_T89 x0 x7).f3) ((rd_T89 x0 t386).f0) ((rd_T89 x0 t386).f1) ((rd_T89 x0 t386).f2) ((rd_T89 x0 t386).f3)).bind fun t388 => (if t388 = true then (some false) else (impl_IsTogether.l1 k x0 x1 x7 x13 x14 x15 x40 x41 (wrap64 (x42 + 1))))) else (none)) else (none))) else (none)) else (none)) else (none)) else (none)) else (impl_IsTogether.l0 k x0 x1 x13 x14 (wrap64 (x15 + 1)))
end
def impl_IsTogether.f (k : Nat) (l0 : List (S89)) (l1 : List Int) : Option (Bool) := (impl_ArePaths.f k l0).bind fun t379 => (if t379 = true then (impl_IsTogether.l0 k l0 l1 l1 (l1.length : Int) 0) else (some false))
theorem impl_IsTogether.mono_l : ∀ k, (∀ y0 y1 y2 y3 y4, LeO (impl_IsTogether.l0 k y0 y1 y2 y3 y4) (impl_IsTogether.l0 (k + 1) y0 y1 y2 y3 y4)) ∧ (∀ y0 y1 y2 y3 y4 y5 y6 y7, LeO (impl_IsTogether.j1 k y0 y1 y2 y3 y4 y5 y6 y7) (impl_IsTogether.j1 (k + 1) y0 y1 y2 y3 y4 y5 y6 y7)) ∧ (∀ y0 y1 y2 y3 y4 y5 y6 y7 y8, LeO (impl_IsTogether.l1 k y0 y1 y2 y3 y4 y5 y6 y7 y8) (impl_IsTogether.l1 (k + 1) y0 y1 y2 y3 y4 y5 y6 y7 y8))
 | 0 => ⟨fun _ _ _ _ _ r h => by simp [impl_IsTogether.l0] at h, fun _ _ _ _ _ _ _ _ r h => by simp [impl_IsTogether.j1] at h, fun _ _ _ _ _ _ _ _ _ r h => by simp [impl_IsTogether.l1] at h⟩
 | k + 1 => by
  obtain ⟨ih0, ih1, ih2⟩ := impl_IsTogether.mono_l k
  refine ⟨?_, ?_, ?_⟩
  ·
   intro y0 y1 y2 y3 y4
   unfold impl_IsTogether.l0
   exact mz5 ih0 ih1 ih2 impl_ArePaths.mono impl_Conflict.mono
  ·
   intro y0 y1 y2 y3 y4 y5 y6 y7
   unfold impl_IsTogether.j1
   exact mz5 ih0 ih1 ih2 impl_ArePaths.mono impl_Conflict.mono
  ·
   intro y0 y1 y2 y3 y4 y5 y6 y7 y8
   unfold impl_IsTogether.l1
   exact mz5 ih0 ih1 ih2 impl_ArePaths.mono impl_Conflict.mono
theorem impl_IsTogether.mono : ∀ a0 a1 k, LeO (impl_IsTogether.f k a0 a1) (impl_IsTogether.f (k + 1) a0 a1) := by
 intro a0 a1 k
 obtain ⟨ih0, ih1, ih2⟩ := impl_IsTogether.mono_l k
 unfold impl_IsTogether.f
 exact mz5 ih0 ih1 ih2 impl_ArePaths.mono impl_Conflict.mono
def impl_IsTogether.T12 : Bool × List (List Nat × List Nat) := (true, [([], []), ([], []), ([0, 1], [0, 1]), ([2], [2]), ([], []), ([], []), ([], []), ([5, 6], [5, 6]), ([4, 7], [4, 7]), ([8], [8]), ([3, 9, 7], [3, 9])])
def impl_IsTogether.B12 : List Nat := [0, 0, 3, 7, 0, 0, 0, 96, 240, 496, 1023]
theorem impl_IsTogether.tab12 : rtab .any (opsOf Try.f87 12) = impl_IsTogether.T12 := by kernel_rfl
theorem impl_IsTogether.bits12 : waitsOk impl_IsTogether.T12.2 impl_IsTogether.B12 = true := by kernel_rfl
set_option maxHeartbeats 8000000 in
set_option maxRecDepth 100000 in
theorem impl_IsTogether.calls (k : Nat) (A0 : Option Addr) (c0 : Nat) (l0 : List (S89)) (A1 : Option Addr) (c1 : Nat) (l1 : List Int) (r : Bool) (w : World) (hr0 : Kd.C k89 w A0 l0.length l0) (hc0 : l0.length ≤ c0) (hr1 : Kd.C (Kd.int .i64) w A1 l1.length l1) (hc1 : l1.length ≤ c1) (h : impl_IsTogether.f k l0 l1 = some r) :
  Calls Try.prog 87 #[.slice A0 l0.length c0, .slice A1 l1.length c1] w fun e w' => e = .returned (.bool r) ∧ Below w.heap.size w w' := by
 have hu89 := Try.underlying89
 have HR0 := Aside0.mk hr0
 have HC0 := Aside0.mk hc0
 clear hr0 hc0
 have HR1 := Aside0.mk hr1
 have HC1 := Aside0.mk hc1
 clear hr1 hc1
 have HB := Aside0.mk (Below.refl w.heap.size w)
 have H : ((impl_ArePaths.f k l0).bind fun t379 => (if t379 = true then (impl_IsTogether.l0 k l0 l1 l1 (l1.length : Int) 0) else (some false))) = some r := h
 clear h
 obtain ⟨t379, A3, H⟩ := bindE H
 try dsimp only at H
 by_cases c4 : t379 = true
 ·
  subst c4
  have H1 : (impl_IsTogether.l0 k l0 l1 l1 (l1.length : Int) 0) = some r := by rw [if_pos rfl] at H; exact H
  clear H
  have H := H1
  clear H1
  have H' := Aside0.mk H
  clear H
  go_enter Try.func87, Try.ntmps87
  go_wp2_with (first | ((with_reducible refine gate_callee (f := 126) rfl ?_); refine gL (some 11) Try.func126 #[.slice A0 l0.length c0] ?_; (with_reducible refine (impl_ArePaths.calls k _ _ l0 true _ ?_ ?_ A3.out).mono ?_); exact cO HR0; exact HC0.out; rintro e w5 ⟨rfl, hb⟩; refine ⟨_, rfl, ?_⟩; replace HB := bs HB hb; (try clear hb)))
  go_loopg [15] k (fun kq v15 w' => ∃ (x15_1 : Int), v15 = .int .i64 x15_1 ∧ Aside0 (impl_IsTogether.l0 kq l0 l1 l1 (l1.length : Int) x15_1 = some r) ∧ Aside0 (kq ≤ k) ∧ Aside0 (Below w.heap.size w w'))
  case atStart => exact ⟨(0), rS, H', ⟨Nat.le_refl _⟩, ⟨bA⟩⟩
  case round =>
   clear H'
   obtain ⟨x15_1, rfl, HA, HK1, HB⟩ := hrel
   cases gk with
   | zero => exact absurd HA.out (by simp [impl_IsTogether.l0])
   | succ k1 =>
    have H := HA.out
    clear HA
    simp only [impl_IsTogether.l0] at H
    by_cases c6 : x15_1 < (l1.length : Int)
    ·
     rw [if_pos c6] at H
     have c6b0 := decide_eq_true c6
     clear c6
     have c7 : 0 ≤ x15_1 := ifN H
     replace H := ifT H
     have c7b0 := decide_eq_true c7
     clear c7
     have c8 : x15_1 < (l1.length : Int) := ifN H
     replace H := ifT H
     have c8b0 := decide_eq_true c8
     clear c8
     obtain ⟨t381, A9, H⟩ := bindE H
     try dsimp only at H
     have HC10 := Aside0.mk H
     clear H
     obtain ⟨p380, q380⟩ : 0 ≤ (x15_1 : Int) ∧ x15_1 < (l1.length : Int) := ⟨dA, dA⟩
     obtain ⟨ad380, e380, hx380_0⟩ := Kd.at_int (Kd.C_below HR1.out HB.out) x15_1 p380 q380
     cases e380
     obtain ⟨p380, q380⟩ := eT p380 q380
     go_upto_region 7 with (first | ((with_reducible refine gate_callee (f := 119) rfl ?_); refine gL (some 22) Try.func119 #[.slice A0 l0.length c0, .int .i64 (rd l1 x15_1)] ?_; (with_reducible refine (impl_FindPath.calls _ _ l0 (rd l1 x15_1) t381 _ ?_ ?_ A9.out).mono ?_); exact cB HR0; exact HC0.out; rintro e w11 ⟨rfl, hb⟩; refine ⟨_, rfl, ?_⟩; replace HB := bs HB hb; (try clear hb)))
     (try simp only [Act.put, List.setIfInBounds_toArray, List.set_cons_zero, List.set_cons_succ])
     go_cut [37] (fun v37 wc => ∃ (kq : Nat) (x37_9 : Bool), v37 = .bool x37_9 ∧ Aside0 (impl_IsTogether.j1 kq l0 l1 x15_1 t381 l1 (l1.length : Int) x15_1 x37_9 = some r) ∧ Aside0 (kq ≤ k1) ∧ Aside0 (Below w.heap.size w wc))
     case first =>
      have H := HC10.out
      clear HC10
      by_cases c12 : t381 < 0
      ·
       rw [if_pos c12] at H
       have c12b0 := decide_eq_true c12
       clear c12
       (first | rw [c12b0] | (simp only [i64_w, i32_w]; rw [c12b0]) | skip)
       have H' := Aside0.mk H
       clear H
       go_wp2
       go_meet
       case rel => exact ⟨_, (true), rS, H', ⟨by have := HK1.out; first | omega | exact Nat.le_refl _⟩, ⟨bA⟩⟩
      rw [if_neg c12] at H
      have c12b0 := decide_eq_false c12
      clear c12
      (first | rw [c12b0] | (simp only [i64_w, i32_w]; rw [c12b0]) | skip)
      by_cases c13 : x15_1 > 0
      ·
       rw [if_pos c13] at H
       have c13b0 := decide_eq_true c13
       clear c13
       obtain ⟨ji14, hji14⟩ : ∃ j_ : Int, (wrap64 (x15_1 - 1)) = j_ := ⟨_, rfl⟩
       replace H : (if 0 ≤ (ji14) then (if (ji14) < (l1.length : Int) then (impl_IsTogether.j1 k1 l0 l1 x15_1 t381 l1 (l1.length : Int) x15_1 (decide ((rd l1 x15_1) ≤ (rd l1 (ji14))))) else (none)) else (none)) = some r := by first | (rw [hji14] at H; exact H) | (simp only [hji14] at H ⊢; exact H)
       have hji14w : (IntKind.i64.wrap (x15_1 - 1)) = ji14 := (i64_w _).trans hji14
       have c15 : 0 ≤ (ji14) := ifN H
       replace H := ifT H
       have c15b0 := decide_eq_true c15
       clear c15
       have c16 : (ji14) < (l1.length : Int) := ifN H
       replace H := ifT H
       have c16b0 := decide_eq_true c16
       clear c16
       have H' := Aside0.mk H
       clear H
       obtain ⟨p382, q382⟩ : 0 ≤ ((ji14) : Int) ∧ (ji14) < (l1.length : Int) := ⟨dA, dA⟩
       obtain ⟨ad382, e382, hx382_0⟩ := Kd.at_int (Kd.C_below HR1.out HB.out) (ji14) p382 q382
       obtain rfl : ad380 = ad382 := (by injection e382)
       obtain ⟨p382, q382⟩ := eT p382 q382
       go_wp2
       go_meet
       case rel => exact ⟨_, (decide ((rd l1 x15_1) ≤ (rd l1 (ji14)))), (by first | rfl | (simp; done) | (simp only [← hji14] <;> (first | rfl | simp)) | (simp [*]; done)), H', ⟨by have := HK1.out; first | omega | exact Nat.le_refl _⟩, ⟨bA⟩⟩
      rw [if_neg c13] at H
      have c13b0 := decide_eq_false c13
      clear c13
      have H' := Aside0.mk H
      clear H
      go_wp2
      go_meet
      case rel => exact ⟨_, (false), rS, H', ⟨by have := HK1.out; first | omega | exact Nat.le_refl _⟩, ⟨bA⟩⟩
     case rest =>
      clear HC10
      obtain ⟨kq, x37_9, rfl, HA, HJ9, HB⟩ := hcut
      cases kq with
      | zero => exact absurd HA.out (by simp [impl_IsTogether.j1])
      | succ kj9 =>
       have H := HA.out
       clear HA
       simp only [impl_IsTogether.j1] at H
       by_cases c17 : x37_9 = true
       ·
        subst c17
        have H1 : (some false) = some r := by rw [if_pos rfl] at H; exact H
        clear H
        have H := H1
        clear H1
        obtain rfl := Option.some.inj H
        go_wp2
        go_ret
        exact ⟨rA, bA⟩
       replace c17 := Bool.eq_false_iff.mpr c17
       subst c17
       have H1 : (if 0 ≤ x15_1 then (if x15_1 ≤ (l1.length : Int) then (impl_IsTogether.l1 kj9 l0 l1 t381 l1 (l1.length : Int) x15_1 (l1.take (x15_1 : Int).toNat) ((l1.take (x15_1 : Int).toNat).length : Int) 0) else (none)) else (none)) = some r := by rw [if_neg (show ¬ (false = true) by decide)] at H; exact H
       clear H
       have H := H1
       clear H1
       have c18 : 0 ≤ x15_1 := ifN H
       replace H := ifT H
       have c18b0 := eq_true c18
       have c18b1 := decide_eq_true c18
       clear c18
       have c19 : x15_1 ≤ (l1.length : Int) := ifN H
       replace H := ifT H
       have c19b0 := eq_true c19
       have c19b1 := decide_eq_true c19
       clear c19
       have H' := Aside0.mk H
       clear H
       obtain ⟨i020, hi020, _, hsz20, _⟩ := info_parts info3
       obtain ⟨hcut20, hA20, hC20⟩ := print_take_of (P := Try.prog) (Value.int .i64) 0 41 3 .i64 Try.underlying41 hi020 hsz20 (some ad380) c1 l1 x15_1 (dA) (dA) HC1.out
       have HR383 := Aside0.mk (Kd.C_of_reads (h1 := fun _ => rfl) (hA20 _ (Kd.reads_of_C HR1.out)))
       have HC383 := Aside0.mk hC20
       clear hA20 hC20 hi020 hsz20
       have HL383 := Aside0.mk (show (x15_1 : Int) ≤ (l1.length : Int) from (dA))
       go_wp2
       go_loopg [42] kj9 (fun kq v42 w' => ∃ (x42_3 : Int), v42 = .int .i64 x42_3 ∧ Aside0 (impl_IsTogether.l1 kq l0 l1 t381 l1 (l1.length : Int) x15_1 (l1.take (x15_1 : Int).toNat) ((l1.take (x15_1 : Int).toNat).length : Int) x42_3 = some r) ∧ Aside0 (kq ≤ kj9) ∧ Aside0 (Below w.heap.size w w'))
       case atStart => exact ⟨(0), rS, H', ⟨Nat.le_refl _⟩, ⟨bA⟩⟩
       case round =>
        clear H'
        obtain ⟨x42_3, rfl, HA, HK3, HB⟩ := hrel
        cases gk with
        | zero => exact absurd HA.out (by simp [impl_IsTogether.l1])
        | succ k3 =>
         have H := HA.out
         clear HA
         simp only [impl_IsTogether.l1] at H
         by_cases c21 : x42_3 < ((l1.take (x15_1 : Int).toNat).length : Int)
         ·
          rw [if_pos c21] at H
          have c21b0 := decide_eq_true c21
          (try (have c21b1 : decide (x42_3 < max x15_1 0) = true := decide_eq_true (by rw [List.length_take] at c21; omega)))
          clear c21
          have c22 : 0 ≤ x42_3 := ifN H
          replace H := ifT H
          have c22b0 := decide_eq_true c22
          clear c22
          have c23 : x42_3 < ((l1.take (x15_1 : Int).toNat).length : Int) := ifN H
          replace H := ifT H
          have c23b0 := decide_eq_true c23
          (try (have c23b1 : decide (x42_3 < max x15_1 0) = true := decide_eq_true (by rw [List.length_take] at c23; omega)))
          clear c23
          have c24 : 0 ≤ t381 := ifN H
          replace H := ifT H
          have c24b0 := decide_eq_true c24
          clear c24
          have c25 : t381 < (l0.length : Int) := ifN H
          replace H := ifT H
          have c25b0 := decide_eq_true c25
          clear c25
          obtain ⟨t386, A26, H⟩ := bindE H
          try dsimp only at H
          have c27 : 0 ≤ t386 := ifN H
          replace H := ifT H
          have c27b0 := decide_eq_true c27
          clear c27
          have c28 : t386 < (l0.length : Int) := ifN H
          replace H := ifT H
          have c28b0 := decide_eq_true c28
          clear c28
          obtain ⟨t388, A29, H⟩ := bindE H
          try dsimp only at H
          by_cases c30 : t388 = true
          ·
           subst c30
           have H1 : (some false) = some r := by rw [if_pos rfl] at H; exact H
           clear H
           have H := H1
           clear H1
           obtain rfl := Option.some.inj H
           obtain ⟨p384, q384⟩ : 0 ≤ (x42_3 : Int) ∧ x42_3 < ((l1.take (x15_1 : Int).toNat).length : Int) := ⟨dA, dA⟩
           (try have q384m : (x42_3 < max x15_1 0) = True := eq_true (of_decide_eq_true (by assumption)))
           obtain ⟨ad384, e384, hx384_0⟩ := Kd.at_int (Kd.C_below HR383.out HB.out) x42_3 p384 q384
           obtain rfl : ad380 = ad384 := (by injection e384)
           obtain ⟨p384, q384⟩ := eT p384 q384
           try go_wp2
           have HBo := HB
           replace HB := db HB
           obtain ⟨p385, q385⟩ : 0 ≤ (t381 : Int) ∧ t381 < (l0.length : Int) := ⟨dA, dA⟩
           obtain ⟨ad385, e385, hx385_0, hx385_1, hx385_2, hx385_3⟩ := at_T89 HR0.out t381 p385 q385
           have hw385_3 := hx385_3
           have hw385_2 := hx385_2
           have hw385_1 := hx385_1
           have hw385_0 := hx385_0
           cases e385
           replace hx385_0 := hC HB hx385_0
           replace hx385_1 := hC HB hx385_1
           replace hx385_2 := hC HB hx385_2
           replace hx385_3 := hC HB hx385_3
           obtain ⟨p385, q385⟩ := eT p385 q385
           obtain ⟨p387, q387⟩ : 0 ≤ (t386 : Int) ∧ t386 < (l0.length : Int) := ⟨dA, dA⟩
           obtain ⟨ad387, e387, hx387_0, hx387_1, hx387_2, hx387_3⟩ := at_T89 HR0.out t386 p387 q387
           have hw387_3 := hx387_3
           have hw387_2 := hx387_2
           have hw387_1 := hx387_1
           have hw387_0 := hx387_0
           obtain rfl : ad385 = ad387 := (by injection e387)
           replace hx387_0 := hC HB hx387_0
           replace hx387_1 := hC HB hx387_1
           replace hx387_2 := hC HB hx387_2
           replace hx387_3 := hC HB hx387_3
           obtain ⟨p387, q387⟩ := eT p387 q387
           refine sw (ds := []) 11 (mb 11 0) impl_IsTogether.tab12 impl_IsTogether.bits12 (h1c (hC HB hw385_0) (h1c (hC HB hw385_1) (h1c (hC HB hw385_2) (h1c (hC HB hw385_3) (h1c (hC HB hw387_0) (h1c (hC HB hw387_1) (h1c (hC HB hw387_2) (h1 (hC HB hw387_3))))))))) (fun hHeld HT_ HW_ => ?_)
           generalize wr.drew = w31 at HB hx385_0 hx385_1 hx385_2 hx385_3 hx387_0 hx387_1 hx387_2 hx387_3 hHeld ⊢
           refine pa 0 46 (mb 11 1) HT_ ?_
           refine pa 1 47 (mb 11 3) HT_ ?_
           refine pa 2 48 (mb 11 7) HT_ ?_
           refine pa 4 50 (mb 11 23) HT_ ?_
           refine pa 5 51 (mb 11 55) HT_ ?_
           refine pa 6 52 (mb 11 119) HT_ ?_
           refine ta8 3 49 (mb 11 127) HT_ HW_ hHeld ?_
           refine oa 7 53 (mb 11 255) HT_ (fun K hK => ?_)
           refine gA Try.func119 #[.slice (some ad385) l0.length c0, .int .i64 (rd (l1.take (x15_1 : Int).toNat) x42_3)] ?_
           with_reducible refine (impl_FindPath.calls _ _ l0 (rd (l1.take (x15_1 : Int).toNat) x42_3) t386 _ ?side1 ?side2 A26.out).mono ?_
           (case side1 => exact cB HR0)
           (case side2 => exact HC0.out)
           rintro e w32 ⟨rfl, hb⟩
           refine ⟨_, rfl, ?_⟩
           replace HB := bs HB hb
           (try clear hb)
           (try clear hb2)
           (try clear hk)
           (try clear hi)
           refine hK.out _ _ ⟨(hC HB hw385_0), (hC HB hw385_1), (hC HB hw385_2), (hC HB hw385_3), (hC HB hw387_0), (hC HB hw387_1), (hC HB hw387_2), (hC HB hw387_3)⟩ (fun hHeld => ?_)
           clear hK K
           refine nB ?_
           refine pa 8 54 (mb 11 511) HT_ ?_
           refine ta8 9 55 (mb 11 1023) HT_ HW_ hHeld ?_
           refine oa 10 56 (mb 11 2047) HT_ (fun K hK => ?_)
           refine gA Try.func133 #[.agg #[.int .i64 ((rd_T89 l0 t381).f0), .int .i64 ((rd_T89 l0 t381).f1), .int .i64 ((rd_T89 l0 t381).f2), .int .i64 ((rd_T89 l0 t381).f3)], .agg #[.int .i64 ((rd_T89 l0 t386).f0), .int .i64 ((rd_T89 l0 t386).f1), .int .i64 ((rd_T89 l0 t386).f2), .int .i64 ((rd_T89 l0 t386).f3)]] ?_
           with_reducible refine (impl_Conflict.calls k3 ((rd_T89 l0 t381).f0) ((rd_T89 l0 t381).f1) ((rd_T89 l0 t381).f2) ((rd_T89 l0 t381).f3) ((rd_T89 l0 t386).f0) ((rd_T89 l0 t386).f1) ((rd_T89 l0 t386).f2) ((rd_T89 l0 t386).f3) true _ A29.out).mono ?_
           rintro e w33 ⟨rfl, hb⟩
           refine ⟨_, rfl, ?_⟩
           replace HB := bs HB hb
           (try clear hb)
           (try clear hb2)
           (try clear hk)
           (try clear hi)
           refine hK.out _ _ ⟨(hC HB hw385_0), (hC HB hw385_1), (hC HB hw385_2), (hC HB hw385_3), (hC HB hw387_0), (hC HB hw387_1), (hC HB hw387_2), (hC HB hw387_3)⟩ (fun hHeld => ?_)
           clear hK K
           refine nB ?_
           refine eA HT_ ?_
           try go_wp2
           go_ret
           exact ⟨rA, bA⟩
          replace c30 := Bool.eq_false_iff.mpr c30
          subst c30
          have H1 : (impl_IsTogether.l1 k3 l0 l1 t381 l1 (l1.length : Int) x15_1 (l1.take (x15_1 : Int).toNat) ((l1.take (x15_1 : Int).toNat).length : Int) (wrap64 (x42_3 + 1))) = some r := by rw [if_neg (show ¬ (false = true) by decide)] at H; exact H
          clear H
          have H := H1
          clear H1
          have H' := Aside0.mk H
          clear H
          obtain ⟨p384, q384⟩ : 0 ≤ (x42_3 : Int) ∧ x42_3 < ((l1.take (x15_1 : Int).toNat).length : Int) := ⟨dA, dA⟩
          (try have q384m : (x42_3 < max x15_1 0) = True := eq_true (of_decide_eq_true (by assumption)))
          obtain ⟨ad384, e384, hx384_0⟩ := Kd.at_int (Kd.C_below HR383.out HB.out) x42_3 p384 q384
          obtain rfl : ad380 = ad384 := (by injection e384)
          obtain ⟨p384, q384⟩ := eT p384 q384
          try go_wp2
          have HBo := HB
          replace HB := db HB
          obtain ⟨p385, q385⟩ : 0 ≤ (t381 : Int) ∧ t381 < (l0.length : Int) := ⟨dA, dA⟩
          obtain ⟨ad385, e385, hx385_0, hx385_1, hx385_2, hx385_3⟩ := at_T89 HR0.out t381 p385 q385
          have hw385_3 := hx385_3
          have hw385_2 := hx385_2
          have hw385_1 := hx385_1
          have hw385_0 := hx385_0
          cases e385
          replace hx385_0 := hC HB hx385_0
          replace hx385_1 := hC HB hx385_1
          replace hx385_2 := hC HB hx385_2
          replace hx385_3 := hC HB hx385_3
          obtain ⟨p385, q385⟩ := eT p385 q385
          obtain ⟨p387, q387⟩ : 0 ≤ (t386 : Int) ∧ t386 < (l0.length : Int) := ⟨dA, dA⟩
          obtain ⟨ad387, e387, hx387_0, hx387_1, hx387_2, hx387_3⟩ := at_T89 HR0.out t386 p387 q387
          have hw387_3 := hx387_3
          have hw387_2 := hx387_2
          have hw387_1 := hx387_1
          have hw387_0 := hx387_0
          obtain rfl : ad385 = ad387 := (by injection e387)
          replace hx387_0 := hC HB hx387_0
          replace hx387_1 := hC HB hx387_1
          replace hx387_2 := hC HB hx387_2
          replace hx387_3 := hC HB hx387_3
          obtain ⟨p387, q387⟩ := eT p387 q387
          refine sw (ds := []) 11 (mb 11 0) impl_IsTogether.tab12 impl_IsTogether.bits12 (h1c (hC HB hw385_0) (h1c (hC HB hw385_1) (h1c (hC HB hw385_2) (h1c (hC HB hw385_3) (h1c (hC HB hw387_0) (h1c (hC HB hw387_1) (h1c (hC HB hw387_2) (h1 (hC HB hw387_3))))))))) (fun hHeld HT_ HW_ => ?_)
          generalize wr.drew = w34 at HB hx385_0 hx385_1 hx385_2 hx385_3 hx387_0 hx387_1 hx387_2 hx387_3 hHeld ⊢
          refine pa 0 46 (mb 11 1) HT_ ?_
          refine pa 1 47 (mb 11 3) HT_ ?_
          refine pa 2 48 (mb 11 7) HT_ ?_
          refine pa 4 50 (mb 11 23) HT_ ?_
          refine pa 5 51 (mb 11 55) HT_ ?_
          refine pa 6 52 (mb 11 119) HT_ ?_
          refine ta8 3 49 (mb 11 127) HT_ HW_ hHeld ?_
          refine oa 7 53 (mb 11 255) HT_ (fun K hK => ?_)
          refine gA Try.func119 #[.slice (some ad385) l0.length c0, .int .i64 (rd (l1.take (x15_1 : Int).toNat) x42_3)] ?_
          with_reducible refine (impl_FindPath.calls _ _ l0 (rd (l1.take (x15_1 : Int).toNat) x42_3) t386 _ ?side1 ?side2 A26.out).mono ?_
          (case side1 => exact cB HR0)
          (case side2 => exact HC0.out)
          rintro e w35 ⟨rfl, hb⟩
          refine ⟨_, rfl, ?_⟩
          replace HB := bs HB hb
          (try clear hb)
          (try clear hb2)
          (try clear hk)
          (try clear hi)
          refine hK.out _ _ ⟨(hC HB hw385_0), (hC HB hw385_1), (hC HB hw385_2), (hC HB hw385_3), (hC HB hw387_0), (hC HB hw387_1), (hC HB hw387_2), (hC HB hw387_3)⟩ (fun hHeld => ?_)
          clear hK K
          refine nB ?_
          refine pa 8 54 (mb 11 511) HT_ ?_
          refine ta8 9 55 (mb 11 1023) HT_ HW_ hHeld ?_
          refine oa 10 56 (mb 11 2047) HT_ (fun K hK => ?_)
          refine gA Try.func133 #[.agg #[.int .i64 ((rd_T89 l0 t381).f0), .int .i64 ((rd_T89 l0 t381).f1), .int .i64 ((rd_T89 l0 t381).f2), .int .i64 ((rd_T89 l0 t381).f3)], .agg #[.int .i64 ((rd_T89 l0 t386).f0), .int .i64 ((rd_T89 l0 t386).f1), .int .i64 ((rd_T89 l0 t386).f2), .int .i64 ((rd_T89 l0 t386).f3)]] ?_
          with_reducible refine (impl_Conflict.calls k3 ((rd_T89 l0 t381).f0) ((rd_T89 l0 t381).f1) ((rd_T89 l0 t381).f2) ((rd_T89 l0 t381).f3) ((rd_T89 l0 t386).f0) ((rd_T89 l0 t386).f1) ((rd_T89 l0 t386).f2) ((rd_T89 l0 t386).f3) false _ A29.out).mono ?_
          rintro e w36 ⟨rfl, hb⟩
          refine ⟨_, rfl, ?_⟩
          replace HB := bs HB hb
          (try clear hb)
          (try clear hb2)
          (try clear hk)
          (try clear hi)
          refine hK.out _ _ ⟨(hC HB hw385_0), (hC HB hw385_1), (hC HB hw385_2), (hC HB hw385_3), (hC HB hw387_0), (hC HB hw387_1), (hC HB hw387_2), (hC HB hw387_3)⟩ (fun hHeld => ?_)
          clear hK K
          refine nB ?_
          refine eA HT_ ?_
          try go_wp2
          go_roundg k3
          case measure => have := HK1.out; have := HJ9.out; have := HK3.out; omega
          case rel => exact ⟨(wrap64 (x42_3 + 1)), rS, H', ⟨by have := HK1.out; have := HJ9.out; have := HK3.out; omega⟩, ⟨bA⟩⟩
         rw [if_neg c21] at H
         have c21b0 := decide_eq_false c21
         (try (have c21b1 : decide (x42_3 < max x15_1 0) = false := decide_eq_false (by have g_ : x15_1 ≤ (l1.length : Int) := (by first | exact dA | exact Int.le_of_lt dA | exact (show Aside0 (x15_1 ≤ (l1.length : Int)) by assumption).out); rw [List.length_take] at c21; omega)))
         clear c21
         have H' := Aside0.mk H
         clear H
         go_wp2
         go_roundg k3
         case measure => have := HK1.out; have := HJ9.out; have := HK3.out; omega
         case rel => exact ⟨(wrap64 (x15_1 + 1)), rS, H', ⟨by have := HK1.out; have := HJ9.out; have := HK3.out; omega⟩, ⟨bA⟩⟩
    rw [if_neg c6] at H
    have c6b0 := decide_eq_false c6
    clear c6
    obtain rfl := Option.some.inj H
    go_wp2
    go_ret
    exact ⟨rA, bA⟩
 replace c4 := Bool.eq_false_iff.mpr c4
 subst c4
 have H1 : (some false) = some r := by rw [if_neg (show ¬ (false = true) by decide)] at H; exact H
 clear H
 have H := H1
 clear H1
 obtain rfl := Option.some.inj H
 go_enter Try.func87, Try.ntmps87
 go_wp2_with (first | ((with_reducible refine gate_callee (f := 126) rfl ?_); refine gL (some 11) Try.func126 #[.slice A0 l0.length c0] ?_; (with_reducible refine (impl_ArePaths.calls k _ _ l0 false _ ?_ ?_ A3.out).mono ?_); exact cO HR0; exact HC0.out; rintro e w37 ⟨rfl, hb⟩; refine ⟨_, rfl, ?_⟩; replace HB := bs HB hb; (try clear hb)))
 go_ret
 exact ⟨rA, bA⟩

/-! ### slices_Index_int_int: function 138 -/
def slices_Index_int_int.l0 : Nat → List Int → Int → Int → Int → Option (Int)
 | 0, _, _, _, _ => none
 | k + 1, x0, x1, x7, x8 => if x8 < x7 then (if 0 ≤ x8 then (if x8 < (x0.length : Int) then (if x1 = (rd x0 x8) then (some x8) else (slices_Index_int_int.l0 k x0 x1 x7 (wrap64 (x8 + 1)))) else (none)) else (none)) else (some (-1))
def slices_Index_int_int.f (k : Nat) (l0 : List Int) (a1 : Int) : Option (Int) := slices_Index_int_int.l0 k l0 a1 (l0.length : Int) 0
theorem slices_Index_int_int.mono_l : ∀ k, (∀ y0 y1 y2 y3, LeO (slices_Index_int_int.l0 k y0 y1 y2 y3) (slices_Index_int_int.l0 (k + 1) y0 y1 y2 y3))
 | 0 => fun _ _ _ _ r h => by simp [slices_Index_int_int.l0] at h
 | k + 1 => by
  have ih0 := slices_Index_int_int.mono_l k
  ·
   intro y0 y1 y2 y3
   unfold slices_Index_int_int.l0
   exact mz1 ih0
theorem slices_Index_int_int.mono : ∀ a0 a1 k, LeO (slices_Index_int_int.f k a0 a1) (slices_Index_int_int.f (k + 1) a0 a1) := by
 intro a0 a1 k
 have ih0 := slices_Index_int_int.mono_l k
 unfold slices_Index_int_int.f
 exact mz1 ih0
set_option maxHeartbeats 8000000 in
set_option maxRecDepth 100000 in
theorem slices_Index_int_int.calls (k : Nat) (A0 : Option Addr) (c0 : Nat) (l0 : List Int) (a1 : Int) (r : Int) (w : World) (hr0 : Kd.C (Kd.int .i64) w A0 l0.length l0) (hc0 : l0.length ≤ c0) (h : slices_Index_int_int.f k l0 a1 = some r) :
  Calls Try.prog 138 #[.slice A0 l0.length c0, .int .i64 a1] w fun e w' => e = .returned (.int .i64 r) ∧ Drawn0 w w' := by
 have HR0 := Aside0.mk hr0
 have HC0 := Aside0.mk hc0
 clear hr0 hc0
 have H : (slices_Index_int_int.l0 k l0 a1 (l0.length : Int) 0) = some r := h
 clear h
 have H' := Aside0.mk H
 clear H
 go_enter Try.func138, Try.ntmps138
 go_wp2
 go_loopg [8] k (fun kq v8 w' => ∃ (x8_1 : Int), v8 = .int .i64 x8_1 ∧ Aside0 (slices_Index_int_int.l0 kq l0 a1 (l0.length : Int) x8_1 = some r) ∧ Aside0 (kq ≤ k) ∧ Drawn0 w w')
 case atStart => exact ⟨(0), rS, H', ⟨Nat.le_refl _⟩, by repeat (first | exact Drawn0.refl _ | apply Drawn0.step)⟩
 case round =>
  clear H'
  obtain ⟨x8_1, rfl, HA, HK1, ⟨m1, rfl⟩⟩ := hrel
  cases gk with
  | zero => exact absurd HA.out (by simp [slices_Index_int_int.l0])
  | succ k1 =>
   have H := HA.out
   clear HA
   simp only [slices_Index_int_int.l0] at H
   by_cases c3 : x8_1 < (l0.length : Int)
   ·
    rw [if_pos c3] at H
    have c3b0 := decide_eq_true c3
    clear c3
    have c4 : 0 ≤ x8_1 := ifN H
    replace H := ifT H
    have c4b0 := decide_eq_true c4
    clear c4
    have c5 : x8_1 < (l0.length : Int) := ifN H
    replace H := ifT H
    have c5b0 := decide_eq_true c5
    clear c5
    by_cases c6 : a1 = (rd l0 x8_1)
    ·
     rw [if_pos c6] at H
     have c6b0 : (a1 == (rd l0 x8_1)) = true := beq_iff_eq.mpr c6
     have c6b1 : (a1 != (rd l0 x8_1)) = false := bne_eq_false_iff_eq.mpr c6
     clear c6
     obtain rfl := Option.some.inj H
     obtain ⟨p408, q408⟩ : 0 ≤ (x8_1 : Int) ∧ x8_1 < (l0.length : Int) := ⟨dA, dA⟩
     obtain ⟨ad408, e408, hx408_0⟩ := Kd.at_int HR0.out x8_1 p408 q408
     cases e408
     obtain ⟨p408, q408⟩ := eT p408 q408
     go_wp2
     go_ret
     exact ⟨rS, dD⟩
    rw [if_neg c6] at H
    have c6b0 : (a1 == (rd l0 x8_1)) = false := beq_eq_false_iff_ne.mpr c6
    have c6b1 : (a1 != (rd l0 x8_1)) = true := bne_iff_ne.mpr c6
    have H' := Aside0.mk H
    clear H
    obtain ⟨p408, q408⟩ : 0 ≤ (x8_1 : Int) ∧ x8_1 < (l0.length : Int) := ⟨dA, dA⟩
    obtain ⟨ad408, e408, hx408_0⟩ := Kd.at_int HR0.out x8_1 p408 q408
    cases e408
    obtain ⟨p408, q408⟩ := eT p408 q408
    go_wp2
    go_roundg k1
    case measure => have := HK1.out; omega
    case rel => exact ⟨(wrap64 (x8_1 + 1)), rS, H', ⟨by have := HK1.out; omega⟩, by repeat (first | exact Drawn0.refl _ | apply Drawn0.step)⟩
   rw [if_neg c3] at H
   have c3b0 := decide_eq_false c3
   clear c3
   obtain rfl := Option.some.inj H
   go_wp2
   go_ret
   exact ⟨rS, dD⟩

/-! ### slices_Contains_int_int: function 104 -/
def slices_Contains_int_int.f (k : Nat) (l0 : List Int) (a1 : Int) : Option (Bool) := (slices_Index_int_int.f k l0 a1).bind fun t409 => (some (decide (t409 ≥ 0)))
theorem slices_Contains_int_int.mono : ∀ a0 a1 k, LeO (slices_Contains_int_int.f k a0 a1) (slices_Contains_int_int.f (k + 1) a0 a1) := by
 intro a0 a1 k
 unfold slices_Contains_int_int.f
 exact mz1 slices_Index_int_int.mono
set_option maxHeartbeats 8000000 in
set_option maxRecDepth 100000 in
theorem slices_Contains_int_int.calls (k : Nat) (A0 : Option Addr) (c0 : Nat) (l0 : List Int) (a1 : Int) (r : Bool) (w : World) (hr0 : Kd.C (Kd.int .i64) w A0 l0.length l0) (hc0 : l0.length ≤ c0) (h : slices_Contains_int_int.f k l0 a1 = some r) :
  Calls Try.prog 104 #[.slice A0 l0.length c0, .int .i64 a1] w fun e w' => e = .returned (.bool r) ∧ Drawn0 w w' := by
 have HR0 := Aside0.mk hr0
 have HC0 := Aside0.mk hc0
 clear hr0 hc0
 have H : ((slices_Index_int_int.f k l0 a1).bind fun t409 => (some (decide (t409 ≥ 0)))) = some r := h
 clear h
 obtain ⟨t409, A3, H⟩ := bindE H
 try dsimp only at H
 obtain rfl := Option.some.inj H
 go_enter Try.func104, Try.ntmps104
 go_wp2_with (first | ((with_reducible refine gate_callee (f := 138) rfl ?_); refine gL (some 7) Try.func138 #[.slice A0 l0.length c0, .int .i64 a1] ?_; (with_reducible refine (slices_Index_int_int.calls k _ _ l0 a1 t409 _ ?_ ?_ A3.out).mono ?_); exact cO HR0; exact HC0.out; rintro e w' ⟨rfl, ⟨nd, rfl⟩⟩; refine ⟨_, rfl, ?_⟩))
 go_ret
 exact ⟨rS, dD⟩

/-! ### impl_isCovered: function 127 -/
theorem impl_isCovered.has_loop (l : List Int) (x : Int) (hl : l.length ≤ 9223372036854775807) : ∀ d i, i + d = l.length → ∃ r : Int, slices_Index_int_int.l0 (d + 1) l x (l.length : Int) (i : Int) = some r ∧ (0 ≤ r ↔ x ∈ l.drop i)
 | 0, i, h => by
  refine ⟨-1, ?_, ?_⟩
  ·
   rw [slices_Index_int_int.l0, if_neg (by omega)]
  ·
   rw [List.drop_of_length_le (by omega)]; simp
 | d + 1, i, h => by
  have hi : i < l.length := by omega
  have e : rd l (i : Int) = l[i] := by unfold rd; simp [List.getD_eq_getElem?_getD, List.getElem?_eq_getElem hi]
  rw [slices_Index_int_int.l0, if_pos (by omega), if_pos (by omega), if_pos (by omega), e, List.drop_eq_getElem_cons hi]
  by_cases c : x = l[i]
  ·
   exact ⟨i, if_pos c, ⟨fun _ => by rw [c]; exact List.mem_cons_self .., fun _ => by omega⟩⟩
  ·
   obtain ⟨r, h1, h2⟩ := impl_isCovered.has_loop l x hl d (i + 1) (by omega)
   refine ⟨r, ?_, h2.trans ⟨fun hh => List.mem_cons_of_mem _ hh, fun hh => (List.mem_cons.1 hh).resolve_left c⟩⟩
   rw [if_neg c, show wrap64 ((i : Int) + 1) = ((i + 1 : Nat) : Int) by unfold wrap64; omega]
   exact h1
theorem impl_isCovered.has (l : List Int) (x : Int) (hl : l.length ≤ 9223372036854775807) : slices_Contains_int_int.f (l.length + 1) l x = some (decide (x ∈ l)) := by
 obtain ⟨r, h1, h2⟩ := impl_isCovered.has_loop l x hl l.length 0 (by omega)
 unfold slices_Contains_int_int.f slices_Index_int_int.f
 have h1 : slices_Index_int_int.l0 (l.length + 1) l x (l.length : Int) 0 = some r := h1
 rw [h1, Option.bind_some]
 congr 1
 exact decide_eq_decide.2 (by rw [List.drop_zero] at h2; exact h2)
def impl_isCovered.q (id : Int) (x : List Int) : Bool := decide (id ∈ x)
set_option maxHeartbeats 400000 in
set_option maxRecDepth 100000 in
theorem impl_isCovered.clo (id : Int) (g : Nat) (A0 : Option Addr) (c0 : Nat) (x : List Int) (w : World) (hc : w.cell? ⟨g, 0, none⟩ = some (.int .i64 id)) (hr : Kd.C (Kd.int .i64) w A0 x.length x) (hk : x.length ≤ c0) :
  Calls Try.prog 148 #[.slice A0 x.length c0, .pointer (some ⟨g, 0, none⟩)] w fun e w' => e = .returned (.bool (impl_isCovered.q id x)) ∧ Below w.heap.size w w' := by
 have hg : g < w.heap.size := World.block_lt_of_cell? w _ hc
 have HI := Aside0.mk (impl_isCovered.has x id hr.2.1)
 have HR := Aside0.mk hr
 have HK := Aside0.mk hk
 clear hr hk
 go_enter Try.func148, Try.ntmps148
 go_wp2_with (go_at_call 104; refine (slices_Contains_int_int.calls _ _ _ x id _ _ ?s1 HK.out HI.out).mono ?_; (case s1 => first | exact HR.out | exact Kd.C_drew HR.out | exact Kd.C_alloc HR.out _); rintro e w1 ⟨rfl, hb1⟩)
 go_ret
 exact ⟨rfl, hb1.below⟩
def impl_isCovered.ix (id : Int) : List (List Int) → Int → Int
 | [], _ => -1
 | x :: l, i => if impl_isCovered.q id x = true then i else impl_isCovered.ix id l (i + 1)
theorem impl_isCovered.ix_hit (id : Int) : ∀ (l : List (List Int)) (i : Int) (m : Nat) (hm : m < l.length), (∀ j (hj : j < m), impl_isCovered.q id (l[j]'(by omega)) = false) → impl_isCovered.q id l[m] = true → impl_isCovered.ix id l i = i + m
 | [], i, m, hm, _, _ => absurd hm (by simp)
 | p :: l, i, 0, hm, _, h => by
  unfold impl_isCovered.ix
  rw [if_pos (show impl_isCovered.q id p = true from h)]
  simp
 | p :: l, i, m + 1, hm, hne, h => by
  unfold impl_isCovered.ix
  have h2 : impl_isCovered.q id p = false := hne 0 (by omega)
  rw [if_neg (by rw [h2]; decide), impl_isCovered.ix_hit id l (i + 1) m (by simpa using hm) (fun j hj => hne (j + 1) (by omega)) h]
  omega
theorem impl_isCovered.ix_miss (id : Int) : ∀ (l : List (List Int)) (i : Int), (∀ j (hj : j < l.length), impl_isCovered.q id l[j] = false) → impl_isCovered.ix id l i = -1
 | [], i, _ => rfl
 | p :: l, i, h => by
  unfold impl_isCovered.ix
  have h2 : impl_isCovered.q id p = false := h 0 (by simp)
  rw [if_neg (by rw [h2]; decide), impl_isCovered.ix_miss id l (i + 1) (fun j hj => h (j + 1) (by simpa using hj))]
theorem impl_isCovered.rd_ (l : List (List Int)) (j : Nat) (hj : j < l.length) : rd_L2 l (j : Int) = l[j] := by
 unfold rd_L2; simp [List.getD_eq_getElem?_getD, List.getElem?_eq_getElem hj]
set_option maxHeartbeats 4000000 in
set_option maxRecDepth 100000 in
theorem impl_isCovered.idx (id : Int) (g : Nat) (A0 : Option Addr) (c0 : Nat) (l0 : List (List Int)) (w : World) (hr0 : Kd.C (Kd.slice 3 (Kd.int .i64)) w A0 l0.length l0) (hc0 : l0.length ≤ c0) (hc : w.cell? ⟨g, 0, none⟩ = some (.int .i64 id)) :
  Calls Try.prog 162 #[.slice A0 l0.length c0, .func (.func 148) #[] #[.pointer (some ⟨g, 0, none⟩)]] w fun e w' => e = .returned (.int .i64 (impl_isCovered.ix id l0 0)) ∧ Below w.heap.size w w' := by
 have HC := Aside0.mk hc
 clear hc
 have HR0 := Aside0.mk hr0
 have HC0 := Aside0.mk hc0
 have hlen : l0.length ≤ 9223372036854775807 := hr0.2.1
 clear hr0 hc0
 have HB := Aside0.mk (Below.refl w.heap.size w)
 go_enter Try.func162, Try.ntmps162
 go_wp2
 go_loopg [5, 8] l0.length (fun gg v5 v8 w' => ∃ kk : Nat, v8 = .int .i64 kk ∧ Aside0 (kk ≤ l0.length) ∧ Aside0 (l0.length - kk ≤ gg) ∧ Aside0 (Below w.heap.size w w') ∧ Aside0 (∀ j (hj : j < kk) (hl : j < l0.length), impl_isCovered.q id l0[j] = false))
 case atStart => exact ⟨0, rfl, ⟨Nat.zero_le _⟩, ⟨by omega⟩, HB, ⟨fun j hj => absurd hj (Nat.not_lt_zero _)⟩⟩
 case round =>
  clear HB
  obtain ⟨kk, rfl, hk, hg, HB, HA⟩ := hrel
  by_cases hlt : kk < l0.length
  ·
   have hltz : decide ((kk : Int) < (l0.length : Int)) = true := decide_eq_true (by omega)
   have hltn : decide (kk < l0.length) = true := decide_eq_true hlt
   have p0 : (0 : Int) ≤ (kk : Int) := by omega
   have q0 : (kk : Int) < (l0.length : Int) := by omega
   have HE := Aside0.mk (impl_isCovered.rd_ l0 kk hlt)
   obtain ⟨ad, A1, c1, e1, hx0, hk1, hr1⟩ := at_L2 HR0.out (kk : Int) p0 q0
   cases e1
   rw [Int.toNat_natCast] at hx0
   replace hx0 := hC HB hx0
   replace p0 := eq_true p0
   replace q0 := eq_true q0
   have hcl := fun (w' : World) (hb : Below w.heap.size w w') => impl_isCovered.clo id g A1 c1 (rd_L2 l0 (kk : Int)) w' ((hb.cell (World.block_lt_of_cell? w _ HC.out)).trans HC.out) (Kd.C_below hr1 hb) hk1
   clear hr1
   have HK1 := Aside0.mk hk1
   clear hk1
   cases hq : impl_isCovered.q id (rd_L2 l0 (kk : Int)) with
   | true =>
    rw [hq] at hcl
    have HCL := Aside0.mk hcl
    have HQ := Aside0.mk hq
    clear hcl hq
    go_wp2_with (go_at_call 148; refine (HCL.out _ HB.out).mono ?_; rintro e w1 ⟨rfl, hb1⟩)
    go_ret
    refine ⟨?_, below_step HB.out hb1⟩
    have hq := HQ.out
    rw [HE.out] at hq
    rw [impl_isCovered.ix_hit id l0 0 kk hlt (fun j hj => HA.out j hj (by omega)) hq, Int.zero_add]
    rfl
   | false =>
    rw [hq] at hcl
    have HCL := Aside0.mk hcl
    have HQ := Aside0.mk hq
    clear hcl hq
    go_wp2_with (go_at_call 148; refine (HCL.out _ HB.out).mono ?_; rintro e w1 ⟨rfl, hb1⟩)
    go_roundg (l0.length - (kk + 1))
    case measure => have := hg.out; omega
    case rel =>
     refine ⟨kk + 1, by go_num, ⟨by omega⟩, ⟨by omega⟩, ⟨below_step HB.out hb1⟩, ⟨fun j hj hl => ?_⟩⟩
     rcases Nat.lt_or_ge j kk with h3 | h3
     ·
      exact HA.out j h3 hl
     ·
      have h4 : j = kk := by omega
      subst h4
      rw [← HE.out]
      exact HQ.out
  ·
   have hge : decide ((kk : Int) < (l0.length : Int)) = false := decide_eq_false (by omega)
   have hgen : decide (kk < l0.length) = false := decide_eq_false hlt
   go_wp2
   go_ret
   refine ⟨?_, HB.out⟩
   rw [impl_isCovered.ix_miss id l0 0 (fun j hj => HA.out j (by omega) hj)]
   rfl
def impl_isCovered.f (l0 : List (List Int)) (a1 : Int) : Option Bool := some (decide (impl_isCovered.ix a1 l0 0 ≥ 0))
set_option maxHeartbeats 400000 in
set_option maxRecDepth 100000 in
theorem impl_isCovered.con (id : Int) (g : Nat) (A0 : Option Addr) (c0 : Nat) (l0 : List (List Int)) (w : World) (hr0 : Kd.C (Kd.slice 3 (Kd.int .i64)) w A0 l0.length l0) (hc0 : l0.length ≤ c0) (hc : w.cell? ⟨g, 0, none⟩ = some (.int .i64 id)) :
  Calls Try.prog 147 #[.slice A0 l0.length c0, .func (.func 148) #[] #[.pointer (some ⟨g, 0, none⟩)]] w fun e w' => e = .returned (.bool (decide (impl_isCovered.ix id l0 0 ≥ 0))) ∧ Below w.heap.size w w' := by
 have HC := Aside0.mk hc
 have HR0 := Aside0.mk hr0
 have HC0 := Aside0.mk hc0
 clear hr0 hc0 hc
 go_enter Try.func147, Try.ntmps147
 go_wp2_with (go_at_call 162; refine (impl_isCovered.idx id g A0 c0 l0 _ HR0.out HC0.out HC.out).mono ?_; rintro e w1 ⟨rfl, hb1⟩)
 go_ret
 exact ⟨rfl, hb1⟩
set_option maxHeartbeats 400000 in
set_option maxRecDepth 100000 in
theorem impl_isCovered.calls (A0 : Option Addr) (c0 : Nat) (l0 : List (List Int)) (a1 : Int) (r : Bool) (w : World) (hr0 : Kd.C (Kd.slice 3 (Kd.int .i64)) w A0 l0.length l0) (hc0 : l0.length ≤ c0) (h : impl_isCovered.f l0 a1 = some r) :
  Calls Try.prog 127 #[.slice A0 l0.length c0, .int .i64 a1] w fun e w' => e = .returned (.bool r) ∧ Below w.heap.size w w' := by
 obtain rfl := Option.some.inj h
 have HR0 := Aside0.mk hr0
 have HC0 := Aside0.mk hc0
 clear hr0 hc0 h
 go_enter Try.func127, Try.ntmps127
 go_wp2_with (go_at_call 147; refine (impl_isCovered.con a1 w.heap.size A0 c0 l0 _ ?s1 HC0.out ?s2).mono ?_; (case s1 => exact Kd.C_alloc HR0.out _); (case s2 => simp); rintro e w1 ⟨rfl, hb1⟩)
 go_ret
 exact ⟨rfl, below_step (below_alloc (Below.refl _ _) _) hb1⟩

/-! ### impl_Covers: function 128 -/
mutual
def impl_Covers.l0 : Nat → List (S89) → List (List Int) → List (List Int) → Int → Int → Option (Bool)
 | 0, _, _, _, _, _ => none
 | k + 1, x0, x1, x12, x13, x14 => if x14 < x13 then (if 0 ≤ x14 then (if x14 < (x12.length : Int) then ((impl_IsTogether.f k x0 (rd_L2 x12 x14)).bind fun t391 => (if t391 = true then (impl_Covers.l0 k x0 x1 x12 x13 (wrap64 (x14 + 1))) else (some false))) else (none)) else (none)) else (impl_Covers.l1 k x1 x0 (x0.length : Int) 0)
def impl_Covers.l1 : Nat → List (List Int) → List (S89) → Int → Int → Option (Bool)
 | 0, _, _, _, _ => none
 | k + 1, x1, x23, x24, x25 => if x25 < x24 then (if 0 ≤ x25 then (if x25 < (x23.length : Int) then ((impl_isCovered.f x1 ((rd_T89 x23 x25).f0)).bind fun t394 => (if t394 = true then (impl_Covers.l1 k x1 x23 x24 (wrap64 (x25 + 1))) else (some false))) else (none)) else (none)) else (some true)
end
def impl_Covers.f (k : Nat) (l0 : List (S89)) (l1 : List (List Int)) : Option (Bool) := (impl_ArePaths.f k l0).bind fun t389 => (if t389 = true then (impl_Covers.l0 k l0 l1 l1 (l1.length : Int) 0) else (some false))
theorem impl_Covers.mono_l : ∀ k, (∀ y0 y1 y2 y3 y4, LeO (impl_Covers.l0 k y0 y1 y2 y3 y4) (impl_Covers.l0 (k + 1) y0 y1 y2 y3 y4)) ∧ (∀ y0 y1 y2 y3, LeO (impl_Covers.l1 k y0 y1 y2 y3) (impl_Covers.l1 (k + 1) y0 y1 y2 y3))
 | 0 => ⟨fun _ _ _ _ _ r h => by simp [impl_Covers.l0] at h, fun _ _ _ _ r h => by simp [impl_Covers.l1] at h⟩
 | k + 1 => by
  obtain ⟨ih0, ih1⟩ := impl_Covers.mono_l k
  refine ⟨?_, ?_⟩
  ·
   intro y0 y1 y2 y3 y4
   unfold impl_Covers.l0
   exact mz4 ih0 ih1 impl_ArePaths.mono impl_IsTogether.mono
  ·
   intro y0 y1 y2 y3
   unfold impl_Covers.l1
   exact mz4 ih0 ih1 impl_ArePaths.mono impl_IsTogether.mono
theorem impl_Covers.mono : ∀ a0 a1 k, LeO (impl_Covers.f k a0 a1) (impl_Covers.f (k + 1) a0 a1) := by
 intro a0 a1 k
 obtain ⟨ih0, ih1⟩ := impl_Covers.mono_l k
 unfold impl_Covers.f
 exact mz4 ih0 ih1 impl_ArePaths.mono impl_IsTogether.mono
set_option maxHeartbeats 8000000 in
set_option maxRecDepth 100000 in
theorem impl_Covers.calls (k : Nat) (A0 : Option Addr) (c0 : Nat) (l0 : List (S89)) (A1 : Option Addr) (c1 : Nat) (l1 : List (List Int)) (r : Bool) (w : World) (hr0 : Kd.C k89 w A0 l0.length l0) (hc0 : l0.length ≤ c0) (hr1 : Kd.C (Kd.slice 3 (Kd.int .i64)) w A1 l1.length l1) (hc1 : l1.length ≤ c1) (h : impl_Covers.f k l0 l1 = some r) :
  Calls Try.prog 128 #[.slice A0 l0.length c0, .slice A1 l1.length c1] w fun e w' => e = .returned (.bool r) ∧ Below w.heap.size w w' := by
 have hu89 := Try.underlying89
 have HR0 := Aside0.mk hr0
 have HC0 := Aside0.mk hc0
 clear hr0 hc0
 have HR1 := Aside0.mk hr1
 have HC1 := Aside0.mk hc1
 clear hr1 hc1
 have HB := Aside0.mk (Below.refl w.heap.size w)
 have H : ((impl_ArePaths.f k l0).bind fun t389 => (if t389 = true then (impl_Covers.l0 k l0 l1 l1 (l1.length : Int) 0) else (some false))) = some r := h
 clear h
 obtain ⟨t389, A3, H⟩ := bindE H
 try dsimp only at H
 by_cases c4 : t389 = true
 ·
  subst c4
  have H1 : (impl_Covers.l0 k l0 l1 l1 (l1.length : Int) 0) = some r := by rw [if_pos rfl] at H; exact H
  clear H
  have H := H1
  clear H1
  have H' := Aside0.mk H
  clear H
  go_enter Try.func128, Try.ntmps128
  go_wp2_with (first | ((with_reducible refine gate_callee (f := 126) rfl ?_); refine gL (some 10) Try.func126 #[.slice A0 l0.length c0] ?_; (with_reducible refine (impl_ArePaths.calls k _ _ l0 true _ ?_ ?_ A3.out).mono ?_); exact cO HR0; exact HC0.out; rintro e w5 ⟨rfl, hb⟩; refine ⟨_, rfl, ?_⟩; replace HB := bs HB hb; (try clear hb)))
  go_loopg [14] k (fun kq v14 w' => ∃ (x14_1 : Int), v14 = .int .i64 x14_1 ∧ Aside0 (impl_Covers.l0 kq l0 l1 l1 (l1.length : Int) x14_1 = some r) ∧ Aside0 (kq ≤ k) ∧ Aside0 (Below w.heap.size w w'))
  case atStart => exact ⟨(0), rS, H', ⟨Nat.le_refl _⟩, ⟨bA⟩⟩
  case round =>
   clear H'
   obtain ⟨x14_1, rfl, HA, HK1, HB⟩ := hrel
   cases gk with
   | zero => exact absurd HA.out (by simp [impl_Covers.l0])
   | succ k1 =>
    have H := HA.out
    clear HA
    simp only [impl_Covers.l0] at H
    by_cases c6 : x14_1 < (l1.length : Int)
    ·
     rw [if_pos c6] at H
     have c6b0 := decide_eq_true c6
     clear c6
     have c7 : 0 ≤ x14_1 := ifN H
     replace H := ifT H
     have c7b0 := decide_eq_true c7
     clear c7
     have c8 : x14_1 < (l1.length : Int) := ifN H
     replace H := ifT H
     have c8b0 := decide_eq_true c8
     clear c8
     obtain ⟨t391, A9, H⟩ := bindE H
     try dsimp only at H
     by_cases c10 : t391 = true
     ·
      subst c10
      have H1 : (impl_Covers.l0 k1 l0 l1 l1 (l1.length : Int) (wrap64 (x14_1 + 1))) = some r := by rw [if_pos rfl] at H; exact H
      clear H
      have H := H1
      clear H1
      have H' := Aside0.mk H
      clear H
      obtain ⟨p390, q390⟩ : 0 ≤ (x14_1 : Int) ∧ x14_1 < (l1.length : Int) := ⟨dA, dA⟩
      obtain ⟨ad390, A390_0, c390_0, e390, hx390_0, hl390_0, hi390_0⟩ := at_L2 HR1.out x14_1 p390 q390
      cases e390
      replace hx390_0 := hC HB hx390_0
      have HR390_0 := Aside0.mk hi390_0
      have HC390_0 := Aside0.mk hl390_0
      clear hi390_0 hl390_0
      obtain ⟨p390, q390⟩ := eT p390 q390
      go_wp2_with (first | ((with_reducible refine gate_callee (f := 87) rfl ?_); refine gL (some 20) Try.func87 #[.slice A0 l0.length c0, .slice A390_0 (rd_L2 l1 x14_1).length c390_0] ?_; (with_reducible refine (impl_IsTogether.calls k1 _ _ l0 _ _ (rd_L2 l1 x14_1) true _ ?_ ?_ ?_ ?_ A9.out).mono ?_); exact cB HR0; exact HC0.out; exact cB HR390_0; exact HC390_0.out; rintro e w11 ⟨rfl, hb⟩; refine ⟨_, rfl, ?_⟩; replace HB := bs HB hb; (try clear hb)))
      go_roundg k1
      case measure => have := HK1.out; omega
      case rel => exact ⟨(wrap64 (x14_1 + 1)), rS, H', ⟨by have := HK1.out; omega⟩, ⟨bA⟩⟩
     replace c10 := Bool.eq_false_iff.mpr c10
     subst c10
     have H1 : (some false) = some r := by rw [if_neg (show ¬ (false = true) by decide)] at H; exact H
     clear H
     have H := H1
     clear H1
     obtain rfl := Option.some.inj H
     obtain ⟨p390, q390⟩ : 0 ≤ (x14_1 : Int) ∧ x14_1 < (l1.length : Int) := ⟨dA, dA⟩
     obtain ⟨ad390, A390_0, c390_0, e390, hx390_0, hl390_0, hi390_0⟩ := at_L2 HR1.out x14_1 p390 q390
     cases e390
     replace hx390_0 := hC HB hx390_0
     have HR390_0 := Aside0.mk hi390_0
     have HC390_0 := Aside0.mk hl390_0
     clear hi390_0 hl390_0
     obtain ⟨p390, q390⟩ := eT p390 q390
     go_wp2_with (first | ((with_reducible refine gate_callee (f := 87) rfl ?_); refine gL (some 20) Try.func87 #[.slice A0 l0.length c0, .slice A390_0 (rd_L2 l1 x14_1).length c390_0] ?_; (with_reducible refine (impl_IsTogether.calls k1 _ _ l0 _ _ (rd_L2 l1 x14_1) false _ ?_ ?_ ?_ ?_ A9.out).mono ?_); exact cB HR0; exact HC0.out; exact cB HR390_0; exact HC390_0.out; rintro e w12 ⟨rfl, hb⟩; refine ⟨_, rfl, ?_⟩; replace HB := bs HB hb; (try clear hb)))
     go_ret
     exact ⟨rA, bA⟩
    rw [if_neg c6] at H
    have c6b0 := decide_eq_false c6
    clear c6
    have H' := Aside0.mk H
    clear H
    go_wp2
    go_loopg [25] k1 (fun kq v25 w' => ∃ (x25_2 : Int), v25 = .int .i64 x25_2 ∧ Aside0 (impl_Covers.l1 kq l1 l0 (l0.length : Int) x25_2 = some r) ∧ Aside0 (kq ≤ k1) ∧ Aside0 (Below w.heap.size w w'))
    case atStart => exact ⟨(0), rS, H', ⟨Nat.le_refl _⟩, ⟨bA⟩⟩
    case round =>
     clear H'
     obtain ⟨x25_2, rfl, HA, HK2, HB⟩ := hrel
     cases gk with
     | zero => exact absurd HA.out (by simp [impl_Covers.l1])
     | succ k2 =>
      have H := HA.out
      clear HA
      simp only [impl_Covers.l1] at H
      by_cases c13 : x25_2 < (l0.length : Int)
      ·
       rw [if_pos c13] at H
       have c13b0 := decide_eq_true c13
       clear c13
       have c14 : 0 ≤ x25_2 := ifN H
       replace H := ifT H
       have c14b0 := decide_eq_true c14
       clear c14
       have c15 : x25_2 < (l0.length : Int) := ifN H
       replace H := ifT H
       have c15b0 := decide_eq_true c15
       clear c15
       obtain ⟨t394, A16, H⟩ := bindE H
       try dsimp only at H
       by_cases c17 : t394 = true
       ·
        subst c17
        have H1 : (impl_Covers.l1 k2 l1 l0 (l0.length : Int) (wrap64 (x25_2 + 1))) = some r := by rw [if_pos rfl] at H; exact H
        clear H
        have H := H1
        clear H1
        have H' := Aside0.mk H
        clear H
        obtain ⟨p392, q392⟩ : 0 ≤ (x25_2 : Int) ∧ x25_2 < (l0.length : Int) := ⟨dA, dA⟩
        obtain ⟨ad392, e392, hx392_0, hx392_1, hx392_2, hx392_3⟩ := at_T89 (Kd.C_below HR0.out HB.out) x25_2 p392 q392
        cases e392
        obtain ⟨p392, q392⟩ := eT p392 q392
        go_wp2_with (first | ((with_reducible refine gate_dst (N := 8) rfl ?_); refine bE (N := 8) (cs := #[.int .i64 0, .int .i64 0, .int .i64 0, .int .i64 0]) (t := 89) ?_; intro gb393 hg w18 hbox hb; have BK393 := Aside0.mk (hbox); have GW393 := gw w hg; have GE393 := gw w hg; replace HB := bs HB hb; clear hb hbox hg; obtain ⟨_, _, _, _, _, _, _, _⟩ := blkc4 BK393) | ((with_reducible refine gate_callee (f := 127) rfl ?_); refine gL (some 32) Try.func127 #[.slice A1 l1.length c1, .int .i64 ((rd_T89 l0 x25_2).f0)] ?_; (with_reducible refine (impl_isCovered.calls _ _ l1 ((rd_T89 l0 x25_2).f0) true _ ?_ ?_ A16.out).mono ?_); exact Kd.C_below HR1.out bG; exact HC1.out; rintro e w20 ⟨rfl, hb⟩; refine ⟨_, rfl, ?_⟩; replace BK393 := kc (o := .cells #[.int .i64 ((rd_T89 l0 x25_2).f0), .int .i64 ((rd_T89 l0 x25_2).f1), .int .i64 ((rd_T89 l0 x25_2).f2), .int .i64 ((rd_T89 l0 x25_2).f3)] 89 (0, 0)) (kp BK393) hb; replace HB := bs HB hb; (try clear hb)))
        go_roundg k2
        case measure => have := HK1.out; have := HK2.out; omega
        case rel => exact ⟨(wrap64 (x25_2 + 1)), rS, H', ⟨by have := HK1.out; have := HK2.out; omega⟩, ⟨bG⟩⟩
       replace c17 := Bool.eq_false_iff.mpr c17
       subst c17
       have H1 : (some false) = some r := by rw [if_neg (show ¬ (false = true) by decide)] at H; exact H
       clear H
       have H := H1
       clear H1
       obtain rfl := Option.some.inj H
       obtain ⟨p392, q392⟩ : 0 ≤ (x25_2 : Int) ∧ x25_2 < (l0.length : Int) := ⟨dA, dA⟩
       obtain ⟨ad392, e392, hx392_0, hx392_1, hx392_2, hx392_3⟩ := at_T89 (Kd.C_below HR0.out HB.out) x25_2 p392 q392
       cases e392
       obtain ⟨p392, q392⟩ := eT p392 q392
       go_wp2_with (first | ((with_reducible refine gate_dst (N := 8) rfl ?_); refine bE (N := 8) (cs := #[.int .i64 0, .int .i64 0, .int .i64 0, .int .i64 0]) (t := 89) ?_; intro gb393 hg w21 hbox hb; have BK393 := Aside0.mk (hbox); have GW393 := gw w hg; have GE393 := gw w hg; replace HB := bs HB hb; clear hb hbox hg; obtain ⟨_, _, _, _, _, _, _, _⟩ := blkc4 BK393) | ((with_reducible refine gate_callee (f := 127) rfl ?_); refine gL (some 32) Try.func127 #[.slice A1 l1.length c1, .int .i64 ((rd_T89 l0 x25_2).f0)] ?_; (with_reducible refine (impl_isCovered.calls _ _ l1 ((rd_T89 l0 x25_2).f0) false _ ?_ ?_ A16.out).mono ?_); exact Kd.C_below HR1.out bG; exact HC1.out; rintro e w23 ⟨rfl, hb⟩; refine ⟨_, rfl, ?_⟩; replace BK393 := kc (o := .cells #[.int .i64 ((rd_T89 l0 x25_2).f0), .int .i64 ((rd_T89 l0 x25_2).f1), .int .i64 ((rd_T89 l0 x25_2).f2), .int .i64 ((rd_T89 l0 x25_2).f3)] 89 (0, 0)) (kp BK393) hb; replace HB := bs HB hb; (try clear hb)))
       go_ret
       exact ⟨rA, bG⟩
      rw [if_neg c13] at H
      have c13b0 := decide_eq_false c13
      clear c13
      obtain rfl := Option.some.inj H
      go_wp2
      go_ret
      exact ⟨rA, bA⟩
 replace c4 := Bool.eq_false_iff.mpr c4
 subst c4
 have H1 : (some false) = some r := by rw [if_neg (show ¬ (false = true) by decide)] at H; exact H
 clear H
 have H := H1
 clear H1
 obtain rfl := Option.some.inj H
 go_enter Try.func128, Try.ntmps128
 go_wp2_with (first | ((with_reducible refine gate_callee (f := 126) rfl ?_); refine gL (some 10) Try.func126 #[.slice A0 l0.length c0] ?_; (with_reducible refine (impl_ArePaths.calls k _ _ l0 false _ ?_ ?_ A3.out).mono ?_); exact cO HR0; exact HC0.out; rintro e w24 ⟨rfl, hb⟩; refine ⟨_, rfl, ?_⟩; replace HB := bs HB hb; (try clear hb)))
 go_ret
 exact ⟨rA, bA⟩

/-! ### impl_IsPlan: function 78 -/
def impl_IsPlan.l0 : Nat → List (S89) → List (List Int) → List (S92) → Int → Int → Option (Bool)
 | 0, _, _, _, _, _ => none
 | k + 1, x0, x5, x13, x14, x15 => if x15 < x14 then (if 0 ≤ x15 then (if x15 < (x13.length : Int) then (if (((rd_T92 x13 x15).f0).length : Int) = 0 then (some false) else ((impl_IsTogether.f k x0 ((rd_T92 x13 x15).f0)).bind fun t402 => (if t402 = true then ((impl_LeastGreen.f k x0 ((rd_T92 x13 x15).f0)).bind fun t403 => ((impl_InRange.f ((rd_T92 x13 x15).f1) t403 60).bind fun t404 => (if t404 = true then (if x5.length < 5864062014805 then (impl_IsPlan.l0 k x0 (x5 ++ [(rd_T92 x13 x15).f0]) x13 x14 (wrap64 (x15 + 1))) else (none)) else (some false)))) else (some false)))) else (none)) else (none)) else ((impl_Covers.f k x0 x5).bind fun t399 => (some t399))
def impl_IsPlan.f (k : Nat) (l0 : List (S89)) (l1 : List (S92)) : Option (Bool) := (impl_InRange.f (l1.length : Int) 1 6).bind fun t395 => (if t395 = true then (impl_IsPlan.l0 k l0 (([] : List (List Int))) l1 (l1.length : Int) 0) else (some false))
theorem impl_IsPlan.mono_l : ∀ k, (∀ y0 y1 y2 y3 y4, LeO (impl_IsPlan.l0 k y0 y1 y2 y3 y4) (impl_IsPlan.l0 (k + 1) y0 y1 y2 y3 y4))
 | 0 => fun _ _ _ _ _ r h => by simp [impl_IsPlan.l0] at h
 | k + 1 => by
  have ih0 := impl_IsPlan.mono_l k
  ·
   intro y0 y1 y2 y3 y4
   unfold impl_IsPlan.l0
   exact mz4 ih0 impl_Covers.mono impl_IsTogether.mono impl_LeastGreen.mono
theorem impl_IsPlan.mono : ∀ a0 a1 k, LeO (impl_IsPlan.f k a0 a1) (impl_IsPlan.f (k + 1) a0 a1) := by
 intro a0 a1 k
 have ih0 := impl_IsPlan.mono_l k
 unfold impl_IsPlan.f
 exact mz4 ih0 impl_Covers.mono impl_IsTogether.mono impl_LeastGreen.mono
def impl_IsPlan.T7 : Bool × List (List Nat × List Nat) := (true, [([], []), ([0], [0]), ([1], [1]), ([2], [2]), ([3], [3]), ([4], [4]), ([4], [4]), ([6, 4], [4, 6]), ([5, 7, 4, 4], [4, 5, 7]), ([8, 4], [4, 8]), ([4, 9], [4, 9]), ([10, 8], [10]), ([11], [11]), ([12, 11], [11, 12]), ([11], [11]), ([11], [11]), ([15, 11], [11, 15]), ([14, 16, 11, 11], [11, 14, 16]), ([13, 17, 17, 11], [11, 13, 17]), ([18, 11], [11, 18]), ([11, 19], [11, 19])])
def impl_IsPlan.B7 : List Nat := [0, 1, 3, 7, 15, 31, 31, 95, 255, 511, 1023, 2047, 4095, 8191, 4095, 4095, 36863, 118783, 262143, 524287, 1048575]
theorem impl_IsPlan.tab7 : rtab .any (opsOf Try.f78 7) = impl_IsPlan.T7 := by kernel_rfl
theorem impl_IsPlan.bits7 : waitsOk impl_IsPlan.T7.2 impl_IsPlan.B7 = true := by kernel_rfl
set_option maxHeartbeats 8000000 in
set_option maxRecDepth 100000 in
theorem impl_IsPlan.calls (k : Nat) (A0 : Option Addr) (c0 : Nat) (l0 : List (S89)) (P1_ : Nat → Prop) (A1 : Option Addr) (c1 : Nat) (l1 : List (S92)) (r : Bool) (w : World) (hr0 : Kd.C k89 w A0 l0.length l0) (hc0 : l0.length ≤ c0) (hs1 : Kd.V k92 92 w w.heap.size (fun k_ => P1_ k_) (.slice A1 l1.length c1) l1) (h : impl_IsPlan.f k l0 l1 = some r) :
  Calls Try.prog 78 #[.slice A0 l0.length c0, .slice A1 l1.length c1] w fun e w' => e = .returned (.bool r) ∧ Below w.heap.size w w' := by
 have hu92 := Try.underlying92
 have HR0 := Aside0.mk hr0
 have HC0 := Aside0.mk hc0
 clear hr0 hc0
 have HO1 := Aside0.mk (show Kd.V k92 92 w w.heap.size (fun k_ => (P1_ k_ ∨ w.heap.size ≤ k_)) (.slice A1 l1.length c1) l1 from Kd.V_mono hs1 (fun k_ hk => .inl hk))
 have HB := Aside0.mk (Below.refl w.heap.size w)
 have H : ((impl_InRange.f (l1.length : Int) 1 6).bind fun t395 => (if t395 = true then (impl_IsPlan.l0 k l0 (([] : List (List Int))) l1 (l1.length : Int) 0) else (some false))) = some r := h
 clear h
 obtain ⟨t395, A3, H⟩ := bindE H
 try dsimp only at H
 by_cases c4 : t395 = true
 ·
  subst c4
  have H1 : (impl_IsPlan.l0 k l0 (([] : List (List Int))) l1 (l1.length : Int) 0) = some r := by rw [if_pos rfl] at H; exact H
  clear H
  have H := H1
  clear H1
  obtain ⟨y396, hy396⟩ : ∃ y_ : List (List Int), y_ = (([] : List (List Int))) := ⟨_, rfl⟩
  replace H : (impl_IsPlan.l0 k l0 y396 l1 (l1.length : Int) 0) = some r := rH H hy396
  have Ny396 := Aside0.mk hy396
  clear hy396
  have H' := Aside0.mk H
  clear H
  go_enter Try.func78, Try.ntmps78
  go_wp2_with (first | ((with_reducible refine gate_callee (f := 66) rfl ?_); refine gL (some 10) Try.func66 #[.int .i64 (l1.length : Int), .int .i64 1, .int .i64 6] ?_; (with_reducible refine (impl_InRange.calls (l1.length : Int) 1 6 true _ A3.out).mono ?_); rintro e w' ⟨rfl, ⟨nd, rfl⟩⟩; refine ⟨_, rfl, ?_⟩) | ((with_reducible refine gate_dst (N := 12) rfl ?_); refine Kd.N_lit (Kd.slice 3 (Kd.int .i64)) _ 41 ?hg (N' := 12) ?hd (xs := ([] : List (List Int))) (inner := []) (ok := (fun k_ => (P1_ k_ ∨ w.heap.size ≤ k_))) (okp := (fun k_ => (P1_ k_ ∨ w.heap.size ≤ k_))) ?hr ?hp (fun _ hk => hk) ((show ∀ k_, w.heap.size ≤ k_ → (fun k_ => (P1_ k_ ∨ w.heap.size ≤ k_)) k_ from fun k_ hk => (.inr (Nat.le_trans (below_size bA) hk))) _ (Nat.le_refl _)) (Below.refl _ _) (Nat.le_refl _) (by simp) ?_; (case hd => rfl); (case hg => rfl); (case hr => first | (go_simp; done) | (go_simp; rfl)); (case hp => exact (Reps.none _ _)); intro v397 w5 ho6 hb hg_ hnew_; clear hg_ hnew_; (first | rw [← Ny396.out] at ho6 | (simp only [Int.reduceToNat] at ho6; rw [← Ny396.out] at ho6)); have n0_ := Aside0.mk (Kd.V_elder' (by (with_reducible repeat (first | apply Kd.V_alloc | apply Kd.V_drewN | apply Kd.V_drew)); exact HO1.out) (by first | exact Kd.N_base ho6 | exact Kd.N_base (Kd.S_N ho6)) hb); have n1_ := Aside0.mk (Kd.N_lower ho6 (below_size bA)); have n2_ := bs HB hb; clear HO1; clear HB; have HO1 := n0_; have HO398 := n1_; have HB := n2_; clear n0_ n1_ n2_; clear hb ho6))
  go_loopg [5, 15] k (fun kq v5 v15 w' => ∃ (x5_1 : List (List Int)) (x15_1 : Int), v15 = .int .i64 x15_1 ∧ Aside0 (impl_IsPlan.l0 kq l0 x5_1 l1 (l1.length : Int) x15_1 = some r) ∧ Aside0 (kq ≤ k) ∧ Aside0 (Kd.N (Kd.slice 3 (Kd.int .i64)) 41 w' w.heap.size (fun k_ => (P1_ k_ ∨ w.heap.size ≤ k_)) v5 x5_1) ∧ Aside0 (Kd.V k92 92 w' w.heap.size (fun k_ => (P1_ k_ ∨ w.heap.size ≤ k_) ∧ some k_ ≠ (v5 : Value).ownBlock) (.slice A1 l1.length c1) l1) ∧ Aside0 (Below w.heap.size w w'))
  case atStart => exact ⟨(y396), (0), rS, H', ⟨Nat.le_refl _⟩, ⟨by (with_reducible repeat (first | apply Kd.N_alloc | apply Kd.N_drewN | apply Kd.N_drew)); exact HO398.out⟩, ⟨by (with_reducible repeat (first | apply Kd.V_alloc | apply Kd.V_drewN | apply Kd.V_drew)); exact HO1.out⟩, ⟨bA⟩⟩
  case round =>
   clear H'
   obtain ⟨x5_1, x15_1, rfl, HA, HK1, HO_5, HO_13, HB⟩ := hrel
   cases gk with
   | zero => exact absurd HA.out (by simp [impl_IsPlan.l0])
   | succ k1 =>
    have H := HA.out
    clear HA
    simp only [impl_IsPlan.l0] at H
    by_cases c7 : x15_1 < (l1.length : Int)
    ·
     rw [if_pos c7] at H
     have c7b0 := decide_eq_true c7
     clear c7
     have c8 : 0 ≤ x15_1 := ifN H
     replace H := ifT H
     have c8b0 := decide_eq_true c8
     clear c8
     have c9 : x15_1 < (l1.length : Int) := ifN H
     replace H := ifT H
     have c9b0 := decide_eq_true c9
     clear c9
     by_cases c10 : (((rd_T92 l1 x15_1).f0).length : Int) = 0
     ·
      rw [if_pos c10] at H
      have c10b0 : ((((rd_T92 l1 x15_1).f0).length : Int) == 0) = true := beq_iff_eq.mpr c10
      have c10b1 : ((((rd_T92 l1 x15_1).f0).length : Int) != 0) = false := bne_eq_false_iff_eq.mpr c10
      clear c10
      obtain rfl := Option.some.inj H
      obtain ⟨p400, q400⟩ : 0 ≤ (x15_1 : Int) ∧ x15_1 < (l1.length : Int) := ⟨dA, dA⟩
      obtain ⟨ad400, A400_0, c400_0, e400, hx400_0, hx400_1, hl400_0, hi400_0⟩ := at_T92 (Kd.V_reads' HO_13.out).2.2 x15_1 p400 q400
      cases e400
      obtain ⟨ce400, hce400, hMe400, hcc400⟩ := Kd.V_get HO_13.out z92 x15_1 p400 (by first | exact q400 | exact dA | (have e_ := (Kd.V_reads' HO_13.out).1; omega))
      obtain ⟨ua400_0, uc400_0, rfl, ul400_0, ge400_0⟩ := k92_openF hMe400
      have hv400_0 := hcc400 0 _ rfl
      rw [Nat.add_zero] at hv400_0
      replace hv400_0 := Option.some.inj (hv400_0.symm.trans hx400_0)
      injection hv400_0 with hva_ hvn_ hvc_
      rw [hva_] at ge400_0
      rw [hvc_] at ul400_0
      have HL400_0 := Aside0.mk (show Kd.V (Kd.int .i64) 3 _ w.heap.size _ _ ((rd_T92 l1 x15_1).f0) from Kd.V_mk ul400_0 ge400_0)
      clear hva_ hvn_ hvc_ ge400_0 ul400_0
      clear hcc400 hce400
      have HR400_0 := Aside0.mk hi400_0
      have HC400_0 := Aside0.mk hl400_0
      clear hi400_0 hl400_0
      obtain ⟨p400, q400⟩ := eT p400 q400
      try go_wp2_with (first | ((with_reducible refine gate_dst (N := 7) rfl ?_); refine bE (N := 7) (cs := #[.slice none 0 0, .int .i64 0]) (t := 92) ?_; intro gb401 hg w11 hbox hb; have n0_ := Aside0.mk (Kd.N_below (Kd.N_elderB (by (with_reducible repeat (first | apply Kd.N_alloc | apply Kd.N_drewN | apply Kd.N_drew)); exact HO_5.out) gb401 (Nat.le_of_eq hg.symm)) hb); have n1_ := Aside0.mk (Kd.V_below (Kd.V_elderB (by (with_reducible repeat (first | apply Kd.V_alloc | apply Kd.V_drewN | apply Kd.V_drew)); exact HO_13.out) gb401 (Nat.le_of_eq hg.symm)) hb); have n2_ := Aside0.mk (Kd.V_below (Kd.V_elderB (by (with_reducible repeat (first | apply Kd.V_alloc | apply Kd.V_drewN | apply Kd.V_drew)); exact HL400_0.out) gb401 (Nat.le_of_eq hg.symm)) hb); have n3_ := Aside0.mk (Kd.C_below (by repeat (first | (with_reducible exact HR400_0.out) | (with_reducible refine Kd.C_alloc ?_ _) | (with_reducible refine Kd.C_drewN ?_ _) | (with_reducible refine Kd.C_drew ?_) | exact HR400_0.out)) hb); have n4_ := bs HB hb; have n5_ := Aside0.mk (hbox); have n6_ := gw w hg; have n7_ := gw w hg; clear HO_5; clear HO_13; clear HL400_0; clear HR400_0; clear HB; have HO_5 := n0_; have HO_13 := n1_; have HL400_0 := n2_; have HR400_0 := n3_; have HB := n4_; have BK401 := n5_; have GW401 := n6_; have GE401 := n7_; clear n0_ n1_ n2_ n3_ n4_ n5_ n6_ n7_; clear hb hbox hg; obtain ⟨_, _, _, _⟩ := blkc2 BK401))
      have n0_ : Aside0 (Kd.N (Kd.slice 3 (Kd.int .i64)) 41 ((w11.setCell ⟨gb401, 0, none⟩ (.slice A400_0 ((rd_T92 l1 x15_1).f0).length c400_0)).setCell ⟨gb401, 1, none⟩ (.int .i64 ((rd_T92 l1 x15_1).f1))) w.heap.size (fun k_ => (P1_ k_ ∨ w.heap.size ≤ k_) ∧ k_ ≠ gb401) u5 x5_1) := ⟨by (with_reducible repeat (first | apply Kd.N_alloc | apply Kd.N_drewN | apply Kd.N_drew)); exact Kd.N_mono (Kd.N_far (p := ⟨gb401, 1, none⟩) (Kd.N_far (p := ⟨gb401, 0, none⟩) (Kd.N_mono HO_5.out (fun k_ hk => (⟨hk, hk.2⟩ : _ ∧ k_ ≠ gb401))) (fun _ hk => hk.2) (.slice A400_0 ((rd_T92 l1 x15_1).f0).length c400_0)) (fun _ hk => hk.2) (.int .i64 ((rd_T92 l1 x15_1).f1))) (fun _ hk => ⟨hk.1.1, hk.1.2⟩)⟩
      have n1_ : Aside0 (Kd.V k92 92 ((w11.setCell ⟨gb401, 0, none⟩ (.slice A400_0 ((rd_T92 l1 x15_1).f0).length c400_0)).setCell ⟨gb401, 1, none⟩ (.int .i64 ((rd_T92 l1 x15_1).f1))) w.heap.size (fun k_ => (P1_ k_ ∨ w.heap.size ≤ k_) ∧ some k_ ≠ (u5 : Value).ownBlock ∧ k_ ≠ gb401) (.slice (some ad400) l1.length c1) l1) := ⟨by (with_reducible repeat (first | apply Kd.V_alloc | apply Kd.V_drewN | apply Kd.V_drew)); exact Kd.V_mono (Kd.V_far (p := ⟨gb401, 1, none⟩) (Kd.V_far (p := ⟨gb401, 0, none⟩) (Kd.V_mono HO_13.out (fun k_ hk => (⟨hk, hk.2⟩ : _ ∧ k_ ≠ gb401))) (fun _ hk => hk.2) (.slice A400_0 ((rd_T92 l1 x15_1).f0).length c400_0)) (fun _ hk => hk.2) (.int .i64 ((rd_T92 l1 x15_1).f1))) (fun _ hk => ⟨hk.1.1.1, ⟨hk.1.1.2, hk.1.2⟩⟩)⟩
      have n2_ : Aside0 (Kd.V (Kd.int .i64) 3 ((w11.setCell ⟨gb401, 0, none⟩ (.slice A400_0 ((rd_T92 l1 x15_1).f0).length c400_0)).setCell ⟨gb401, 1, none⟩ (.int .i64 ((rd_T92 l1 x15_1).f1))) w.heap.size (fun k_ => (P1_ k_ ∨ w.heap.size ≤ k_) ∧ some k_ ≠ (u5 : Value).ownBlock ∧ k_ ≠ gb401) (.slice A400_0 ((rd_T92 l1 x15_1).f0).length c400_0) ((rd_T92 l1 x15_1).f0)) := ⟨by (with_reducible repeat (first | apply Kd.V_alloc | apply Kd.V_drewN | apply Kd.V_drew)); exact Kd.V_mono (Kd.V_far (p := ⟨gb401, 1, none⟩) (Kd.V_far (p := ⟨gb401, 0, none⟩) (Kd.V_mono HL400_0.out (fun k_ hk => (⟨hk, hk.2⟩ : _ ∧ k_ ≠ gb401))) (fun _ hk => hk.2) (.slice A400_0 ((rd_T92 l1 x15_1).f0).length c400_0)) (fun _ hk => hk.2) (.int .i64 ((rd_T92 l1 x15_1).f1))) (fun _ hk => ⟨hk.1.1.1, ⟨hk.1.1.2, hk.1.2⟩⟩)⟩
      have n3_ : Aside0 (((w11.setCell ⟨gb401, 0, none⟩ (.slice A400_0 ((rd_T92 l1 x15_1).f0).length c400_0)).setCell ⟨gb401, 1, none⟩ (.int .i64 ((rd_T92 l1 x15_1).f1))).heap[gb401]? = some (.cells #[.slice A400_0 ((rd_T92 l1 x15_1).f0).length c400_0, .int .i64 ((rd_T92 l1 x15_1).f1)] 92 (0, 0))) := ⟨kp BK401⟩
      have n4_ : Aside0 (Below w.heap.size w ((w11.setCell ⟨gb401, 0, none⟩ (.slice A400_0 ((rd_T92 l1 x15_1).f0).length c400_0)).setCell ⟨gb401, 1, none⟩ (.int .i64 ((rd_T92 l1 x15_1).f1)))) := ⟨bG⟩
      (try clear HO_5)
      (try clear HO_13)
      (try clear HL400_0)
      (try clear BK401)
      (try clear HB)
      generalize ((w11.setCell ⟨gb401, 0, none⟩ (.slice A400_0 ((rd_T92 l1 x15_1).f0).length c400_0)).setCell ⟨gb401, 1, none⟩ (.int .i64 ((rd_T92 l1 x15_1).f1))) = w13 at n0_ n1_ n2_ n3_ n4_ ⊢
      have HO_5 := n0_
      have HO_13 := n1_
      have HL400_0 := n2_
      have BK401 := n3_
      have HB := n4_
      clear n0_ n1_ n2_ n3_ n4_
      replace HO_5 := dn HO_5
      replace HO_13 := dv HO_13
      replace HL400_0 := Aside0.mk (Kd.V_drew HL400_0.out)
      replace BK401 := dk BK401
      have HBo := HB
      replace HB := db HB
      refine sw (ds := []) 21 (mb 21 0) impl_IsPlan.tab7 impl_IsPlan.bits7 (h2 BK401) (fun hHeld HT_ HW_ => ?_)
      generalize w13.drew = w14 at HO_5 HO_13 HL400_0 BK401 HB hHeld ⊢
      refine pa 0 19 (mb 21 1) HT_ ?_
      refine ta2 1 20 (mb 21 3) HT_ HW_ hHeld ?_
      refine pa 2 21 (mb 21 7) HT_ ?_
      refine pa 3 22 (mb 21 15) HT_ ?_
      refine pa 4 23 (mb 21 31) HT_ ?_
      refine pu 5 24 (mb 21 63) HT_ ?_
      refine pu 6 25 (mb 21 127) HT_ ?_
      refine pu 7 26 (mb 21 255) HT_ ?_
      refine pu 8 27 (mb 21 511) HT_ ?_
      refine pu 9 28 (mb 21 1023) HT_ ?_
      refine pa 10 29 (mb 21 2047) HT_ ?_
      refine pa 11 30 (mb 21 4095) HT_ ?_
      refine pu 12 31 (mb 21 8191) HT_ ?_
      refine pu 13 32 (mb 21 16383) HT_ ?_
      refine pu 14 33 (mb 21 32767) HT_ ?_
      refine pu 15 34 (mb 21 65535) HT_ ?_
      refine pu 16 35 (mb 21 131071) HT_ ?_
      refine pu 17 36 (mb 21 262143) HT_ ?_
      refine pu 18 37 (mb 21 524287) HT_ ?_
      refine pu 19 38 (mb 21 1048575) HT_ ?_
      refine pa 20 39 (mb 21 2097151) HT_ ?_
      refine eA HT_ ?_
      try go_wp2
      go_ret
      exact ⟨rA, bG⟩
     rw [if_neg c10] at H
     have c10b0 : ((((rd_T92 l1 x15_1).f0).length : Int) == 0) = false := beq_eq_false_iff_ne.mpr c10
     have c10b1 : ((((rd_T92 l1 x15_1).f0).length : Int) != 0) = true := bne_iff_ne.mpr c10
     have c10b2 : ¬ (((rd_T92 l1 x15_1).f0) = []) := fun h_ => c10 (by rw [h_]; rfl)
     obtain ⟨t402, A15, H⟩ := bindE H
     try dsimp only at H
     by_cases c16 : t402 = true
     ·
      subst c16
      have H1 : ((impl_LeastGreen.f k1 l0 ((rd_T92 l1 x15_1).f0)).bind fun t403 => ((impl_InRange.f ((rd_T92 l1 x15_1).f1) t403 60).bind fun t404 => (if t404 = true then (if x5_1.length < 5864062014805 then (impl_IsPlan.l0 k1 l0 (x5_1 ++ [(rd_T92 l1 x15_1).f0]) l1 (l1.length : Int) (wrap64 (x15_1 + 1))) else (none)) else (some false)))) = some r := by rw [if_pos rfl] at H; exact H
      clear H
      have H := H1
      clear H1
      obtain ⟨t403, A17, H⟩ := bindE H
      try dsimp only at H
      obtain ⟨t404, A18, H⟩ := bindE H
      try dsimp only at H
      by_cases c19 : t404 = true
      ·
       subst c19
       have H1 : (if x5_1.length < 5864062014805 then (impl_IsPlan.l0 k1 l0 (x5_1 ++ [(rd_T92 l1 x15_1).f0]) l1 (l1.length : Int) (wrap64 (x15_1 + 1))) else (none)) = some r := by rw [if_pos rfl] at H; exact H
       clear H
       have H := H1
       clear H1
       have c20 : x5_1.length < 5864062014805 := ifN H
       replace H := ifT H
       have LMc20 := Aside0.mk c20
       clear c20
       obtain ⟨y405, hy405⟩ : ∃ y_ : List (List Int), y_ = (x5_1 ++ [(rd_T92 l1 x15_1).f0]) := ⟨_, rfl⟩
       replace H : (impl_IsPlan.l0 k1 l0 y405 l1 (l1.length : Int) (wrap64 (x15_1 + 1))) = some r := rH H hy405
       have Ny405 := Aside0.mk hy405
       clear hy405
       have H' := Aside0.mk H
       clear H
       obtain ⟨p400, q400⟩ : 0 ≤ (x15_1 : Int) ∧ x15_1 < (l1.length : Int) := ⟨dA, dA⟩
       obtain ⟨ad400, A400_0, c400_0, e400, hx400_0, hx400_1, hl400_0, hi400_0⟩ := at_T92 (Kd.V_reads' HO_13.out).2.2 x15_1 p400 q400
       cases e400
       obtain ⟨ce400, hce400, hMe400, hcc400⟩ := Kd.V_get HO_13.out z92 x15_1 p400 (by first | exact q400 | exact dA | (have e_ := (Kd.V_reads' HO_13.out).1; omega))
       obtain ⟨ua400_0, uc400_0, rfl, ul400_0, ge400_0⟩ := k92_openF hMe400
       have hv400_0 := hcc400 0 _ rfl
       rw [Nat.add_zero] at hv400_0
       replace hv400_0 := Option.some.inj (hv400_0.symm.trans hx400_0)
       injection hv400_0 with hva_ hvn_ hvc_
       rw [hva_] at ge400_0
       rw [hvc_] at ul400_0
       have HL400_0 := Aside0.mk (show Kd.V (Kd.int .i64) 3 _ w.heap.size _ _ ((rd_T92 l1 x15_1).f0) from Kd.V_mk ul400_0 ge400_0)
       clear hva_ hvn_ hvc_ ge400_0 ul400_0
       clear hcc400 hce400
       have HR400_0 := Aside0.mk hi400_0
       have HC400_0 := Aside0.mk hl400_0
       clear hi400_0 hl400_0
       obtain ⟨p400, q400⟩ := eT p400 q400
       try go_wp2_with (first | ((with_reducible refine gate_dst (N := 7) rfl ?_); refine bE (N := 7) (cs := #[.slice none 0 0, .int .i64 0]) (t := 92) ?_; intro gb401 hg w21 hbox hb; have n0_ := Aside0.mk (Kd.N_below (Kd.N_elderB (by (with_reducible repeat (first | apply Kd.N_alloc | apply Kd.N_drewN | apply Kd.N_drew)); exact HO_5.out) gb401 (Nat.le_of_eq hg.symm)) hb); have n1_ := Aside0.mk (Kd.V_below (Kd.V_elderB (by (with_reducible repeat (first | apply Kd.V_alloc | apply Kd.V_drewN | apply Kd.V_drew)); exact HO_13.out) gb401 (Nat.le_of_eq hg.symm)) hb); have n2_ := Aside0.mk (Kd.V_below (Kd.V_elderB (by (with_reducible repeat (first | apply Kd.V_alloc | apply Kd.V_drewN | apply Kd.V_drew)); exact HL400_0.out) gb401 (Nat.le_of_eq hg.symm)) hb); have n3_ := Aside0.mk (Kd.C_below (by repeat (first | (with_reducible exact HR400_0.out) | (with_reducible refine Kd.C_alloc ?_ _) | (with_reducible refine Kd.C_drewN ?_ _) | (with_reducible refine Kd.C_drew ?_) | exact HR400_0.out)) hb); have n4_ := bs HB hb; have n5_ := Aside0.mk (hbox); have n6_ := gw w hg; have n7_ := gw w hg; clear HO_5; clear HO_13; clear HL400_0; clear HR400_0; clear HB; have HO_5 := n0_; have HO_13 := n1_; have HL400_0 := n2_; have HR400_0 := n3_; have HB := n4_; have BK401 := n5_; have GW401 := n6_; have GE401 := n7_; clear n0_ n1_ n2_ n3_ n4_ n5_ n6_ n7_; clear hb hbox hg; obtain ⟨_, _, _, _⟩ := blkc2 BK401))
       have n0_ : Aside0 (Kd.N (Kd.slice 3 (Kd.int .i64)) 41 ((w21.setCell ⟨gb401, 0, none⟩ (.slice A400_0 ((rd_T92 l1 x15_1).f0).length c400_0)).setCell ⟨gb401, 1, none⟩ (.int .i64 ((rd_T92 l1 x15_1).f1))) w.heap.size (fun k_ => (P1_ k_ ∨ w.heap.size ≤ k_) ∧ k_ ≠ gb401) u5 x5_1) := ⟨by (with_reducible repeat (first | apply Kd.N_alloc | apply Kd.N_drewN | apply Kd.N_drew)); exact Kd.N_mono (Kd.N_far (p := ⟨gb401, 1, none⟩) (Kd.N_far (p := ⟨gb401, 0, none⟩) (Kd.N_mono HO_5.out (fun k_ hk => (⟨hk, hk.2⟩ : _ ∧ k_ ≠ gb401))) (fun _ hk => hk.2) (.slice A400_0 ((rd_T92 l1 x15_1).f0).length c400_0)) (fun _ hk => hk.2) (.int .i64 ((rd_T92 l1 x15_1).f1))) (fun _ hk => ⟨hk.1.1, hk.1.2⟩)⟩
       have n1_ : Aside0 (Kd.V k92 92 ((w21.setCell ⟨gb401, 0, none⟩ (.slice A400_0 ((rd_T92 l1 x15_1).f0).length c400_0)).setCell ⟨gb401, 1, none⟩ (.int .i64 ((rd_T92 l1 x15_1).f1))) w.heap.size (fun k_ => (P1_ k_ ∨ w.heap.size ≤ k_) ∧ some k_ ≠ (u5 : Value).ownBlock ∧ k_ ≠ gb401) (.slice (some ad400) l1.length c1) l1) := ⟨by (with_reducible repeat (first | apply Kd.V_alloc | apply Kd.V_drewN | apply Kd.V_drew)); exact Kd.V_mono (Kd.V_far (p := ⟨gb401, 1, none⟩) (Kd.V_far (p := ⟨gb401, 0, none⟩) (Kd.V_mono HO_13.out (fun k_ hk => (⟨hk, hk.2⟩ : _ ∧ k_ ≠ gb401))) (fun _ hk => hk.2) (.slice A400_0 ((rd_T92 l1 x15_1).f0).length c400_0)) (fun _ hk => hk.2) (.int .i64 ((rd_T92 l1 x15_1).f1))) (fun _ hk => ⟨hk.1.1.1, ⟨hk.1.1.2, hk.1.2⟩⟩)⟩
       have n2_ : Aside0 (Kd.V (Kd.int .i64) 3 ((w21.setCell ⟨gb401, 0, none⟩ (.slice A400_0 ((rd_T92 l1 x15_1).f0).length c400_0)).setCell ⟨gb401, 1, none⟩ (.int .i64 ((rd_T92 l1 x15_1).f1))) w.heap.size (fun k_ => (P1_ k_ ∨ w.heap.size ≤ k_) ∧ some k_ ≠ (u5 : Value).ownBlock ∧ k_ ≠ gb401) (.slice A400_0 ((rd_T92 l1 x15_1).f0).length c400_0) ((rd_T92 l1 x15_1).f0)) := ⟨by (with_reducible repeat (first | apply Kd.V_alloc | apply Kd.V_drewN | apply Kd.V_drew)); exact Kd.V_mono (Kd.V_far (p := ⟨gb401, 1, none⟩) (Kd.V_far (p := ⟨gb401, 0, none⟩) (Kd.V_mono HL400_0.out (fun k_ hk => (⟨hk, hk.2⟩ : _ ∧ k_ ≠ gb401))) (fun _ hk => hk.2) (.slice A400_0 ((rd_T92 l1 x15_1).f0).length c400_0)) (fun _ hk => hk.2) (.int .i64 ((rd_T92 l1 x15_1).f1))) (fun _ hk => ⟨hk.1.1.1, ⟨hk.1.1.2, hk.1.2⟩⟩)⟩
       have n3_ : Aside0 (((w21.setCell ⟨gb401, 0, none⟩ (.slice A400_0 ((rd_T92 l1 x15_1).f0).length c400_0)).setCell ⟨gb401, 1, none⟩ (.int .i64 ((rd_T92 l1 x15_1).f1))).heap[gb401]? = some (.cells #[.slice A400_0 ((rd_T92 l1 x15_1).f0).length c400_0, .int .i64 ((rd_T92 l1 x15_1).f1)] 92 (0, 0))) := ⟨kp BK401⟩
       have n4_ : Aside0 (Below w.heap.size w ((w21.setCell ⟨gb401, 0, none⟩ (.slice A400_0 ((rd_T92 l1 x15_1).f0).length c400_0)).setCell ⟨gb401, 1, none⟩ (.int .i64 ((rd_T92 l1 x15_1).f1)))) := ⟨bG⟩
       (try clear HO_5)
       (try clear HO_13)
       (try clear HL400_0)
       (try clear BK401)
       (try clear HB)
       generalize ((w21.setCell ⟨gb401, 0, none⟩ (.slice A400_0 ((rd_T92 l1 x15_1).f0).length c400_0)).setCell ⟨gb401, 1, none⟩ (.int .i64 ((rd_T92 l1 x15_1).f1))) = w23 at n0_ n1_ n2_ n3_ n4_ ⊢
       have HO_5 := n0_
       have HO_13 := n1_
       have HL400_0 := n2_
       have BK401 := n3_
       have HB := n4_
       clear n0_ n1_ n2_ n3_ n4_
       replace HO_5 := dn HO_5
       replace HO_13 := dv HO_13
       replace HL400_0 := Aside0.mk (Kd.V_drew HL400_0.out)
       replace BK401 := dk BK401
       have HBo := HB
       replace HB := db HB
       refine sw (ds := []) 21 (mb 21 0) impl_IsPlan.tab7 impl_IsPlan.bits7 (h2 BK401) (fun hHeld HT_ HW_ => ?_)
       generalize w23.drew = w24 at HO_5 HO_13 HL400_0 BK401 HB hHeld ⊢
       refine pa 0 19 (mb 21 1) HT_ ?_
       refine ta2 1 20 (mb 21 3) HT_ HW_ hHeld ?_
       refine pa 2 21 (mb 21 7) HT_ ?_
       refine pa 3 22 (mb 21 15) HT_ ?_
       refine pa 4 23 (mb 21 31) HT_ ?_
       refine pa 5 24 (mb 21 63) HT_ ?_
       refine pa 6 25 (mb 21 127) HT_ ?_
       refine ta2 7 26 (mb 21 255) HT_ HW_ hHeld ?_
       refine oa 8 27 (mb 21 511) HT_ (fun K hK => ?_)
       refine gA Try.func87 #[.slice A0 l0.length c0, .slice A400_0 ((rd_T92 l1 x15_1).f0).length c400_0] ?_
       with_reducible refine (impl_IsTogether.calls k1 _ _ l0 _ _ ((rd_T92 l1 x15_1).f0) true _ ?side1 ?side2 ?side3 ?side4 A15.out).mono ?_
       (case side1 => exact cB HR0)
       (case side2 => exact HC0.out)
       (case side3 => repeat (first | exact ((Kd.V_reads' (by (with_reducible repeat (first | apply Kd.V_alloc | apply Kd.V_drewN | apply Kd.V_drew)); exact HL400_0.out)).2.2) | (with_reducible refine Kd.C_alloc ?_ _) | (with_reducible refine Kd.C_drewN ?_ _) | (with_reducible refine Kd.C_drew ?_)))
       (case side4 => exact HC400_0.out)
       rintro e w25 ⟨rfl, hb⟩
       refine ⟨_, rfl, ?_⟩
       replace HO_5 := Aside0.mk (Kd.N_below (by (with_reducible repeat (first | apply Kd.N_alloc | apply Kd.N_drewN | apply Kd.N_drew)); exact HO_5.out) hb)
       replace HO_13 := Aside0.mk (Kd.V_below (by (with_reducible repeat (first | apply Kd.V_alloc | apply Kd.V_drewN | apply Kd.V_drew)); exact HO_13.out) hb)
       replace HL400_0 := Aside0.mk (Kd.V_below (by (with_reducible repeat (first | apply Kd.V_alloc | apply Kd.V_drewN | apply Kd.V_drew)); exact HL400_0.out) hb)
       replace BK401 := kb BK401 hb
       replace HB := bs HB hb
       (try clear hb)
       (try clear hb2)
       (try clear hk)
       (try clear hi)
       refine hK.out _ _ (cn2 BK401) (fun hHeld => ?_)
       clear hK K
       refine nB ?_
       refine pa 9 28 (mb 21 1023) HT_ ?_
       refine pa 10 29 (mb 21 2047) HT_ ?_
       refine pa 11 30 (mb 21 4095) HT_ ?_
       refine pa 12 31 (mb 21 8191) HT_ ?_
       refine pa 14 33 (mb 21 24575) HT_ ?_
       refine pa 15 34 (mb 21 57343) HT_ ?_
       refine ta2 13 32 (mb 21 65535) HT_ HW_ hHeld ?_
       refine ta2 16 35 (mb 21 131071) HT_ HW_ hHeld ?_
       refine oa 17 36 (mb 21 262143) HT_ (fun K hK => ?_)
       refine gA Try.func77 #[.slice A0 l0.length c0, .slice A400_0 ((rd_T92 l1 x15_1).f0).length c400_0] ?_
       with_reducible refine (impl_LeastGreen.calls k1 _ _ l0 _ _ ((rd_T92 l1 x15_1).f0) t403 _ ?side1 ?side2 ?side3 ?side4 A17.out).mono ?_
       (case side1 => exact cB HR0)
       (case side2 => exact HC0.out)
       (case side3 => repeat (first | exact ((Kd.V_reads' (by (with_reducible repeat (first | apply Kd.V_alloc | apply Kd.V_drewN | apply Kd.V_drew)); exact HL400_0.out)).2.2) | (with_reducible refine Kd.C_alloc ?_ _) | (with_reducible refine Kd.C_drewN ?_ _) | (with_reducible refine Kd.C_drew ?_)))
       (case side4 => exact HC400_0.out)
       rintro e w26 ⟨rfl, hb⟩
       refine ⟨_, rfl, ?_⟩
       replace HO_5 := Aside0.mk (Kd.N_below (by (with_reducible repeat (first | apply Kd.N_alloc | apply Kd.N_drewN | apply Kd.N_drew)); exact HO_5.out) hb)
       replace HO_13 := Aside0.mk (Kd.V_below (by (with_reducible repeat (first | apply Kd.V_alloc | apply Kd.V_drewN | apply Kd.V_drew)); exact HO_13.out) hb)
       replace HL400_0 := Aside0.mk (Kd.V_below (by (with_reducible repeat (first | apply Kd.V_alloc | apply Kd.V_drewN | apply Kd.V_drew)); exact HL400_0.out) hb)
       replace BK401 := kb BK401 hb
       replace HB := bs HB hb
       (try clear hb)
       (try clear hb2)
       (try clear hk)
       (try clear hi)
       refine hK.out _ _ (cn2 BK401) (fun hHeld => ?_)
       clear hK K
       refine nB ?_
       refine oa 18 37 (mb 21 524287) HT_ (fun K hK => ?_)
       refine gA Try.func66 #[.int .i64 ((rd_T92 l1 x15_1).f1), .int .i64 t403, .int .i64 60] ?_
       with_reducible refine (impl_InRange.calls ((rd_T92 l1 x15_1).f1) t403 60 true _ A18.out).mono ?_
       rintro e w' ⟨rfl, ⟨nd, rfl⟩⟩
       refine ⟨_, rfl, ?_⟩
       refine hK.out _ _ (cn2 BK401) (fun hHeld => ?_)
       clear hK K
       refine nB ?_
       refine pa 19 38 (mb 21 1048575) HT_ ?_
       refine pa 20 39 (mb 21 2097151) HT_ ?_
       refine eA HT_ ?_
       obtain ⟨_, _, _, _⟩ := blkc2 BK401
       try go_wp2_with (first | ((with_reducible refine gate_builtin (b := .append) (xs := #[.tmp 40, .tmp 43]) rfl ?_); at_builtin; refine Kd.N_append (Kd.slice 3 (Kd.int .i64)) (w0 := w) w.heap.size rfl (.tmp 40) (.tmp 43) 103 41 (.slice none 0 0) 24 rfl Try.underlying103 info41 rfl (by decide) (by omega) u5 x5_1 ((rd_T92 l1 x15_1).f0) [.slice A400_0 ((rd_T92 l1 x15_1).f0).length c400_0] (fun k_ => (P1_ k_ ∨ w.heap.size ≤ k_) ∧ k_ ≠ gb401) (fun k_ => ((fun k_ => (P1_ k_ ∨ w.heap.size ≤ k_) ∧ k_ ≠ gb401)) k_ ∧ some k_ ≠ (u5 : Value).ownBlock) rfl rfl ?aP (fun _ hk => hk) ?aF ?aO ?aB ?aS ?aL ?_; (case aP => first | exact (Kd.FK_slice_mk (Kd.V_reads' (Kd.V_mono (ok' := (fun k_ => ((fun k_ => (P1_ k_ ∨ w.heap.size ≤ k_) ∧ k_ ≠ gb401)) k_ ∧ some k_ ≠ (u5 : Value).ownBlock)) (HL400_0.out) (fun k_ hk => ⟨⟨hk.1, hk.2.2⟩, hk.2.1⟩))).2.1 (Kd.V_F (Kd.V_mono (ok' := (fun k_ => ((fun k_ => (P1_ k_ ∨ w.heap.size ≤ k_) ∧ k_ ≠ gb401)) k_ ∧ some k_ ≠ (u5 : Value).ownBlock)) (HL400_0.out) (fun k_ hk => ⟨⟨hk.1, hk.2.2⟩, hk.2.1⟩)))) | exact (Kd.FK_slice_mk (Kd.V_reads' (Kd.V_mono (ok' := (fun k_ => ((fun k_ => (P1_ k_ ∨ w.heap.size ≤ k_) ∧ k_ ≠ gb401)) k_ ∧ some k_ ≠ (u5 : Value).ownBlock)) (HL400_0.out) (fun k_ hk => by first | exact ⟨⟨hk.1, hk.2.2⟩, hk.2.1⟩ | exact ⟨⟨hk.1.1, hk.2⟩, hk.1.2⟩ | exact ⟨⟨hk.1.1, hk.1.2⟩, hk.2⟩ | exact ⟨hk.1.1, hk.2, hk.1.2⟩ | exact hk.1 | simp_all))).2.1 (Kd.V_F (Kd.V_mono (ok' := (fun k_ => ((fun k_ => (P1_ k_ ∨ w.heap.size ≤ k_) ∧ k_ ≠ gb401)) k_ ∧ some k_ ≠ (u5 : Value).ownBlock)) (by (with_reducible repeat (first | apply Kd.V_alloc | apply Kd.V_drewN | apply Kd.V_drew)); exact HL400_0.out) (fun k_ hk => by first | exact ⟨⟨hk.1, hk.2.2⟩, hk.2.1⟩ | exact ⟨⟨hk.1.1, hk.2⟩, hk.1.2⟩ | exact ⟨⟨hk.1.1, hk.1.2⟩, hk.2⟩ | exact ⟨hk.1.1, hk.2, hk.1.2⟩ | exact hk.1 | simp_all))))); (case aB => exact bG); (case aF => exact (fun k_ hk => ⟨(.inr (Nat.le_trans (below_size bG) hk)), Kd.freshB (g := gb401) (o := .cells #[.slice A400_0 ((rd_T92 l1 x15_1).f0).length c400_0, .int .i64 ((rd_T92 l1 x15_1).f1)] 92 (0, 0)) (bK BK401) k_ hk⟩)); (case aO => exact (by (with_reducible repeat (first | apply Kd.N_alloc | apply Kd.N_drewN | apply Kd.N_drew)); exact HO_5.out)); (case aS => exact (below_size bG)); (case aL => have := LMc20.out; omega); intro v406 w28 ho hb hg hat; rw [← Ny405.out] at ho; have n0_ := Aside0.mk (Kd.V_afterv (ok := (fun k_ => (P1_ k_ ∨ w.heap.size ≤ k_) ∧ k_ ≠ gb401)) (by (with_reducible repeat (first | apply Kd.V_alloc | apply Kd.V_drewN | apply Kd.V_drew)); exact Kd.V_mono HO_13.out (fun _ hk => ⟨⟨hk.1, hk.2.2⟩, hk.2.1⟩)) hg hat); have n1_ := Aside0.mk (Kd.V_afterv (ok := (fun k_ => (P1_ k_ ∨ w.heap.size ≤ k_) ∧ k_ ≠ gb401)) (by (with_reducible repeat (first | apply Kd.V_alloc | apply Kd.V_drewN | apply Kd.V_drew)); exact Kd.V_mono HL400_0.out (fun _ hk => ⟨⟨hk.1, hk.2.2⟩, hk.2.1⟩)) hg hat); have n2_ := Aside0.mk (blk_grown (g := gb401) (o := .cells #[.slice A400_0 ((rd_T92 l1 x15_1).f0).length c400_0, .int .i64 ((rd_T92 l1 x15_1).f1)] 92 (0, 0)) (bK BK401) hg (Kd.N_ne HO_5.out BK401.out (by decide))); have n3_ := Aside0.mk (hb); have n4_ := Aside0.mk (ho); clear HO_13; clear HL400_0; clear BK401; clear HB; clear HO_5; have HO_13 := n0_; have HL400_0 := n1_; have BK401 := n2_; have HB := n3_; have HO407 := n4_; clear n0_ n1_ n2_ n3_ n4_; clear ho hb hg hat))
       go_roundg k1
       case measure => have := HK1.out; omega
       case rel => exact ⟨(y405), (wrap64 (x15_1 + 1)), rS, H', ⟨by have := HK1.out; omega⟩, ⟨nm HO407 (fun _ hk => hk.1)⟩, ⟨by (with_reducible repeat (first | apply Kd.V_alloc | apply Kd.V_drewN | apply Kd.V_drew)); exact Kd.V_mono HO_13.out (fun _ hk => ⟨hk.1.1, hk.2⟩)⟩, ⟨bG⟩⟩
      replace c19 := Bool.eq_false_iff.mpr c19
      subst c19
      have H1 : (some false) = some r := by rw [if_neg (show ¬ (false = true) by decide)] at H; exact H
      clear H
      have H := H1
      clear H1
      obtain rfl := Option.some.inj H
      obtain ⟨p400, q400⟩ : 0 ≤ (x15_1 : Int) ∧ x15_1 < (l1.length : Int) := ⟨dA, dA⟩
      obtain ⟨ad400, A400_0, c400_0, e400, hx400_0, hx400_1, hl400_0, hi400_0⟩ := at_T92 (Kd.V_reads' HO_13.out).2.2 x15_1 p400 q400
      cases e400
      obtain ⟨ce400, hce400, hMe400, hcc400⟩ := Kd.V_get HO_13.out z92 x15_1 p400 (by first | exact q400 | exact dA | (have e_ := (Kd.V_reads' HO_13.out).1; omega))
      obtain ⟨ua400_0, uc400_0, rfl, ul400_0, ge400_0⟩ := k92_openF hMe400
      have hv400_0 := hcc400 0 _ rfl
      rw [Nat.add_zero] at hv400_0
      replace hv400_0 := Option.some.inj (hv400_0.symm.trans hx400_0)
      injection hv400_0 with hva_ hvn_ hvc_
      rw [hva_] at ge400_0
      rw [hvc_] at ul400_0
      have HL400_0 := Aside0.mk (show Kd.V (Kd.int .i64) 3 _ w.heap.size _ _ ((rd_T92 l1 x15_1).f0) from Kd.V_mk ul400_0 ge400_0)
      clear hva_ hvn_ hvc_ ge400_0 ul400_0
      clear hcc400 hce400
      have HR400_0 := Aside0.mk hi400_0
      have HC400_0 := Aside0.mk hl400_0
      clear hi400_0 hl400_0
      obtain ⟨p400, q400⟩ := eT p400 q400
      try go_wp2_with (first | ((with_reducible refine gate_dst (N := 7) rfl ?_); refine bE (N := 7) (cs := #[.slice none 0 0, .int .i64 0]) (t := 92) ?_; intro gb401 hg w29 hbox hb; have n0_ := Aside0.mk (Kd.N_below (Kd.N_elderB (by (with_reducible repeat (first | apply Kd.N_alloc | apply Kd.N_drewN | apply Kd.N_drew)); exact HO_5.out) gb401 (Nat.le_of_eq hg.symm)) hb); have n1_ := Aside0.mk (Kd.V_below (Kd.V_elderB (by (with_reducible repeat (first | apply Kd.V_alloc | apply Kd.V_drewN | apply Kd.V_drew)); exact HO_13.out) gb401 (Nat.le_of_eq hg.symm)) hb); have n2_ := Aside0.mk (Kd.V_below (Kd.V_elderB (by (with_reducible repeat (first | apply Kd.V_alloc | apply Kd.V_drewN | apply Kd.V_drew)); exact HL400_0.out) gb401 (Nat.le_of_eq hg.symm)) hb); have n3_ := Aside0.mk (Kd.C_below (by repeat (first | (with_reducible exact HR400_0.out) | (with_reducible refine Kd.C_alloc ?_ _) | (with_reducible refine Kd.C_drewN ?_ _) | (with_reducible refine Kd.C_drew ?_) | exact HR400_0.out)) hb); have n4_ := bs HB hb; have n5_ := Aside0.mk (hbox); have n6_ := gw w hg; have n7_ := gw w hg; clear HO_5; clear HO_13; clear HL400_0; clear HR400_0; clear HB; have HO_5 := n0_; have HO_13 := n1_; have HL400_0 := n2_; have HR400_0 := n3_; have HB := n4_; have BK401 := n5_; have GW401 := n6_; have GE401 := n7_; clear n0_ n1_ n2_ n3_ n4_ n5_ n6_ n7_; clear hb hbox hg; obtain ⟨_, _, _, _⟩ := blkc2 BK401))
      have n0_ : Aside0 (Kd.N (Kd.slice 3 (Kd.int .i64)) 41 ((w29.setCell ⟨gb401, 0, none⟩ (.slice A400_0 ((rd_T92 l1 x15_1).f0).length c400_0)).setCell ⟨gb401, 1, none⟩ (.int .i64 ((rd_T92 l1 x15_1).f1))) w.heap.size (fun k_ => (P1_ k_ ∨ w.heap.size ≤ k_) ∧ k_ ≠ gb401) u5 x5_1) := ⟨by (with_reducible repeat (first | apply Kd.N_alloc | apply Kd.N_drewN | apply Kd.N_drew)); exact Kd.N_mono (Kd.N_far (p := ⟨gb401, 1, none⟩) (Kd.N_far (p := ⟨gb401, 0, none⟩) (Kd.N_mono HO_5.out (fun k_ hk => (⟨hk, hk.2⟩ : _ ∧ k_ ≠ gb401))) (fun _ hk => hk.2) (.slice A400_0 ((rd_T92 l1 x15_1).f0).length c400_0)) (fun _ hk => hk.2) (.int .i64 ((rd_T92 l1 x15_1).f1))) (fun _ hk => ⟨hk.1.1, hk.1.2⟩)⟩
      have n1_ : Aside0 (Kd.V k92 92 ((w29.setCell ⟨gb401, 0, none⟩ (.slice A400_0 ((rd_T92 l1 x15_1).f0).length c400_0)).setCell ⟨gb401, 1, none⟩ (.int .i64 ((rd_T92 l1 x15_1).f1))) w.heap.size (fun k_ => (P1_ k_ ∨ w.heap.size ≤ k_) ∧ some k_ ≠ (u5 : Value).ownBlock ∧ k_ ≠ gb401) (.slice (some ad400) l1.length c1) l1) := ⟨by (with_reducible repeat (first | apply Kd.V_alloc | apply Kd.V_drewN | apply Kd.V_drew)); exact Kd.V_mono (Kd.V_far (p := ⟨gb401, 1, none⟩) (Kd.V_far (p := ⟨gb401, 0, none⟩) (Kd.V_mono HO_13.out (fun k_ hk => (⟨hk, hk.2⟩ : _ ∧ k_ ≠ gb401))) (fun _ hk => hk.2) (.slice A400_0 ((rd_T92 l1 x15_1).f0).length c400_0)) (fun _ hk => hk.2) (.int .i64 ((rd_T92 l1 x15_1).f1))) (fun _ hk => ⟨hk.1.1.1, ⟨hk.1.1.2, hk.1.2⟩⟩)⟩
      have n2_ : Aside0 (Kd.V (Kd.int .i64) 3 ((w29.setCell ⟨gb401, 0, none⟩ (.slice A400_0 ((rd_T92 l1 x15_1).f0).length c400_0)).setCell ⟨gb401, 1, none⟩ (.int .i64 ((rd_T92 l1 x15_1).f1))) w.heap.size (fun k_ => (P1_ k_ ∨ w.heap.size ≤ k_) ∧ some k_ ≠ (u5 : Value).ownBlock ∧ k_ ≠ gb401) (.slice A400_0 ((rd_T92 l1 x15_1).f0).length c400_0) ((rd_T92 l1 x15_1).f0)) := ⟨by (with_reducible repeat (first | apply Kd.V_alloc | apply Kd.V_drewN | apply Kd.V_drew)); exact Kd.V_mono (Kd.V_far (p := ⟨gb401, 1, none⟩) (Kd.V_far (p := ⟨gb401, 0, none⟩) (Kd.V_mono HL400_0.out (fun k_ hk => (⟨hk, hk.2⟩ : _ ∧ k_ ≠ gb401))) (fun _ hk => hk.2) (.slice A400_0 ((rd_T92 l1 x15_1).f0).length c400_0)) (fun _ hk => hk.2) (.int .i64 ((rd_T92 l1 x15_1).f1))) (fun _ hk => ⟨hk.1.1.1, ⟨hk.1.1.2, hk.1.2⟩⟩)⟩
      have n3_ : Aside0 (((w29.setCell ⟨gb401, 0, none⟩ (.slice A400_0 ((rd_T92 l1 x15_1).f0).length c400_0)).setCell ⟨gb401, 1, none⟩ (.int .i64 ((rd_T92 l1 x15_1).f1))).heap[gb401]? = some (.cells #[.slice A400_0 ((rd_T92 l1 x15_1).f0).length c400_0, .int .i64 ((rd_T92 l1 x15_1).f1)] 92 (0, 0))) := ⟨kp BK401⟩
      have n4_ : Aside0 (Below w.heap.size w ((w29.setCell ⟨gb401, 0, none⟩ (.slice A400_0 ((rd_T92 l1 x15_1).f0).length c400_0)).setCell ⟨gb401, 1, none⟩ (.int .i64 ((rd_T92 l1 x15_1).f1)))) := ⟨bG⟩
      (try clear HO_5)
      (try clear HO_13)
      (try clear HL400_0)
      (try clear BK401)
      (try clear HB)
      generalize ((w29.setCell ⟨gb401, 0, none⟩ (.slice A400_0 ((rd_T92 l1 x15_1).f0).length c400_0)).setCell ⟨gb401, 1, none⟩ (.int .i64 ((rd_T92 l1 x15_1).f1))) = w31 at n0_ n1_ n2_ n3_ n4_ ⊢
      have HO_5 := n0_
      have HO_13 := n1_
      have HL400_0 := n2_
      have BK401 := n3_
      have HB := n4_
      clear n0_ n1_ n2_ n3_ n4_
      replace HO_5 := dn HO_5
      replace HO_13 := dv HO_13
      replace HL400_0 := Aside0.mk (Kd.V_drew HL400_0.out)
      replace BK401 := dk BK401
      have HBo := HB
      replace HB := db HB
      refine sw (ds := []) 21 (mb 21 0) impl_IsPlan.tab7 impl_IsPlan.bits7 (h2 BK401) (fun hHeld HT_ HW_ => ?_)
      generalize w31.drew = w32 at HO_5 HO_13 HL400_0 BK401 HB hHeld ⊢
      refine pa 0 19 (mb 21 1) HT_ ?_
      refine ta2 1 20 (mb 21 3) HT_ HW_ hHeld ?_
      refine pa 2 21 (mb 21 7) HT_ ?_
      refine pa 3 22 (mb 21 15) HT_ ?_
      refine pa 4 23 (mb 21 31) HT_ ?_
      refine pa 5 24 (mb 21 63) HT_ ?_
      refine pa 6 25 (mb 21 127) HT_ ?_
      refine ta2 7 26 (mb 21 255) HT_ HW_ hHeld ?_
      refine oa 8 27 (mb 21 511) HT_ (fun K hK => ?_)
      refine gA Try.func87 #[.slice A0 l0.length c0, .slice A400_0 ((rd_T92 l1 x15_1).f0).length c400_0] ?_
      with_reducible refine (impl_IsTogether.calls k1 _ _ l0 _ _ ((rd_T92 l1 x15_1).f0) true _ ?side1 ?side2 ?side3 ?side4 A15.out).mono ?_
      (case side1 => exact cB HR0)
      (case side2 => exact HC0.out)
      (case side3 => repeat (first | exact ((Kd.V_reads' (by (with_reducible repeat (first | apply Kd.V_alloc | apply Kd.V_drewN | apply Kd.V_drew)); exact HL400_0.out)).2.2) | (with_reducible refine Kd.C_alloc ?_ _) | (with_reducible refine Kd.C_drewN ?_ _) | (with_reducible refine Kd.C_drew ?_)))
      (case side4 => exact HC400_0.out)
      rintro e w33 ⟨rfl, hb⟩
      refine ⟨_, rfl, ?_⟩
      replace HO_5 := Aside0.mk (Kd.N_below (by (with_reducible repeat (first | apply Kd.N_alloc | apply Kd.N_drewN | apply Kd.N_drew)); exact HO_5.out) hb)
      replace HO_13 := Aside0.mk (Kd.V_below (by (with_reducible repeat (first | apply Kd.V_alloc | apply Kd.V_drewN | apply Kd.V_drew)); exact HO_13.out) hb)
      replace HL400_0 := Aside0.mk (Kd.V_below (by (with_reducible repeat (first | apply Kd.V_alloc | apply Kd.V_drewN | apply Kd.V_drew)); exact HL400_0.out) hb)
      replace BK401 := kb BK401 hb
      replace HB := bs HB hb
      (try clear hb)
      (try clear hb2)
      (try clear hk)
      (try clear hi)
      refine hK.out _ _ (cn2 BK401) (fun hHeld => ?_)
      clear hK K
      refine nB ?_
      refine pa 9 28 (mb 21 1023) HT_ ?_
      refine pa 10 29 (mb 21 2047) HT_ ?_
      refine pa 11 30 (mb 21 4095) HT_ ?_
      refine pa 12 31 (mb 21 8191) HT_ ?_
      refine pa 14 33 (mb 21 24575) HT_ ?_
      refine pa 15 34 (mb 21 57343) HT_ ?_
      refine ta2 13 32 (mb 21 65535) HT_ HW_ hHeld ?_
      refine ta2 16 35 (mb 21 131071) HT_ HW_ hHeld ?_
      refine oa 17 36 (mb 21 262143) HT_ (fun K hK => ?_)
      refine gA Try.func77 #[.slice A0 l0.length c0, .slice A400_0 ((rd_T92 l1 x15_1).f0).length c400_0] ?_
      with_reducible refine (impl_LeastGreen.calls k1 _ _ l0 _ _ ((rd_T92 l1 x15_1).f0) t403 _ ?side1 ?side2 ?side3 ?side4 A17.out).mono ?_
      (case side1 => exact cB HR0)
      (case side2 => exact HC0.out)
      (case side3 => repeat (first | exact ((Kd.V_reads' (by (with_reducible repeat (first | apply Kd.V_alloc | apply Kd.V_drewN | apply Kd.V_drew)); exact HL400_0.out)).2.2) | (with_reducible refine Kd.C_alloc ?_ _) | (with_reducible refine Kd.C_drewN ?_ _) | (with_reducible refine Kd.C_drew ?_)))
      (case side4 => exact HC400_0.out)
      rintro e w34 ⟨rfl, hb⟩
      refine ⟨_, rfl, ?_⟩
      replace HO_5 := Aside0.mk (Kd.N_below (by (with_reducible repeat (first | apply Kd.N_alloc | apply Kd.N_drewN | apply Kd.N_drew)); exact HO_5.out) hb)
      replace HO_13 := Aside0.mk (Kd.V_below (by (with_reducible repeat (first | apply Kd.V_alloc | apply Kd.V_drewN | apply Kd.V_drew)); exact HO_13.out) hb)
      replace HL400_0 := Aside0.mk (Kd.V_below (by (with_reducible repeat (first | apply Kd.V_alloc | apply Kd.V_drewN | apply Kd.V_drew)); exact HL400_0.out) hb)
      replace BK401 := kb BK401 hb
      replace HB := bs HB hb
      (try clear hb)
      (try clear hb2)
      (try clear hk)
      (try clear hi)
      refine hK.out _ _ (cn2 BK401) (fun hHeld => ?_)
      clear hK K
      refine nB ?_
      refine oa 18 37 (mb 21 524287) HT_ (fun K hK => ?_)
      refine gA Try.func66 #[.int .i64 ((rd_T92 l1 x15_1).f1), .int .i64 t403, .int .i64 60] ?_
      with_reducible refine (impl_InRange.calls ((rd_T92 l1 x15_1).f1) t403 60 false _ A18.out).mono ?_
      rintro e w' ⟨rfl, ⟨nd, rfl⟩⟩
      refine ⟨_, rfl, ?_⟩
      refine hK.out _ _ (cn2 BK401) (fun hHeld => ?_)
      clear hK K
      refine nB ?_
      refine pa 19 38 (mb 21 1048575) HT_ ?_
      refine pa 20 39 (mb 21 2097151) HT_ ?_
      refine eA HT_ ?_
      try go_wp2
      go_ret
      exact ⟨rA, bG⟩
     replace c16 := Bool.eq_false_iff.mpr c16
     subst c16
     have H1 : (some false) = some r := by rw [if_neg (show ¬ (false = true) by decide)] at H; exact H
     clear H
     have H := H1
     clear H1
     obtain rfl := Option.some.inj H
     obtain ⟨p400, q400⟩ : 0 ≤ (x15_1 : Int) ∧ x15_1 < (l1.length : Int) := ⟨dA, dA⟩
     obtain ⟨ad400, A400_0, c400_0, e400, hx400_0, hx400_1, hl400_0, hi400_0⟩ := at_T92 (Kd.V_reads' HO_13.out).2.2 x15_1 p400 q400
     cases e400
     obtain ⟨ce400, hce400, hMe400, hcc400⟩ := Kd.V_get HO_13.out z92 x15_1 p400 (by first | exact q400 | exact dA | (have e_ := (Kd.V_reads' HO_13.out).1; omega))
     obtain ⟨ua400_0, uc400_0, rfl, ul400_0, ge400_0⟩ := k92_openF hMe400
     have hv400_0 := hcc400 0 _ rfl
     rw [Nat.add_zero] at hv400_0
     replace hv400_0 := Option.some.inj (hv400_0.symm.trans hx400_0)
     injection hv400_0 with hva_ hvn_ hvc_
     rw [hva_] at ge400_0
     rw [hvc_] at ul400_0
     have HL400_0 := Aside0.mk (show Kd.V (Kd.int .i64) 3 _ w.heap.size _ _ ((rd_T92 l1 x15_1).f0) from Kd.V_mk ul400_0 ge400_0)
     clear hva_ hvn_ hvc_ ge400_0 ul400_0
     clear hcc400 hce400
     have HR400_0 := Aside0.mk hi400_0
     have HC400_0 := Aside0.mk hl400_0
     clear hi400_0 hl400_0
     obtain ⟨p400, q400⟩ := eT p400 q400
     try go_wp2_with (first | ((with_reducible refine gate_dst (N := 7) rfl ?_); refine bE (N := 7) (cs := #[.slice none 0 0, .int .i64 0]) (t := 92) ?_; intro gb401 hg w35 hbox hb; have n0_ := Aside0.mk (Kd.N_below (Kd.N_elderB (by (with_reducible repeat (first | apply Kd.N_alloc | apply Kd.N_drewN | apply Kd.N_drew)); exact HO_5.out) gb401 (Nat.le_of_eq hg.symm)) hb); have n1_ := Aside0.mk (Kd.V_below (Kd.V_elderB (by (with_reducible repeat (first | apply Kd.V_alloc | apply Kd.V_drewN | apply Kd.V_drew)); exact HO_13.out) gb401 (Nat.le_of_eq hg.symm)) hb); have n2_ := Aside0.mk (Kd.V_below (Kd.V_elderB (by (with_reducible repeat (first | apply Kd.V_alloc | apply Kd.V_drewN | apply Kd.V_drew)); exact HL400_0.out) gb401 (Nat.le_of_eq hg.symm)) hb); have n3_ := Aside0.mk (Kd.C_below (by repeat (first | (with_reducible exact HR400_0.out) | (with_reducible refine Kd.C_alloc ?_ _) | (with_reducible refine Kd.C_drewN ?_ _) | (with_reducible refine Kd.C_drew ?_) | exact HR400_0.out)) hb); have n4_ := bs HB hb; have n5_ := Aside0.mk (hbox); have n6_ := gw w hg; have n7_ := gw w hg; clear HO_5; clear HO_13; clear HL400_0; clear HR400_0; clear HB; have HO_5 := n0_; have HO_13 := n1_; have HL400_0 := n2_; have HR400_0 := n3_; have HB := n4_; have BK401 := n5_; have GW401 := n6_; have GE401 := n7_; clear n0_ n1_ n2_ n3_ n4_ n5_ n6_ n7_; clear hb hbox hg; obtain ⟨_, _, _, _⟩ := blkc2 BK401))
     have n0_ : Aside0 (Kd.N (Kd.slice 3 (Kd.int .i64)) 41 ((w35.setCell ⟨gb401, 0, none⟩ (.slice A400_0 ((rd_T92 l1 x15_1).f0).length c400_0)).setCell ⟨gb401, 1, none⟩ (.int .i64 ((rd_T92 l1 x15_1).f1))) w.heap.size (fun k_ => (P1_ k_ ∨ w.heap.size ≤ k_) ∧ k_ ≠ gb401) u5 x5_1) := ⟨by (with_reducible repeat (first | apply Kd.N_alloc | apply Kd.N_drewN | apply Kd.N_drew)); exact Kd.N_mono (Kd.N_far (p := ⟨gb401, 1, none⟩) (Kd.N_far (p := ⟨gb401, 0, none⟩) (Kd.N_mono HO_5.out (fun k_ hk => (⟨hk, hk.2⟩ : _ ∧ k_ ≠ gb401))) (fun _ hk => hk.2) (.slice A400_0 ((rd_T92 l1 x15_1).f0).length c400_0)) (fun _ hk => hk.2) (.int .i64 ((rd_T92 l1 x15_1).f1))) (fun _ hk => ⟨hk.1.1, hk.1.2⟩)⟩
     have n1_ : Aside0 (Kd.V k92 92 ((w35.setCell ⟨gb401, 0, none⟩ (.slice A400_0 ((rd_T92 l1 x15_1).f0).length c400_0)).setCell ⟨gb401, 1, none⟩ (.int .i64 ((rd_T92 l1 x15_1).f1))) w.heap.size (fun k_ => (P1_ k_ ∨ w.heap.size ≤ k_) ∧ some k_ ≠ (u5 : Value).ownBlock ∧ k_ ≠ gb401) (.slice (some ad400) l1.length c1) l1) := ⟨by (with_reducible repeat (first | apply Kd.V_alloc | apply Kd.V_drewN | apply Kd.V_drew)); exact Kd.V_mono (Kd.V_far (p := ⟨gb401, 1, none⟩) (Kd.V_far (p := ⟨gb401, 0, none⟩) (Kd.V_mono HO_13.out (fun k_ hk => (⟨hk, hk.2⟩ : _ ∧ k_ ≠ gb401))) (fun _ hk => hk.2) (.slice A400_0 ((rd_T92 l1 x15_1).f0).length c400_0)) (fun _ hk => hk.2) (.int .i64 ((rd_T92 l1 x15_1).f1))) (fun _ hk => ⟨hk.1.1.1, ⟨hk.1.1.2, hk.1.2⟩⟩)⟩
     have n2_ : Aside0 (Kd.V (Kd.int .i64) 3 ((w35.setCell ⟨gb401, 0, none⟩ (.slice A400_0 ((rd_T92 l1 x15_1).f0).length c400_0)).setCell ⟨gb401, 1, none⟩ (.int .i64 ((rd_T92 l1 x15_1).f1))) w.heap.size (fun k_ => (P1_ k_ ∨ w.heap.size ≤ k_) ∧ some k_ ≠ (u5 : Value).ownBlock ∧ k_ ≠ gb401) (.slice A400_0 ((rd_T92 l1 x15_1).f0).length c400_0) ((rd_T92 l1 x15_1).f0)) := ⟨by (with_reducible repeat (first | apply Kd.V_alloc | apply Kd.V_drewN | apply Kd.V_drew)); exact Kd.V_mono (Kd.V_far (p := ⟨gb401, 1, none⟩) (Kd.V_far (p := ⟨gb401, 0, none⟩) (Kd.V_mono HL400_0.out (fun k_ hk => (⟨hk, hk.2⟩ : _ ∧ k_ ≠ gb401))) (fun _ hk => hk.2) (.slice A400_0 ((rd_T92 l1 x15_1).f0).length c400_0)) (fun _ hk => hk.2) (.int .i64 ((rd_T92 l1 x15_1).f1))) (fun _ hk => ⟨hk.1.1.1, ⟨hk.1.1.2, hk.1.2⟩⟩)⟩
     have n3_ : Aside0 (((w35.setCell ⟨gb401, 0, none⟩ (.slice A400_0 ((rd_T92 l1 x15_1).f0).length c400_0)).setCell ⟨gb401, 1, none⟩ (.int .i64 ((rd_T92 l1 x15_1).f1))).heap[gb401]? = some (.cells #[.slice A400_0 ((rd_T92 l1 x15_1).f0).length c400_0, .int .i64 ((rd_T92 l1 x15_1).f1)] 92 (0, 0))) := ⟨kp BK401⟩
     have n4_ : Aside0 (Below w.heap.size w ((w35.setCell ⟨gb401, 0, none⟩ (.slice A400_0 ((rd_T92 l1 x15_1).f0).length c400_0)).setCell ⟨gb401, 1, none⟩ (.int .i64 ((rd_T92 l1 x15_1).f1)))) := ⟨bG⟩
     (try clear HO_5)
     (try clear HO_13)
     (try clear HL400_0)
     (try clear BK401)
     (try clear HB)
     generalize ((w35.setCell ⟨gb401, 0, none⟩ (.slice A400_0 ((rd_T92 l1 x15_1).f0).length c400_0)).setCell ⟨gb401, 1, none⟩ (.int .i64 ((rd_T92 l1 x15_1).f1))) = w37 at n0_ n1_ n2_ n3_ n4_ ⊢
     have HO_5 := n0_
     have HO_13 := n1_
     have HL400_0 := n2_
     have BK401 := n3_
     have HB := n4_
     clear n0_ n1_ n2_ n3_ n4_
     replace HO_5 := dn HO_5
     replace HO_13 := dv HO_13
     replace HL400_0 := Aside0.mk (Kd.V_drew HL400_0.out)
     replace BK401 := dk BK401
     have HBo := HB
     replace HB := db HB
     refine sw (ds := []) 21 (mb 21 0) impl_IsPlan.tab7 impl_IsPlan.bits7 (h2 BK401) (fun hHeld HT_ HW_ => ?_)
     generalize w37.drew = w38 at HO_5 HO_13 HL400_0 BK401 HB hHeld ⊢
     refine pa 0 19 (mb 21 1) HT_ ?_
     refine ta2 1 20 (mb 21 3) HT_ HW_ hHeld ?_
     refine pa 2 21 (mb 21 7) HT_ ?_
     refine pa 3 22 (mb 21 15) HT_ ?_
     refine pa 4 23 (mb 21 31) HT_ ?_
     refine pa 5 24 (mb 21 63) HT_ ?_
     refine pa 6 25 (mb 21 127) HT_ ?_
     refine ta2 7 26 (mb 21 255) HT_ HW_ hHeld ?_
     refine oa 8 27 (mb 21 511) HT_ (fun K hK => ?_)
     refine gA Try.func87 #[.slice A0 l0.length c0, .slice A400_0 ((rd_T92 l1 x15_1).f0).length c400_0] ?_
     with_reducible refine (impl_IsTogether.calls k1 _ _ l0 _ _ ((rd_T92 l1 x15_1).f0) false _ ?side1 ?side2 ?side3 ?side4 A15.out).mono ?_
     (case side1 => exact cB HR0)
     (case side2 => exact HC0.out)
     (case side3 => repeat (first | exact ((Kd.V_reads' (by (with_reducible repeat (first | apply Kd.V_alloc | apply Kd.V_drewN | apply Kd.V_drew)); exact HL400_0.out)).2.2) | (with_reducible refine Kd.C_alloc ?_ _) | (with_reducible refine Kd.C_drewN ?_ _) | (with_reducible refine Kd.C_drew ?_)))
     (case side4 => exact HC400_0.out)
     rintro e w39 ⟨rfl, hb⟩
     refine ⟨_, rfl, ?_⟩
     replace HO_5 := Aside0.mk (Kd.N_below (by (with_reducible repeat (first | apply Kd.N_alloc | apply Kd.N_drewN | apply Kd.N_drew)); exact HO_5.out) hb)
     replace HO_13 := Aside0.mk (Kd.V_below (by (with_reducible repeat (first | apply Kd.V_alloc | apply Kd.V_drewN | apply Kd.V_drew)); exact HO_13.out) hb)
     replace HL400_0 := Aside0.mk (Kd.V_below (by (with_reducible repeat (first | apply Kd.V_alloc | apply Kd.V_drewN | apply Kd.V_drew)); exact HL400_0.out) hb)
     replace BK401 := kb BK401 hb
     replace HB := bs HB hb
     (try clear hb)
     (try clear hb2)
     (try clear hk)
     (try clear hi)
     refine hK.out _ _ (cn2 BK401) (fun hHeld => ?_)
     clear hK K
     refine nB ?_
     refine pa 9 28 (mb 21 1023) HT_ ?_
     refine pa 10 29 (mb 21 2047) HT_ ?_
     refine pa 11 30 (mb 21 4095) HT_ ?_
     refine pu 12 31 (mb 21 8191) HT_ ?_
     refine pu 13 32 (mb 21 16383) HT_ ?_
     refine pu 14 33 (mb 21 32767) HT_ ?_
     refine pu 15 34 (mb 21 65535) HT_ ?_
     refine pu 16 35 (mb 21 131071) HT_ ?_
     refine pu 17 36 (mb 21 262143) HT_ ?_
     refine pu 18 37 (mb 21 524287) HT_ ?_
     refine pu 19 38 (mb 21 1048575) HT_ ?_
     refine pa 20 39 (mb 21 2097151) HT_ ?_
     refine eA HT_ ?_
     try go_wp2
     go_ret
     exact ⟨rA, bG⟩
    rw [if_neg c7] at H
    have c7b0 := decide_eq_false c7
    clear c7
    obtain ⟨t399, A40, H⟩ := bindE H
    try dsimp only at H
    obtain rfl := Option.some.inj H
    obtain ⟨Ao41, co41, eo41⟩ := Kd.N_slice HO_5.out
    subst eo41
    go_wp2_with (first | ((with_reducible refine gate_callee (f := 128) rfl ?_); refine gL (some 48) Try.func128 #[.slice A0 l0.length c0, .slice Ao41 x5_1.length co41] ?_; (with_reducible refine (impl_Covers.calls k1 _ _ l0 _ _ x5_1 t399 _ ?_ ?_ ?_ ?_ A40.out).mono ?_); exact cB HR0; exact HC0.out; (focus repeat (first | exact (Kd.N_reads' HO_5.out).2.2 | (with_reducible refine Kd.C_alloc ?_ _) | (with_reducible refine Kd.C_drewN ?_ _) | (with_reducible refine Kd.C_drew ?_))); exact (Kd.N_reads' HO_5.out).2.1; rintro e w42 ⟨rfl, hb⟩; refine ⟨_, rfl, ?_⟩; have n0_ := Aside0.mk (Kd.N_below (by (with_reducible repeat (first | apply Kd.N_alloc | apply Kd.N_drewN | apply Kd.N_drew)); exact HO_5.out) hb); have n1_ := Aside0.mk (Kd.V_below (by (with_reducible repeat (first | apply Kd.V_alloc | apply Kd.V_drewN | apply Kd.V_drew)); exact HO_13.out) hb); have n2_ := bs HB hb; clear HO_5; clear HO_13; clear HB; have HO_5 := n0_; have HO_13 := n1_; have HB := n2_; clear n0_ n1_ n2_; (try clear hb)))
    go_ret
    exact ⟨rA, bA⟩
 replace c4 := Bool.eq_false_iff.mpr c4
 subst c4
 have H1 : (some false) = some r := by rw [if_neg (show ¬ (false = true) by decide)] at H; exact H
 clear H
 have H := H1
 clear H1
 obtain rfl := Option.some.inj H
 go_enter Try.func78, Try.ntmps78
 go_wp2_with (first | ((with_reducible refine gate_callee (f := 66) rfl ?_); refine gL (some 10) Try.func66 #[.int .i64 (l1.length : Int), .int .i64 1, .int .i64 6] ?_; (with_reducible refine (impl_InRange.calls (l1.length : Int) 1 6 false _ A3.out).mono ?_); rintro e w' ⟨rfl, ⟨nd, rfl⟩⟩; refine ⟨_, rfl, ?_⟩))
 go_ret
 exact ⟨rA, bA⟩

/-! ### impl_sieve: function 155 -/
def impl_sieve.l0 : Nat → List Int → Bool → List Int → List Int → Int → Int → Option (List Int)
 | 0, _, _, _, _, _, _ => none
 | k + 1, x1, x2, x7, x11, x12, x13 => if x13 < x12 then (if 0 ≤ x13 then (if x13 < (x11.length : Int) then ((slices_Contains_int_int.f k x1 (rd x11 x13)).bind fun t414 => (if (t414 == x2) = true then (if x7.length < 17592186044416 then (impl_sieve.l0 k x1 x2 (x7 ++ [rd x11 x13]) x11 x12 (wrap64 (x13 + 1))) else (none)) else (impl_sieve.l0 k x1 x2 x7 x11 x12 (wrap64 (x13 + 1))))) else (none)) else (none)) else (some x7)
def impl_sieve.f (k : Nat) (l0 : List Int) (l1 : List Int) (a2 : Bool) : Option (List Int) := impl_sieve.l0 k l1 a2 (([] : List Int)) l0 (l0.length : Int) 0
theorem impl_sieve.mono_l : ∀ k, (∀ y0 y1 y2 y3 y4 y5, LeO (impl_sieve.l0 k y0 y1 y2 y3 y4 y5) (impl_sieve.l0 (k + 1) y0 y1 y2 y3 y4 y5))
 | 0 => fun _ _ _ _ _ _ r h => by simp [impl_sieve.l0] at h
 | k + 1 => by
  have ih0 := impl_sieve.mono_l k
  ·
   intro y0 y1 y2 y3 y4 y5
   unfold impl_sieve.l0
   exact mz2 ih0 slices_Contains_int_int.mono
theorem impl_sieve.mono : ∀ a0 a1 a2 k, LeO (impl_sieve.f k a0 a1 a2) (impl_sieve.f (k + 1) a0 a1 a2) := by
 intro a0 a1 a2 k
 have ih0 := impl_sieve.mono_l k
 unfold impl_sieve.f
 exact mz2 ih0 slices_Contains_int_int.mono
set_option maxHeartbeats 8000000 in
set_option maxRecDepth 100000 in
theorem impl_sieve.calls (k : Nat) (A0 : Option Addr) (c0 : Nat) (l0 : List Int) (A1 : Option Addr) (c1 : Nat) (l1 : List Int) (a2 : Bool) (r : List Int) (w : World) (hr0 : Kd.C (Kd.int .i64) w A0 l0.length l0) (hc0 : l0.length ≤ c0) (hr1 : Kd.C (Kd.int .i64) w A1 l1.length l1) (hc1 : l1.length ≤ c1) (h : impl_sieve.f k l0 l1 a2 = some r) :
  Calls Try.prog 155 #[.slice A0 l0.length c0, .slice A1 l1.length c1, .bool a2] w fun e w' => ∃ v0_ : Value, e = .returned (v0_) ∧ Kd.R (Kd.int .i64) 3 w' w.heap.size (fun _ => True) v0_ r ∧ Below w.heap.size w w' := by
 have HR0 := Aside0.mk hr0
 have HC0 := Aside0.mk hc0
 clear hr0 hc0
 have HR1 := Aside0.mk hr1
 have HC1 := Aside0.mk hc1
 clear hr1 hc1
 have HB := Aside0.mk (Below.refl w.heap.size w)
 have H : (impl_sieve.l0 k l1 a2 (([] : List Int)) l0 (l0.length : Int) 0) = some r := h
 clear h
 obtain ⟨y410, hy410⟩ : ∃ y_ : List Int, y_ = (([] : List Int)) := ⟨_, rfl⟩
 replace H : (impl_sieve.l0 k l1 a2 y410 l0 (l0.length : Int) 0) = some r := rH H hy410
 have Ny410 := Aside0.mk hy410
 clear hy410
 have H' := Aside0.mk H
 clear H
 go_enter Try.func155, Try.ntmps155
 go_wp2_with (first | ((with_reducible refine gate_dst (N := 10) rfl ?_); refine Kd.R_lit (Kd.int .i64) _ 3 ?hg (N := 10) ?hd (xs := ([] : List Int)) (inner := []) (ok := fun _ => True) (okp := fun _ => True) ?hr ?hp (fun _ hk => hk) trivial (Below.refl _ _) (Nat.le_refl _) (by simp) ?_; (case hd => rfl); (case hg => rfl); (case hr => first | (go_simp; done) | (go_simp; rfl)); (case hp => exact (Reps.none _ _)); intro v411 w4 ho5 hb hg_ hnew_; clear hg_ hnew_; (first | rw [← Ny410.out] at ho5 | (simp only [Int.reduceToNat] at ho5; rw [← Ny410.out] at ho5)); have HO412 := rl w ho5; replace HB := bs HB hb; clear hb ho5))
 go_loopg [7, 13] k (fun kq v7 v13 w' => ∃ (x7_1 : List Int) (x13_1 : Int), v13 = .int .i64 x13_1 ∧ Aside0 (impl_sieve.l0 kq l1 a2 x7_1 l0 (l0.length : Int) x13_1 = some r) ∧ Aside0 (kq ≤ k) ∧ Aside0 (Kd.R (Kd.int .i64) 3 w' w.heap.size (fun _ => True) v7 x7_1) ∧ Aside0 (Below w.heap.size w w'))
 case atStart => exact ⟨(y410), (0), rS, H', ⟨Nat.le_refl _⟩, ⟨rK HO412⟩, ⟨bA⟩⟩
 case round =>
  clear H'
  obtain ⟨x7_1, x13_1, rfl, HA, HK1, HO_7, HB⟩ := hrel
  cases gk with
  | zero => exact absurd HA.out (by simp [impl_sieve.l0])
  | succ k1 =>
   have H := HA.out
   clear HA
   simp only [impl_sieve.l0] at H
   by_cases c6 : x13_1 < (l0.length : Int)
   ·
    rw [if_pos c6] at H
    have c6b0 := decide_eq_true c6
    clear c6
    have c7 : 0 ≤ x13_1 := ifN H
    replace H := ifT H
    have c7b0 := decide_eq_true c7
    clear c7
    have c8 : x13_1 < (l0.length : Int) := ifN H
    replace H := ifT H
    have c8b0 := decide_eq_true c8
    clear c8
    obtain ⟨t414, A9, H⟩ := bindE H
    try dsimp only at H
    by_cases c10 : (t414 == a2) = true
    ·
     rw [if_pos c10] at H
     have c10b0 : (t414 == a2) = true := c10
     (try (have c10b1 : decide (t414 = a2) = true := by simpa using c10))
     (try (have c10b2 : (t414 == a2) = true := by simpa using c10))
     clear c10
     have c11 : x7_1.length < 17592186044416 := ifN H
     replace H := ifT H
     have LMc11 := Aside0.mk c11
     clear c11
     obtain ⟨y415, hy415⟩ : ∃ y_ : List Int, y_ = (x7_1 ++ [rd l0 x13_1]) := ⟨_, rfl⟩
     replace H : (impl_sieve.l0 k1 l1 a2 y415 l0 (l0.length : Int) (wrap64 (x13_1 + 1))) = some r := rH H hy415
     have Ny415 := Aside0.mk hy415
     clear hy415
     have H' := Aside0.mk H
     clear H
     obtain ⟨p413, q413⟩ : 0 ≤ (x13_1 : Int) ∧ x13_1 < (l0.length : Int) := ⟨dA, dA⟩
     obtain ⟨ad413, e413, hx413_0⟩ := Kd.at_int (Kd.C_below HR0.out HB.out) x13_1 p413 q413
     cases e413
     obtain ⟨p413, q413⟩ := eT p413 q413
     go_wp2_with (first | ((with_reducible refine gate_callee (f := 104) rfl ?_); refine gL (some 19) Try.func104 #[.slice A1 l1.length c1, .int .i64 (rd l0 x13_1)] ?_; (with_reducible refine (slices_Contains_int_int.calls k1 _ _ l1 (rd l0 x13_1) t414 _ ?_ ?_ A9.out).mono ?_); exact cB HR1; exact HC1.out; rintro e w' ⟨rfl, ⟨nd, rfl⟩⟩; refine ⟨_, rfl, ?_⟩) | ((with_reducible refine gate_builtin (b := .append) (xs := #[.tmp 22, .tmp 24]) rfl ?_); at_builtin; refine Kd.R_append (Kd.int .i64) (w0 := w) w.heap.size rfl (.tmp 22) (.tmp 24) 41 3 (.int .i64 0) 8 rfl Try.underlying41 info3 rfl (by decide) (by omega) u7 x7_1 (rd l0 x13_1) [.int .i64 (rd l0 x13_1)] (fun _ => True) (fun _ => False) rfl rfl ?aP (fun _ hk => hk.elim) ?aF ?aO ?aB ?aS ?aL ?_; (case aP => exact rfl); (case aB => exact bA); (case aF => exact (fun _ _ => trivial)); (case aO => exact (rK HO_7)); (case aS => exact (below_size bA)); (case aL => have := LMc11.out; omega); intro v416 w12 ho hb hg hat; rw [← Ny415.out] at ho; have n0_ := Aside0.mk (hb); have n1_ := Aside0.mk (ho); clear HB; clear HO_7; have HB := n0_; have HO417 := n1_; clear n0_ n1_; clear ho hb hg hat))
     go_roundg k1
     case measure => have := HK1.out; omega
     case rel => exact ⟨(y415), (wrap64 (x13_1 + 1)), rS, H', ⟨by have := HK1.out; omega⟩, ⟨rK HO417⟩, ⟨bA⟩⟩
    rw [if_neg c10] at H
    have c10b0 : (t414 == a2) = false := by simpa using c10
    (try (have c10b1 : decide (t414 = a2) = false := by simpa using c10))
    (try (have c10b2 : (t414 == a2) = false := by simpa using c10))
    (try (have c10b3 : ¬ (t414 = a2) := by simpa using c10))
    clear c10
    have H' := Aside0.mk H
    clear H
    obtain ⟨p413, q413⟩ : 0 ≤ (x13_1 : Int) ∧ x13_1 < (l0.length : Int) := ⟨dA, dA⟩
    obtain ⟨ad413, e413, hx413_0⟩ := Kd.at_int (Kd.C_below HR0.out HB.out) x13_1 p413 q413
    cases e413
    obtain ⟨p413, q413⟩ := eT p413 q413
    go_wp2_with (first | ((with_reducible refine gate_callee (f := 104) rfl ?_); refine gL (some 19) Try.func104 #[.slice A1 l1.length c1, .int .i64 (rd l0 x13_1)] ?_; (with_reducible refine (slices_Contains_int_int.calls k1 _ _ l1 (rd l0 x13_1) t414 _ ?_ ?_ A9.out).mono ?_); exact cB HR1; exact HC1.out; rintro e w' ⟨rfl, ⟨nd, rfl⟩⟩; refine ⟨_, rfl, ?_⟩))
    go_roundg k1
    case measure => have := HK1.out; omega
    case rel => exact ⟨(x7_1), (wrap64 (x13_1 + 1)), rS, H', ⟨by have := HK1.out; omega⟩, ⟨rK HO_7⟩, ⟨bA⟩⟩
   rw [if_neg c6] at H
   have c6b0 := decide_eq_false c6
   clear c6
   obtain rfl := Option.some.inj H
   go_wp2
   go_ret
   exact ⟨_, rA, rK HO_7, bA⟩

/-! ### impl_Closes: function 134 -/
def impl_Closes.f (k : Nat) (l0 : List Int) (l1 : List Int) : Option (List Int) := (impl_sieve.f k l0 l1 false).bind fun t418 => (some t418)
theorem impl_Closes.mono : ∀ a0 a1 k, LeO (impl_Closes.f k a0 a1) (impl_Closes.f (k + 1) a0 a1) := by
 intro a0 a1 k
 unfold impl_Closes.f
 exact mz1 impl_sieve.mono
set_option maxHeartbeats 8000000 in
set_option maxRecDepth 100000 in
theorem impl_Closes.calls (k : Nat) (A0 : Option Addr) (c0 : Nat) (l0 : List Int) (A1 : Option Addr) (c1 : Nat) (l1 : List Int) (r : List Int) (w : World) (hr0 : Kd.C (Kd.int .i64) w A0 l0.length l0) (hc0 : l0.length ≤ c0) (hr1 : Kd.C (Kd.int .i64) w A1 l1.length l1) (hc1 : l1.length ≤ c1) (h : impl_Closes.f k l0 l1 = some r) :
  Calls Try.prog 134 #[.slice A0 l0.length c0, .slice A1 l1.length c1] w fun e w' => ∃ v0_ : Value, e = .returned (v0_) ∧ Kd.R (Kd.int .i64) 3 w' w.heap.size (fun _ => True) v0_ r ∧ Below w.heap.size w w' := by
 have HR0 := Aside0.mk hr0
 have HC0 := Aside0.mk hc0
 clear hr0 hc0
 have HR1 := Aside0.mk hr1
 have HC1 := Aside0.mk hc1
 clear hr1 hc1
 have HB := Aside0.mk (Below.refl w.heap.size w)
 have H : ((impl_sieve.f k l0 l1 false).bind fun t418 => (some t418)) = some r := h
 clear h
 obtain ⟨t418, A3, H⟩ := bindE H
 try dsimp only at H
 obtain rfl := Option.some.inj H
 go_enter Try.func134, Try.ntmps134
 go_wp2_with (first | ((with_reducible refine gate_callee (f := 155) rfl ?_); refine gL (some 7) Try.func155 #[.slice A0 l0.length c0, .slice A1 l1.length c1, .bool false] ?_; (with_reducible refine (impl_sieve.calls k _ _ l0 _ _ l1 false t418 _ ?_ ?_ ?_ ?_ A3.out).mono ?_); exact cO HR0; exact HC0.out; exact cO HR1; exact HC1.out; rintro e w4 ⟨v419, rfl, ho0, hb⟩; refine ⟨_, rfl, ?_⟩; have HO420 := rl w ho0; replace HB := bs HB hb; (try clear hb); (try clear ho0)))
 go_ret
 exact ⟨_, rA, rK HO420, bA⟩

/-! ### impl_ClearOf: function 135 -/
def impl_ClearOf.f (a0_0 : Int) (a0_1 : Int) (a0_2 : Int) (a0_3 : Int) : Option (Int) := (impl_IsPath.f a0_0 a0_1 a0_2 a0_3).bind fun t422 => (if t422 = true then (if a0_1 = 1 then (some 2) else (if a0_1 = 3 then (some 3) else (some 5))) else (some 0))
set_option maxHeartbeats 8000000 in
set_option maxRecDepth 100000 in
theorem impl_ClearOf.calls (a0_0 : Int) (a0_1 : Int) (a0_2 : Int) (a0_3 : Int) (r : Int) (w : World) (h : impl_ClearOf.f a0_0 a0_1 a0_2 a0_3 = some r) :
  Calls Try.prog 135 #[.agg #[.int .i64 a0_0, .int .i64 a0_1, .int .i64 a0_2, .int .i64 a0_3]] w fun e w' => e = .returned (.int .i64 r) ∧ Below w.heap.size w w' := by
 have hu89 := Try.underlying89
 have HB := Aside0.mk (Below.refl w.heap.size w)
 have H : ((impl_IsPath.f a0_0 a0_1 a0_2 a0_3).bind fun t422 => (if t422 = true then (if a0_1 = 1 then (some 2) else (if a0_1 = 3 then (some 3) else (some 5))) else (some 0))) = some r := h
 clear h
 obtain ⟨t422, A2, H⟩ := bindE H
 try dsimp only at H
 by_cases c3 : t422 = true
 ·
  subst c3
  have H1 : (if a0_1 = 1 then (some 2) else (if a0_1 = 3 then (some 3) else (some 5))) = some r := by rw [if_pos rfl] at H; exact H
  clear H
  have H := H1
  clear H1
  by_cases c4 : a0_1 = 1
  ·
   rw [if_pos c4] at H
   have c4b0 : (a0_1 == 1) = true := beq_iff_eq.mpr c4
   have c4b1 : (a0_1 != 1) = false := bne_eq_false_iff_eq.mpr c4
   clear c4
   obtain rfl := Option.some.inj H
   go_enter Try.func135, Try.ntmps135
   go_wp2_with (first | ((with_reducible refine gate_dst (N := 1) rfl ?_); refine bE (N := 1) (cs := #[.int .i64 a0_0, .int .i64 a0_1, .int .i64 a0_2, .int .i64 a0_3]) (t := 89) ?_; intro gb421 hg w5 hbox hb; have BK421 := Aside0.mk (hbox); have GW421 := gw w hg; have GE421 := gw w hg; replace HB := bs HB hb; clear hb hbox hg; obtain ⟨_, _, _, _, _, _, _, _⟩ := blkc4 BK421) | ((with_reducible refine gate_callee (f := 146) rfl ?_); refine gL (some 4) Try.func146 #[.agg #[.int .i64 a0_0, .int .i64 a0_1, .int .i64 a0_2, .int .i64 a0_3]] ?_; (with_reducible refine (impl_IsPath.calls a0_0 a0_1 a0_2 a0_3 true _ A2.out).mono ?_); rintro e w7 ⟨rfl, hb⟩; refine ⟨_, rfl, ?_⟩; replace BK421 := kb BK421 hb; replace HB := bs HB hb; (try clear hb); obtain ⟨_, _, _, _, _, _, _, _⟩ := blkc4 BK421))
   go_ret
   exact ⟨rA, bG⟩
  rw [if_neg c4] at H
  have c4b0 : (a0_1 == 1) = false := beq_eq_false_iff_ne.mpr c4
  have c4b1 : (a0_1 != 1) = true := bne_iff_ne.mpr c4
  by_cases c9 : a0_1 = 3
  ·
   rw [if_pos c9] at H
   have c9b0 : (a0_1 == 3) = true := beq_iff_eq.mpr c9
   have c9b1 : (a0_1 != 3) = false := bne_eq_false_iff_eq.mpr c9
   clear c9
   obtain rfl := Option.some.inj H
   go_enter Try.func135, Try.ntmps135
   go_wp2_with (first | ((with_reducible refine gate_dst (N := 1) rfl ?_); refine bE (N := 1) (cs := #[.int .i64 a0_0, .int .i64 a0_1, .int .i64 a0_2, .int .i64 a0_3]) (t := 89) ?_; intro gb421 hg w10 hbox hb; have BK421 := Aside0.mk (hbox); have GW421 := gw w hg; have GE421 := gw w hg; replace HB := bs HB hb; clear hb hbox hg; obtain ⟨_, _, _, _, _, _, _, _⟩ := blkc4 BK421) | ((with_reducible refine gate_callee (f := 146) rfl ?_); refine gL (some 4) Try.func146 #[.agg #[.int .i64 a0_0, .int .i64 a0_1, .int .i64 a0_2, .int .i64 a0_3]] ?_; (with_reducible refine (impl_IsPath.calls a0_0 a0_1 a0_2 a0_3 true _ A2.out).mono ?_); rintro e w12 ⟨rfl, hb⟩; refine ⟨_, rfl, ?_⟩; replace BK421 := kb BK421 hb; replace HB := bs HB hb; (try clear hb); obtain ⟨_, _, _, _, _, _, _, _⟩ := blkc4 BK421))
   go_ret
   exact ⟨rA, bG⟩
  rw [if_neg c9] at H
  have c9b0 : (a0_1 == 3) = false := beq_eq_false_iff_ne.mpr c9
  have c9b1 : (a0_1 != 3) = true := bne_iff_ne.mpr c9
  obtain rfl := Option.some.inj H
  go_enter Try.func135, Try.ntmps135
  go_wp2_with (first | ((with_reducible refine gate_dst (N := 1) rfl ?_); refine bE (N := 1) (cs := #[.int .i64 a0_0, .int .i64 a0_1, .int .i64 a0_2, .int .i64 a0_3]) (t := 89) ?_; intro gb421 hg w14 hbox hb; have BK421 := Aside0.mk (hbox); have GW421 := gw w hg; have GE421 := gw w hg; replace HB := bs HB hb; clear hb hbox hg; obtain ⟨_, _, _, _, _, _, _, _⟩ := blkc4 BK421) | ((with_reducible refine gate_callee (f := 146) rfl ?_); refine gL (some 4) Try.func146 #[.agg #[.int .i64 a0_0, .int .i64 a0_1, .int .i64 a0_2, .int .i64 a0_3]] ?_; (with_reducible refine (impl_IsPath.calls a0_0 a0_1 a0_2 a0_3 true _ A2.out).mono ?_); rintro e w16 ⟨rfl, hb⟩; refine ⟨_, rfl, ?_⟩; replace BK421 := kb BK421 hb; replace HB := bs HB hb; (try clear hb); obtain ⟨_, _, _, _, _, _, _, _⟩ := blkc4 BK421))
  go_ret
  exact ⟨rA, bG⟩
 replace c3 := Bool.eq_false_iff.mpr c3
 subst c3
 have H1 : (some 0) = some r := by rw [if_neg (show ¬ (false = true) by decide)] at H; exact H
 clear H
 have H := H1
 clear H1
 obtain rfl := Option.some.inj H
 go_enter Try.func135, Try.ntmps135
 go_wp2_with (first | ((with_reducible refine gate_dst (N := 1) rfl ?_); refine bE (N := 1) (cs := #[.int .i64 a0_0, .int .i64 a0_1, .int .i64 a0_2, .int .i64 a0_3]) (t := 89) ?_; intro gb421 hg w18 hbox hb; have BK421 := Aside0.mk (hbox); have GW421 := gw w hg; have GE421 := gw w hg; replace HB := bs HB hb; clear hb hbox hg; obtain ⟨_, _, _, _, _, _, _, _⟩ := blkc4 BK421) | ((with_reducible refine gate_callee (f := 146) rfl ?_); refine gL (some 4) Try.func146 #[.agg #[.int .i64 a0_0, .int .i64 a0_1, .int .i64 a0_2, .int .i64 a0_3]] ?_; (with_reducible refine (impl_IsPath.calls a0_0 a0_1 a0_2 a0_3 false _ A2.out).mono ?_); rintro e w20 ⟨rfl, hb⟩; refine ⟨_, rfl, ?_⟩; replace BK421 := kb BK421 hb; replace HB := bs HB hb; (try clear hb)))
 go_ret
 exact ⟨rA, bG⟩

end Go.Proofs.Ytdkmmefmhfbgkaa.P
