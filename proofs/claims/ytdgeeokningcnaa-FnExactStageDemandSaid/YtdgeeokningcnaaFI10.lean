/- Printed by myprint.py (wip/tools) over the kit's print: what Go's functions compute, and that they do. Lean checks it. -/
import Derived.Test.YtdgeeokningcnaaF0
namespace Go.Proofs.Ytdgeeokningcnaa.P
open Go.RowKit Go.Proofs.YtdgeeokningcnaaW.PrintWords Go.Proofs.YtdgeeokningcnaaW.PrintLast Go.Proofs.YtdgeeokningcnaaW.PrintMore Go.Proofs.Ytdgeeokningcnaa.Sq
attribute [local go_sem] max2_int min2_int max_two min_two max_three min_three max_four min_four
set_option linter.unusedVariables false
set_option linter.unusedSimpArgs false

/-! ### impl_IsTrusted: function 17 -/
def impl_IsTrusted.f (a0_0 : Int) (a0_1 : Int) (a0_2 : Int) (a0_3 : Bool) : Option (Bool) := if a0_3 = true then (some false) else (some (decide (a0_2 ≤ 900)))
set_option maxHeartbeats 8000000 in
set_option maxRecDepth 100000 in
theorem impl_IsTrusted.calls (a0_0 : Int) (a0_1 : Int) (a0_2 : Int) (a0_3 : Bool) (r : Bool) (w : World) (h : impl_IsTrusted.f a0_0 a0_1 a0_2 a0_3 = some r) :
    Calls Try.prog 17 #[.agg #[.int .i64 a0_0, .int .i64 a0_1, .int .i64 a0_2, .bool a0_3]] w fun e w' => e = .returned (.bool r) ∧ Below w.heap.size w w' := by
  have hu25 := Try.underlying25
  have HB := Aside0.mk (Below.refl w.heap.size w)
  have H : (if a0_3 = true then (some false) else (some (decide (a0_2 ≤ 900)))) = some r := h
  clear h
  by_cases c2 : a0_3 = true
  · subst c2
    have H1 : (some false) = some r := by rw [if_pos rfl] at H; exact H
    clear H
    have H := H1
    clear H1
    obtain rfl := Option.some.inj H
    go_enter Try.func17, Try.ntmps17
    go_wp2_with (first | ((with_reducible refine gate_dst (N := 1) rfl ?_); refine bE (N := 1) (cs := #[.int .i64 a0_0, .int .i64 a0_1, .int .i64 a0_2, .bool true]) (t := 25) ?_; intro gb105 hg w3 hbox hb; have n0_ := Aside0.mk (below_step bA hb); have n1_ := Aside0.mk (hbox); have n2_ := Aside0.mk ((by rw [hg]; exact (below_size bA) : w.heap.size ≤ gb105)); have n3_ := Aside0.mk ((by rw [hg]; exact (below_size bA) : w.heap.size ≤ gb105)); clear HB; have HB := n0_; have BK105 := n1_; have GW105 := n2_; have GE105 := n3_; clear n0_ n1_ n2_ n3_; clear hb hbox hg; obtain ⟨hcz4_0, hcz4_1, hcz4_2, hcz4_3, hfz4_0, hfz4_1, hfz4_2, hfz4_3⟩ := blkc4 BK105))
    go_ret
    exact ⟨rA, bG⟩
  · replace c2 := Bool.eq_false_iff.mpr c2
    subst c2
    have H1 : (some (decide (a0_2 ≤ 900))) = some r := by rw [if_neg (show ¬ (false = true) by decide)] at H; exact H
    clear H
    have H := H1
    clear H1
    obtain rfl := Option.some.inj H
    go_enter Try.func17, Try.ntmps17
    go_wp2_with (first | ((with_reducible refine gate_dst (N := 1) rfl ?_); refine bE (N := 1) (cs := #[.int .i64 a0_0, .int .i64 a0_1, .int .i64 a0_2, .bool false]) (t := 25) ?_; intro gb105 hg w5 hbox hb; have n0_ := Aside0.mk (below_step bA hb); have n1_ := Aside0.mk (hbox); have n2_ := Aside0.mk ((by rw [hg]; exact (below_size bA) : w.heap.size ≤ gb105)); have n3_ := Aside0.mk ((by rw [hg]; exact (below_size bA) : w.heap.size ≤ gb105)); clear HB; have HB := n0_; have BK105 := n1_; have GW105 := n2_; have GE105 := n3_; clear n0_ n1_ n2_ n3_; clear hb hbox hg; obtain ⟨hcz6_0, hcz6_1, hcz6_2, hcz6_3, hfz6_0, hfz6_1, hfz6_2, hfz6_3⟩ := blkc4 BK105))
    go_ret
    exact ⟨rA, bG⟩

/-! ### impl_trusted: function 63 -/
def impl_trusted.q (id : Int) (x : S25) : Bool := decide (x.f0 = id) && (!x.f3 && decide (x.f2 ≤ 900))
set_option maxHeartbeats 400000 in
set_option maxRecDepth 100000 in
theorem impl_trusted.clo (id : Int) (g : Nat) (x : S25) (w : World) (hc : w.cell? ⟨g, 0, none⟩ = some (.int .i64 id)) :
    Calls Try.prog 80 #[.agg #[.int .i64 x.f0, .int .i64 x.f1, .int .i64 x.f2, .bool x.f3], .pointer (some ⟨g, 0, none⟩)] w fun e w' => e = .returned (.bool (impl_trusted.q id x)) ∧ Below w.heap.size w w' := by
  have hu := Try.underlying25
  have hg : g < w.heap.size := World.block_lt_of_cell? w _ hc
  by_cases h0 : x.f0 = id
  · have h0b : (x.f0 == id) = true := beq_iff_eq.mpr h0
    have h0c : decide (x.f0 = id) = true := decide_eq_true h0
    have HQ := Aside0.mk h0
    clear h0
    have HI := Aside0.mk (show impl_IsTrusted.f x.f0 x.f1 x.f2 x.f3 = some (!x.f3 && decide (x.f2 ≤ 900)) by unfold impl_IsTrusted.f; cases x.f3 <;> simp)
    go_enter Try.func80, Try.ntmps80
    go_wp2_with (go_at_call 17; refine (impl_IsTrusted.calls _ _ _ _ _ _ HI.out).mono ?_; rintro e w1 ⟨rfl, hb1⟩)
    go_ret
    exact ⟨by simp [impl_trusted.q, HQ.out], below_step (below_alloc (Below.refl _ _) _) hb1⟩
  · have h0b : (x.f0 == id) = false := beq_eq_false_iff_ne.mpr h0
    have h0c : decide (x.f0 = id) = false := decide_eq_false h0
    have HQ := Aside0.mk h0
    clear h0
    go_enter Try.func80, Try.ntmps80
    go_wp2
    go_ret
    exact ⟨by simp [impl_trusted.q, HQ.out], (Below.refl _ _).alloc (Nat.le_refl _) _⟩
def impl_trusted.ix (id : Int) : List S25 → Int → Int
  | [], _ => -1
  | x :: l, i => if impl_trusted.q id x = true then i else impl_trusted.ix id l (i + 1)
theorem impl_trusted.ix_hit (id : Int) : ∀ (l : List S25) (i : Int) (m : Nat) (hm : m < l.length), (∀ j (hj : j < m), impl_trusted.q id (l[j]'(by omega)) = false) → impl_trusted.q id l[m] = true → impl_trusted.ix id l i = i + m
  | [], i, m, hm, _, _ => absurd hm (by simp)
  | p :: l, i, 0, hm, _, h => by
    unfold impl_trusted.ix
    rw [if_pos (show impl_trusted.q id p = true from h)]
    simp
  | p :: l, i, m + 1, hm, hne, h => by
    unfold impl_trusted.ix
    have h2 : impl_trusted.q id p = false := hne 0 (by omega)
    rw [if_neg (by rw [h2]; decide), impl_trusted.ix_hit id l (i + 1) m (by simpa using hm) (fun j hj => hne (j + 1) (by omega)) h]
    omega
theorem impl_trusted.ix_miss (id : Int) : ∀ (l : List S25) (i : Int), (∀ j (hj : j < l.length), impl_trusted.q id l[j] = false) → impl_trusted.ix id l i = -1
  | [], i, _ => rfl
  | p :: l, i, h => by
    unfold impl_trusted.ix
    have h2 : impl_trusted.q id p = false := h 0 (by simp)
    rw [if_neg (by rw [h2]; decide), impl_trusted.ix_miss id l (i + 1) (fun j hj => h (j + 1) (by simpa using hj))]
theorem impl_trusted.rd_ (l : List S25) (j : Nat) (hj : j < l.length) : rd_T25 l (j : Int) = l[j] := by
  unfold rd_T25; simp [List.getD_eq_getElem?_getD, List.getElem?_eq_getElem hj]
set_option maxHeartbeats 4000000 in
set_option maxRecDepth 100000 in
theorem impl_trusted.idx (id : Int) (g : Nat) (A0 : Option Addr) (c0 : Nat) (l0 : List S25) (w : World) (hr0 : Kd.C k25 w A0 l0.length l0) (hc0 : l0.length ≤ c0) (hc : w.cell? ⟨g, 0, none⟩ = some (.int .i64 id)) :
    Calls Try.prog 79 #[.slice A0 l0.length c0, .func (.func 80) #[] #[.pointer (some ⟨g, 0, none⟩)]] w fun e w' => e = .returned (.int .i64 (impl_trusted.ix id l0 0)) ∧ Below w.heap.size w w' := by
  have hu := Try.underlying25
  have HC := Aside0.mk hc
  clear hc
  have HR0 := Aside0.mk hr0
  have HC0 := Aside0.mk hc0
  have hlen : l0.length ≤ 9223372036854775807 := hr0.2.1
  clear hr0 hc0
  have HB := Aside0.mk (Below.refl w.heap.size w)
  go_enter Try.func79, Try.ntmps79
  go_wp2
  go_loopg [5, 8] l0.length (fun gg v5 v8 w' => ∃ kk : Nat, v8 = .int .i64 kk ∧ Aside0 (kk ≤ l0.length) ∧ Aside0 (l0.length - kk ≤ gg) ∧ Aside0 (Below w.heap.size w w') ∧ Aside0 (∀ j (hj : j < kk) (hl : j < l0.length), impl_trusted.q id l0[j] = false))
  case atStart => exact ⟨0, rfl, ⟨Nat.zero_le _⟩, ⟨by omega⟩, HB, ⟨fun j hj => absurd hj (Nat.not_lt_zero _)⟩⟩
  case round =>
    clear HB
    obtain ⟨kk, rfl, hk, hg, HB, HA⟩ := hrel
    by_cases hlt : kk < l0.length
    · have hltz : decide ((kk : Int) < (l0.length : Int)) = true := decide_eq_true (by omega)
      have hltn : decide (kk < l0.length) = true := decide_eq_true hlt
      have p0 : (0 : Int) ≤ (kk : Int) := by omega
      have q0 : (kk : Int) < (l0.length : Int) := by omega
      have HE := Aside0.mk (impl_trusted.rd_ l0 kk hlt)
      obtain ⟨ad, e1, hx0, hx1, hx2, hx3⟩ := at_T25 HR0.out (kk : Int) p0 q0
      cases e1
      rw [Int.toNat_natCast] at hx0 hx1 hx2 hx3
      replace hx0 := hC HB hx0
      replace hx1 := hC HB hx1
      replace hx2 := hC HB hx2
      replace hx3 := hC HB hx3
      replace p0 := eq_true p0
      replace q0 := eq_true q0
      have hcl := fun (w' : World) (hb : Below w.heap.size w w') => impl_trusted.clo id g (rd_T25 l0 (kk : Int)) w' ((hb.cell (World.block_lt_of_cell? w _ HC.out)).trans HC.out)
      cases hq : impl_trusted.q id (rd_T25 l0 (kk : Int)) with
      | true =>
        rw [hq] at hcl
        have HCL := Aside0.mk hcl
        have HQ := Aside0.mk hq
        clear hcl hq
        go_wp2_with (go_at_call 80; refine (HCL.out _ HB.out).mono ?_; rintro e w1 ⟨rfl, hb1⟩)
        go_ret
        refine ⟨?_, below_step HB.out hb1⟩
        have hq := HQ.out
        rw [HE.out] at hq
        rw [impl_trusted.ix_hit id l0 0 kk hlt (fun j hj => HA.out j hj (by omega)) hq, Int.zero_add]
        rfl
      | false =>
        rw [hq] at hcl
        have HCL := Aside0.mk hcl
        have HQ := Aside0.mk hq
        clear hcl hq
        go_wp2_with (go_at_call 80; refine (HCL.out _ HB.out).mono ?_; rintro e w1 ⟨rfl, hb1⟩)
        go_roundg (l0.length - (kk + 1))
        case measure => have := hg.out; omega
        case rel =>
          refine ⟨kk + 1, by go_num, ⟨by omega⟩, ⟨by omega⟩, ⟨below_step HB.out hb1⟩, ⟨fun j hj hl => ?_⟩⟩
          rcases Nat.lt_or_ge j kk with h3 | h3
          · exact HA.out j h3 hl
          · have h4 : j = kk := by omega
            subst h4
            rw [← HE.out]
            exact HQ.out
    · have hge : decide ((kk : Int) < (l0.length : Int)) = false := decide_eq_false (by omega)
      have hgen : decide (kk < l0.length) = false := decide_eq_false hlt
      go_wp2
      go_ret
      refine ⟨?_, HB.out⟩
      rw [impl_trusted.ix_miss id l0 0 (fun j hj => HA.out j (by omega) hj)]
      rfl

def impl_trusted.f (l0 : List S25) (a1 : Int) : Option Int := some (impl_trusted.ix a1 l0 0)
set_option maxHeartbeats 400000 in
set_option maxRecDepth 100000 in
theorem impl_trusted.calls (A0 : Option Addr) (c0 : Nat) (l0 : List S25) (a1 : Int) (r : Int) (w : World) (hr0 : Kd.C k25 w A0 l0.length l0) (hc0 : l0.length ≤ c0) (h : impl_trusted.f l0 a1 = some r) :
    Calls Try.prog 63 #[.slice A0 l0.length c0, .int .i64 a1] w fun e w' => e = .returned (.int .i64 r) ∧ Below w.heap.size w w' := by
  obtain rfl := Option.some.inj h
  have HR0 := Aside0.mk hr0
  have HC0 := Aside0.mk hc0
  clear hr0 hc0 h
  go_enter Try.func63, Try.ntmps63
  go_wp2_with (go_at_call 79; refine (impl_trusted.idx a1 w.heap.size A0 c0 l0 _ ?s1 HC0.out ?s2).mono ?_; (case s1 => exact Kd.C_alloc HR0.out _); (case s2 => simp); rintro e w1 ⟨rfl, hb1⟩)
  go_ret
  exact ⟨rfl, below_step (below_alloc (Below.refl _ _) _) hb1⟩

/-! ### impl_LowDemand: function 32 -/
def impl_LowDemand.f (l0 : List (S25)) (a1 : Int) : Option (Int) := (impl_trusted.f l0 a1).bind fun t191 => (if t191 < 0 then (some 0) else (if 0 ≤ t191 then (if t191 < (l0.length : Int) then (some ((rd_T25 l0 t191).f1)) else (none)) else (none)))
set_option maxHeartbeats 8000000 in
set_option maxRecDepth 100000 in
theorem impl_LowDemand.calls (A0 : Option Addr) (c0 : Nat) (l0 : List (S25)) (a1 : Int) (r : Int) (w : World) (hr0 : Kd.C k25 w A0 l0.length l0) (hc0 : l0.length ≤ c0) (h : impl_LowDemand.f l0 a1 = some r) :
    Calls Try.prog 32 #[.slice A0 l0.length c0, .int .i64 a1] w fun e w' => e = .returned (.int .i64 r) ∧ Below w.heap.size w w' := by
  have HR0 := Aside0.mk hr0
  have HC0 := Aside0.mk hc0
  clear hr0 hc0
  have HB := Aside0.mk (Below.refl w.heap.size w)
  have H : ((impl_trusted.f l0 a1).bind fun t191 => (if t191 < 0 then (some 0) else (if 0 ≤ t191 then (if t191 < (l0.length : Int) then (some ((rd_T25 l0 t191).f1)) else (none)) else (none)))) = some r := h
  clear h
  obtain ⟨t191, A3, H⟩ := bindE H
  try dsimp only at H
  by_cases c4 : t191 < 0
  · rw [if_pos c4] at H
    have c4b0 : decide (t191 < 0) = true := decide_eq_true c4
    clear c4
    obtain rfl := Option.some.inj H
    go_enter Try.func32, Try.ntmps32
    go_wp2_with (first | ((with_reducible refine gate_callee (f := 63) rfl ?_); refine gL (some 8) Try.func63 #[.slice A0 l0.length c0, .int .i64 a1] ?_; (with_reducible refine (impl_trusted.calls _ _ l0 a1 t191 _ ?side1 ?side2 A3.out).mono ?_); (case side1 => exact cO HR0); (case side2 => exact HC0.out); rintro e w5 ⟨rfl, hb⟩; refine ⟨_, rfl, ?_⟩; replace HB := Aside0.mk (below_step bA hb); (try clear hb); (try clear hb2); (try clear hk); (try clear hi)))
    go_ret
    exact ⟨rA, bA⟩
  · rw [if_neg c4] at H
    have c4b0 : decide (t191 < 0) = false := decide_eq_false c4
    clear c4
    have c6 : 0 ≤ t191 := ifN H
    replace H := ifT H
    have c6b0 : decide (0 ≤ t191) = true := decide_eq_true c6
    clear c6
    have c7 : t191 < (l0.length : Int) := ifN H
    replace H := ifT H
    have c7b0 : decide (t191 < (l0.length : Int)) = true := decide_eq_true c7
    clear c7
    obtain rfl := Option.some.inj H
    go_enter Try.func32, Try.ntmps32
    go_wp2_with (first | ((with_reducible refine gate_callee (f := 63) rfl ?_); refine gL (some 8) Try.func63 #[.slice A0 l0.length c0, .int .i64 a1] ?_; (with_reducible refine (impl_trusted.calls _ _ l0 a1 t191 _ ?side1 ?side2 A3.out).mono ?_); (case side1 => exact cO HR0); (case side2 => exact HC0.out); rintro e w8 ⟨rfl, hb⟩; refine ⟨_, rfl, ?_⟩; replace HB := Aside0.mk (below_step bA hb); (try clear hb); (try clear hb2); (try clear hk); (try clear hi); have p192 : 0 ≤ (t191 : Int) := dA; have q192 : t191 < (l0.length : Int) := dA; obtain ⟨ad192, e192, hx192_0, hx192_1, hx192_2, hx192_3⟩ := at_T25 HR0.out t191 p192 q192; cases e192; replace hx192_0 := hC HB hx192_0; replace hx192_1 := hC HB hx192_1; replace hx192_2 := hC HB hx192_2; replace hx192_3 := hC HB hx192_3; replace p192 := eq_true p192; replace q192 := eq_true q192))
    go_ret
    exact ⟨rA, bA⟩

/-! ### impl_HighDemand: function 35 -/
def impl_HighDemand.f (l0 : List (S25)) (a1 : Int) : Option (Int) := (impl_trusted.f l0 a1).bind fun t213 => (if t213 < 0 then (some 1000) else (if 0 ≤ t213 then (if t213 < (l0.length : Int) then (some ((rd_T25 l0 t213).f1)) else (none)) else (none)))
set_option maxHeartbeats 8000000 in
set_option maxRecDepth 100000 in
theorem impl_HighDemand.calls (A0 : Option Addr) (c0 : Nat) (l0 : List (S25)) (a1 : Int) (r : Int) (w : World) (hr0 : Kd.C k25 w A0 l0.length l0) (hc0 : l0.length ≤ c0) (h : impl_HighDemand.f l0 a1 = some r) :
    Calls Try.prog 35 #[.slice A0 l0.length c0, .int .i64 a1] w fun e w' => e = .returned (.int .i64 r) ∧ Below w.heap.size w w' := by
  have HR0 := Aside0.mk hr0
  have HC0 := Aside0.mk hc0
  clear hr0 hc0
  have HB := Aside0.mk (Below.refl w.heap.size w)
  have H : ((impl_trusted.f l0 a1).bind fun t213 => (if t213 < 0 then (some 1000) else (if 0 ≤ t213 then (if t213 < (l0.length : Int) then (some ((rd_T25 l0 t213).f1)) else (none)) else (none)))) = some r := h
  clear h
  obtain ⟨t213, A3, H⟩ := bindE H
  try dsimp only at H
  by_cases c4 : t213 < 0
  · rw [if_pos c4] at H
    have c4b0 : decide (t213 < 0) = true := decide_eq_true c4
    clear c4
    obtain rfl := Option.some.inj H
    go_enter Try.func35, Try.ntmps35
    go_wp2_with (first | ((with_reducible refine gate_callee (f := 63) rfl ?_); refine gL (some 8) Try.func63 #[.slice A0 l0.length c0, .int .i64 a1] ?_; (with_reducible refine (impl_trusted.calls _ _ l0 a1 t213 _ ?side1 ?side2 A3.out).mono ?_); (case side1 => exact cO HR0); (case side2 => exact HC0.out); rintro e w5 ⟨rfl, hb⟩; refine ⟨_, rfl, ?_⟩; replace HB := Aside0.mk (below_step bA hb); (try clear hb); (try clear hb2); (try clear hk); (try clear hi)))
    go_ret
    exact ⟨rA, bA⟩
  · rw [if_neg c4] at H
    have c4b0 : decide (t213 < 0) = false := decide_eq_false c4
    clear c4
    have c6 : 0 ≤ t213 := ifN H
    replace H := ifT H
    have c6b0 : decide (0 ≤ t213) = true := decide_eq_true c6
    clear c6
    have c7 : t213 < (l0.length : Int) := ifN H
    replace H := ifT H
    have c7b0 : decide (t213 < (l0.length : Int)) = true := decide_eq_true c7
    clear c7
    obtain rfl := Option.some.inj H
    go_enter Try.func35, Try.ntmps35
    go_wp2_with (first | ((with_reducible refine gate_callee (f := 63) rfl ?_); refine gL (some 8) Try.func63 #[.slice A0 l0.length c0, .int .i64 a1] ?_; (with_reducible refine (impl_trusted.calls _ _ l0 a1 t213 _ ?side1 ?side2 A3.out).mono ?_); (case side1 => exact cO HR0); (case side2 => exact HC0.out); rintro e w8 ⟨rfl, hb⟩; refine ⟨_, rfl, ?_⟩; replace HB := Aside0.mk (below_step bA hb); (try clear hb); (try clear hb2); (try clear hk); (try clear hi); have p214 : 0 ≤ (t213 : Int) := dA; have q214 : t213 < (l0.length : Int) := dA; obtain ⟨ad214, e214, hx214_0, hx214_1, hx214_2, hx214_3⟩ := at_T25 HR0.out t213 p214 q214; cases e214; replace hx214_0 := hC HB hx214_0; replace hx214_1 := hC HB hx214_1; replace hx214_2 := hC HB hx214_2; replace hx214_3 := hC HB hx214_3; replace p214 := eq_true p214; replace q214 := eq_true q214))
    go_ret
    exact ⟨rA, bA⟩

/-! ### impl_StageDemand: function 57 -/
def impl_StageDemand.l0 : Nat → List (S25) → Int → List Int → Int → Int → Option (Int)
  | 0, _, _, _, _, _ => none
  | k + 1, x0, x5, x16, x17, x18 => if x18 < x17 then (if 0 ≤ x18 then (if x18 < (x16.length : Int) then ((impl_LowDemand.f x0 (rd x16 x18)).bind fun t463 => (impl_StageDemand.l0 k x0 (mx x5 t463) x16 x17 (wrap64 (x18 + 1)))) else (none)) else (none)) else (some x5)
def impl_StageDemand.f (k : Nat) (l0 : List (S25)) (l1 : List Int) : Option (Int) := if (l1.length : Int) = 0 then (some 0) else (if 0 < (l1.length : Int) then ((impl_LowDemand.f l0 (rd l1 0)).bind fun t461 => (impl_StageDemand.l0 k l0 t461 l1 (l1.length : Int) 0)) else (none))
theorem impl_StageDemand.mono_l : ∀ k, (∀ y0 y1 y2 y3 y4, LeO (impl_StageDemand.l0 k y0 y1 y2 y3 y4) (impl_StageDemand.l0 (k + 1) y0 y1 y2 y3 y4))
  | 0 => fun _ _ _ _ _ r h => by simp [impl_StageDemand.l0] at h
  | k + 1 => by
    have ih0 := impl_StageDemand.mono_l k
    · intro y0 y1 y2 y3 y4
      unfold impl_StageDemand.l0
      repeat' first | (with_reducible first | exact LeO.refl _ | exact LeO.none _ | refine LeO.ite ?_ ?_ | refine LeO.bind ?_ (fun _ => ?_) | exact ih0 _ _ _ _ _) | exact LeO.none _ | refine LeO.ite ?_ ?_ | refine LeO.bind ?_ (fun _ => ?_) | exact ih0 _ _ _ _ _
theorem impl_StageDemand.mono : ∀ a0 a1 k, LeO (impl_StageDemand.f k a0 a1) (impl_StageDemand.f (k + 1) a0 a1) := by
  intro a0 a1 k
  have ih0 := impl_StageDemand.mono_l k
  unfold impl_StageDemand.f
  repeat' first | (with_reducible first | exact LeO.refl _ | exact LeO.none _ | refine LeO.ite ?_ ?_ | refine LeO.bind ?_ (fun _ => ?_) | exact ih0 _ _ _ _ _) | exact LeO.none _ | refine LeO.ite ?_ ?_ | refine LeO.bind ?_ (fun _ => ?_) | exact ih0 _ _ _ _ _
set_option maxHeartbeats 8000000 in
set_option maxRecDepth 100000 in
theorem impl_StageDemand.calls (k : Nat) (A0 : Option Addr) (c0 : Nat) (l0 : List (S25)) (A1 : Option Addr) (c1 : Nat) (l1 : List Int) (r : Int) (w : World) (hr0 : Kd.C k25 w A0 l0.length l0) (hc0 : l0.length ≤ c0) (hr1 : Kd.C (Kd.int .i64) w A1 l1.length l1) (hc1 : l1.length ≤ c1) (h : impl_StageDemand.f k l0 l1 = some r) :
    Calls Try.prog 57 #[.slice A0 l0.length c0, .slice A1 l1.length c1] w fun e w' => e = .returned (.int .i64 r) ∧ Below w.heap.size w w' := by
  have HR0 := Aside0.mk hr0
  have HC0 := Aside0.mk hc0
  clear hr0 hc0
  have HR1 := Aside0.mk hr1
  have HC1 := Aside0.mk hc1
  clear hr1 hc1
  have HB := Aside0.mk (Below.refl w.heap.size w)
  have H : (if (l1.length : Int) = 0 then (some 0) else (if 0 < (l1.length : Int) then ((impl_LowDemand.f l0 (rd l1 0)).bind fun t461 => (impl_StageDemand.l0 k l0 t461 l1 (l1.length : Int) 0)) else (none))) = some r := h
  clear h
  by_cases c3 : (l1.length : Int) = 0
  · rw [if_pos c3] at H
    have c3b0 : ((l1.length : Int) == 0) = true := beq_iff_eq.mpr c3
    have c3b1 : ((l1.length : Int) != 0) = false := bne_eq_false_iff_eq.mpr c3
    clear c3
    obtain rfl := Option.some.inj H
    go_enter Try.func57, Try.ntmps57
    go_wp2
    go_ret
    exact ⟨rA, bA⟩
  · rw [if_neg c3] at H
    have c3b0 : ((l1.length : Int) == 0) = false := beq_eq_false_iff_ne.mpr c3
    have c3b1 : ((l1.length : Int) != 0) = true := bne_iff_ne.mpr c3
    have c3b2 : ¬ (l1 = []) := fun h_ => c3 (by rw [h_]; rfl)
    have c4 : 0 < (l1.length : Int) := ifN H
    replace H := ifT H
    have c4b0 : decide (0 < (l1.length : Int)) = true := decide_eq_true c4
    have c4b1 : decide (0 < l1.length) = true := decide_eq_true (by omega)
    clear c4
    obtain ⟨t461, A5, H⟩ := bindE H
    try dsimp only at H
    have H' := Aside0.mk H
    clear H
    have p460 : 0 ≤ (0 : Int) := (by omega)
    have q460 : 0 < (l1.length : Int) := dA
    obtain ⟨ad460, e460, hx460_0⟩ := Kd.at_int HR1.out 0 p460 q460
    cases e460
    have qi460 : (0 < l1.length) = True := eq_true (by omega)
    (try rw [show ((0 : Int)).toNat = 0 from rfl] at hx460_0)
    (try rw [Addr.add_zero'] at hx460_0)
    replace p460 := eq_true p460
    replace q460 := eq_true q460
    go_enter Try.func57, Try.ntmps57
    go_wp2_with (first | ((with_reducible refine gate_callee (f := 32) rfl ?_); refine gL (some 15) Try.func32 #[.slice A0 l0.length c0, .int .i64 (rd l1 0)] ?_; (with_reducible refine (impl_LowDemand.calls _ _ l0 (rd l1 0) t461 _ ?side1 ?side2 A5.out).mono ?_); (case side1 => exact cO HR0); (case side2 => exact HC0.out); rintro e w6 ⟨rfl, hb⟩; refine ⟨_, rfl, ?_⟩; replace HB := Aside0.mk (below_step bA hb); (try clear hb); (try clear hb2); (try clear hk); (try clear hi)))
    go_loopg [5, 18] k (fun kq v5 v18 w' => ∃ (x5_1 : Int) (x18_1 : Int), v5 = .int .i64 x5_1 ∧ v18 = .int .i64 x18_1 ∧ Aside0 (impl_StageDemand.l0 kq l0 x5_1 l1 (l1.length : Int) x18_1 = some r) ∧ Aside0 (kq ≤ k) ∧ Aside0 (Below w.heap.size w w'))
    case atStart => exact ⟨(t461), (0), rS, rS, H', ⟨Nat.le_refl _⟩, ⟨bA⟩⟩
    case round =>
      clear H'
      try clear c1
      try clear p2
      try clear c3
      try clear c3b0
      try clear c3b1
      try clear c3b2
      try clear c4
      try clear c4b0
      try clear c4b1
      try clear p4
      try clear q4
      try clear hx4
      try clear qi4
      try clear c5
      try clear hx460_0
      try clear p460
      try clear q460
      obtain ⟨x5_1, x18_1, rfl, rfl, HA, HK1, HB⟩ := hrel
      cases gk with
      | zero => exact absurd HA.out (by simp [impl_StageDemand.l0])
      | succ k1 =>
        have H := HA.out
        clear HA
        simp only [impl_StageDemand.l0] at H
        by_cases c7 : x18_1 < (l1.length : Int)
        · rw [if_pos c7] at H
          have c7b0 : decide (x18_1 < (l1.length : Int)) = true := decide_eq_true c7
          clear c7
          have c8 : 0 ≤ x18_1 := ifN H
          replace H := ifT H
          have c8b0 : decide (0 ≤ x18_1) = true := decide_eq_true c8
          clear c8
          have c9 : x18_1 < (l1.length : Int) := ifN H
          replace H := ifT H
          have c9b0 : decide (x18_1 < (l1.length : Int)) = true := decide_eq_true c9
          clear c9
          obtain ⟨t463, A10, H⟩ := bindE H
          try dsimp only at H
          obtain ⟨ji11, hji11⟩ : ∃ j_ : Int, (mx x5_1 t463) = j_ := ⟨_, rfl⟩
          replace H : (impl_StageDemand.l0 k1 l0 ji11 l1 (l1.length : Int) (wrap64 (x18_1 + 1))) = some r := by first | (rw [hji11] at H; exact H) | (simp only [hji11] at H ⊢; exact H)
          (try rw [hji11] at A10)
          have hji11_ : (if x5_1 < t463 then t463 else x5_1) = ji11 := hji11
          have H' := Aside0.mk H
          clear H
          have p462 : 0 ≤ (x18_1 : Int) := dA
          have q462 : x18_1 < (l1.length : Int) := dA
          obtain ⟨ad462, e462, hx462_0⟩ := Kd.at_int HR1.out x18_1 p462 q462
          obtain rfl : ad460 = ad462 := (by injection e462)
          replace hx462_0 := hC HB hx462_0
          replace p462 := eq_true p462
          replace q462 := eq_true q462
          go_wp2_with (first | ((with_reducible refine gate_callee (f := 32) rfl ?_); refine gL (some 25) Try.func32 #[.slice A0 l0.length c0, .int .i64 (rd l1 x18_1)] ?_; (with_reducible refine (impl_LowDemand.calls _ _ l0 (rd l1 x18_1) t463 _ ?side1 ?side2 A10.out).mono ?_); (case side1 => exact cB HR0); (case side2 => exact HC0.out); rintro e w12 ⟨rfl, hb⟩; refine ⟨_, rfl, ?_⟩; replace HB := Aside0.mk (below_step bA hb); (try clear hb); (try clear hb2); (try clear hk); (try clear hi)))
          go_roundg k1
          case measure => have := HK1.out; omega
          case rel => exact ⟨(ji11), (wrap64 (x18_1 + 1)), (by first | rfl | (simp; done) | (simp only [← hji11] <;> (first | rfl | simp)) | (simp [*]; done)), rS, H', ⟨by have := HK1.out; omega⟩, ⟨bA⟩⟩
        · rw [if_neg c7] at H
          have c7b0 : decide (x18_1 < (l1.length : Int)) = false := decide_eq_false c7
          clear c7
          obtain rfl := Option.some.inj H
          go_wp2
          go_ret
          exact ⟨rA, bA⟩

end Go.Proofs.Ytdgeeokningcnaa.P
