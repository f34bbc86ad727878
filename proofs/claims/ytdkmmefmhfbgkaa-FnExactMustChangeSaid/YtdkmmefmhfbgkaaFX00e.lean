/- Printed by myprint.py (wip/tools) over the kit's print: what Go's functions compute, and that they do. Lean checks it. -/
import Derived.Test.YtdkmmefmhfbgkaaF0
import Derived.Test.YtdkmmefmhfbgkaaFX00
import Derived.Test.YtdkmmefmhfbgkaaFX00c
import Derived.Test.YtdkmmefmhfbgkaaFX00d
namespace Go.Proofs.Ytdkmmefmhfbgkaa.P
open Go.RowKit Go.Proofs.YtdkmmefmhfbgkaaW.PrintWords Go.Proofs.YtdkmmefmhfbgkaaW.PrintLast Go.Proofs.YtdkmmefmhfbgkaaW.PrintMore Go.Proofs.Ytdkmmefmhfbgkaa.Sq
attribute [local go_sem] max2_int min2_int max_two min_two max_three min_three max_four min_four
set_option linter.unusedVariables false
set_option linter.unusedSimpArgs false

/-! ### impl_MustChange: function 53 -/
theorem impl_MustChange.has_loop (l : List Int) (x : Int) (hl : l.length ≤ 9223372036854775807) : ∀ d i, i + d = l.length → ∃ r : Int, slices_Index_int_int.l0 (d + 1) l x (l.length : Int) (i : Int) = some r ∧ (0 ≤ r ↔ x ∈ l.drop i)
 | 0, i, h => by
  refine ⟨-1, ?_, ?_⟩
  ·
   rw [slices_Index_int_int.l0, if_neg (by omega)]
  ·
   rw [List.drop_of_length_le (by omega)]; simp
 | d + 1, i, h => by
  have hi : i < l.length := by omega
  have e : rd l (i : Int) = l[i] := by unfold rd; simp [List.getD_eq_getElem?_getD, List.getElem?_eq_getElem hi]
  rw [slices_Index_int_int.l0, if_pos (by omega), if_pos (by omega), if_pos (by omega), e, List.drop_eq_getElem_cons hi]
  by_cases c : x = l[i]
  ·
   exact ⟨i, if_pos c, ⟨fun _ => by rw [c]; exact List.mem_cons_self .., fun _ => by omega⟩⟩
  ·
   obtain ⟨r, h1, h2⟩ := impl_MustChange.has_loop l x hl d (i + 1) (by omega)
   refine ⟨r, ?_, h2.trans ⟨fun hh => List.mem_cons_of_mem _ hh, fun hh => (List.mem_cons.1 hh).resolve_left c⟩⟩
   rw [if_neg c, show wrap64 ((i : Int) + 1) = ((i + 1 : Nat) : Int) by unfold wrap64; omega]
   exact h1
theorem impl_MustChange.has (l : List Int) (x : Int) (hl : l.length ≤ 9223372036854775807) : slices_Contains_int_int.f (l.length + 1) l x = some (decide (x ∈ l)) := by
 obtain ⟨r, h1, h2⟩ := impl_MustChange.has_loop l x hl l.length 0 (by omega)
 unfold slices_Contains_int_int.f slices_Index_int_int.f
 have h1 : slices_Index_int_int.l0 (l.length + 1) l x (l.length : Int) 0 = some r := h1
 rw [h1, Option.bind_some]
 congr 1
 exact decide_eq_decide.2 (by rw [List.drop_zero] at h2; exact h2)
def impl_MustChange.q (st : List Int) (x : S115) : Bool := decide (x.f0 ∈ st)
set_option maxHeartbeats 400000 in
set_option maxRecDepth 100000 in
theorem impl_MustChange.clo (st : List Int) (g : Nat) (A1 : Option Addr) (c1 : Nat) (x : S115) (w : World) (hc1 : st.length ≤ c1) (hcr : Kd.C (Kd.int .i64) w A1 st.length st) (hc : w.cell? ⟨g, 0, none⟩ = some (.slice A1 st.length c1)) :
  Calls Try.prog 103 #[.agg #[.int .i64 x.f0, .int .i64 x.f1], .pointer (some ⟨g, 0, none⟩)] w fun e w' => e = .returned (.bool (impl_MustChange.q st x)) ∧ Below w.heap.size w w' := by
 have hu := Try.underlying115
 have hu2 := Try.underlying57
 have hg : g < w.heap.size := World.block_lt_of_cell? w _ hc
 have HI := Aside0.mk (impl_MustChange.has st x.f0 hcr.2.1)
 have HR := Aside0.mk hcr
 have HK := Aside0.mk hc1
 clear hcr hc1
 go_enter Try.func103, Try.ntmps103
 go_wp2_with (go_at_call 104; refine (slices_Contains_int_int.calls _ _ _ st x.f0 _ _ ?s1 HK.out HI.out).mono ?_; (case s1 => first | exact HR.out | exact Kd.C_alloc HR.out _ | exact Kd.C_drew (Kd.C_alloc HR.out _)); rintro e w1 ⟨rfl, hb1⟩)
 go_ret
 exact ⟨rfl, below_step (below_alloc (Below.refl _ _) _) hb1.below⟩
def impl_MustChange.ix (st : List Int) : List S115 → Int → Int
 | [], _ => -1
 | x :: l, i => if impl_MustChange.q st x = true then i else impl_MustChange.ix st l (i + 1)
theorem impl_MustChange.ix_hit (st : List Int) : ∀ (l : List S115) (i : Int) (m : Nat) (hm : m < l.length), (∀ j (hj : j < m), impl_MustChange.q st (l[j]'(by omega)) = false) → impl_MustChange.q st l[m] = true → impl_MustChange.ix st l i = i + m
 | [], i, m, hm, _, _ => absurd hm (by simp)
 | p :: l, i, 0, hm, _, h => by
  unfold impl_MustChange.ix
  rw [if_pos (show impl_MustChange.q st p = true from h)]
  simp
 | p :: l, i, m + 1, hm, hne, h => by
  unfold impl_MustChange.ix
  have h2 : impl_MustChange.q st p = false := hne 0 (by omega)
  rw [if_neg (by rw [h2]; decide), impl_MustChange.ix_hit st l (i + 1) m (by simpa using hm) (fun j hj => hne (j + 1) (by omega)) h]
  omega
theorem impl_MustChange.ix_miss (st : List Int) : ∀ (l : List S115) (i : Int), (∀ j (hj : j < l.length), impl_MustChange.q st l[j] = false) → impl_MustChange.ix st l i = -1
 | [], i, _ => rfl
 | p :: l, i, h => by
  unfold impl_MustChange.ix
  have h2 : impl_MustChange.q st p = false := h 0 (by simp)
  rw [if_neg (by rw [h2]; decide), impl_MustChange.ix_miss st l (i + 1) (fun j hj => h (j + 1) (by simpa using hj))]
theorem impl_MustChange.rd_ (l : List S115) (j : Nat) (hj : j < l.length) : rd_T115 l (j : Int) = l[j] := by
 unfold rd_T115; simp [List.getD_eq_getElem?_getD, List.getElem?_eq_getElem hj]
set_option maxHeartbeats 4000000 in
set_option maxRecDepth 100000 in
theorem impl_MustChange.idx (st : List Int) (g : Nat) (A0 : Option Addr) (c0 : Nat) (l0 : List S115) (w : World) (hr0 : Kd.C k115 w A0 l0.length l0) (hc0 : l0.length ≤ c0) (A1 : Option Addr) (c1 : Nat) (hc1 : st.length ≤ c1) (hcr : Kd.C (Kd.int .i64) w A1 st.length st) (hc : w.cell? ⟨g, 0, none⟩ = some (.slice A1 st.length c1)) :
  Calls Try.prog 137 #[.slice A0 l0.length c0, .func (.func 103) #[] #[.pointer (some ⟨g, 0, none⟩)]] w fun e w' => e = .returned (.int .i64 (impl_MustChange.ix st l0 0)) ∧ Below w.heap.size w w' := by
 have hu := Try.underlying115
 have HC := Aside0.mk hc
 have HCR := Aside0.mk hcr
 have HK1 := Aside0.mk hc1
 clear hc hcr hc1
 have HR0 := Aside0.mk hr0
 have HC0 := Aside0.mk hc0
 have hlen : l0.length ≤ 9223372036854775807 := hr0.2.1
 clear hr0 hc0
 have HB := Aside0.mk (Below.refl w.heap.size w)
 go_enter Try.func137, Try.ntmps137
 go_wp2
 go_loopg [5, 8] l0.length (fun gg v5 v8 w' => ∃ kk : Nat, v8 = .int .i64 kk ∧ Aside0 (kk ≤ l0.length) ∧ Aside0 (l0.length - kk ≤ gg) ∧ Aside0 (Below w.heap.size w w') ∧ Aside0 (∀ j (hj : j < kk) (hl : j < l0.length), impl_MustChange.q st l0[j] = false))
 case atStart => exact ⟨0, rfl, ⟨Nat.zero_le _⟩, ⟨by omega⟩, HB, ⟨fun j hj => absurd hj (Nat.not_lt_zero _)⟩⟩
 case round =>
  clear HB
  obtain ⟨kk, rfl, hk, hg, HB, HA⟩ := hrel
  by_cases hlt : kk < l0.length
  ·
   have hltz : decide ((kk : Int) < (l0.length : Int)) = true := decide_eq_true (by omega)
   have hltn : decide (kk < l0.length) = true := decide_eq_true hlt
   have p0 : (0 : Int) ≤ (kk : Int) := by omega
   have q0 : (kk : Int) < (l0.length : Int) := by omega
   have HE := Aside0.mk (impl_MustChange.rd_ l0 kk hlt)
   obtain ⟨ad, e1, hx0, hx1⟩ := at_T115 HR0.out (kk : Int) p0 q0
   cases e1
   rw [Int.toNat_natCast] at hx0 hx1
   replace hx0 := hC HB hx0
   replace hx1 := hC HB hx1
   replace p0 := eq_true p0
   replace q0 := eq_true q0
   have hcl := fun (w' : World) (hb : Below w.heap.size w w') => impl_MustChange.clo st g A1 c1 (rd_T115 l0 (kk : Int)) w' HK1.out (Kd.C_below HCR.out hb) ((hb.cell (World.block_lt_of_cell? w _ HC.out)).trans HC.out)
   cases hq : impl_MustChange.q st (rd_T115 l0 (kk : Int)) with
   | true =>
    rw [hq] at hcl
    have HCL := Aside0.mk hcl
    have HQ := Aside0.mk hq
    clear hcl hq
    go_wp2_with (go_at_call 103; refine (HCL.out _ HB.out).mono ?_; rintro e w1 ⟨rfl, hb1⟩)
    go_ret
    refine ⟨?_, below_step HB.out hb1⟩
    have hq := HQ.out
    rw [HE.out] at hq
    rw [impl_MustChange.ix_hit st l0 0 kk hlt (fun j hj => HA.out j hj (by omega)) hq, Int.zero_add]
    rfl
   | false =>
    rw [hq] at hcl
    have HCL := Aside0.mk hcl
    have HQ := Aside0.mk hq
    clear hcl hq
    go_wp2_with (go_at_call 103; refine (HCL.out _ HB.out).mono ?_; rintro e w1 ⟨rfl, hb1⟩)
    go_roundg (l0.length - (kk + 1))
    case measure => have := hg.out; omega
    case rel =>
     refine ⟨kk + 1, by go_num, ⟨by omega⟩, ⟨by omega⟩, ⟨below_step HB.out hb1⟩, ⟨fun j hj hl => ?_⟩⟩
     rcases Nat.lt_or_ge j kk with h3 | h3
     ·
      exact HA.out j h3 hl
     ·
      have h4 : j = kk := by omega
      subst h4
      rw [← HE.out]
      exact HQ.out
  ·
   have hge : decide ((kk : Int) < (l0.length : Int)) = false := decide_eq_false (by omega)
   have hgen : decide (kk < l0.length) = false := decide_eq_false hlt
   go_wp2
   go_ret
   refine ⟨?_, HB.out⟩
   rw [impl_MustChange.ix_miss st l0 0 (fun j hj => HA.out j (by omega) hj)]
   rfl
set_option maxHeartbeats 400000 in
set_option maxRecDepth 100000 in
theorem impl_MustChange.cont (st : List Int) (g : Nat) (A0 : Option Addr) (c0 : Nat) (l0 : List S115) (w : World) (hr0 : Kd.C k115 w A0 l0.length l0) (hc0 : l0.length ≤ c0) (A1 : Option Addr) (c1 : Nat) (hc1 : st.length ≤ c1) (hcr : Kd.C (Kd.int .i64) w A1 st.length st) (hc : w.cell? ⟨g, 0, none⟩ = some (.slice A1 st.length c1)) :
  Calls Try.prog 102 #[.slice A0 l0.length c0, .func (.func 103) #[] #[.pointer (some ⟨g, 0, none⟩)]] w fun e w' => e = .returned (.bool (decide (0 ≤ impl_MustChange.ix st l0 0))) ∧ Below w.heap.size w w' := by
 have HR0 := Aside0.mk hr0
 have HC0 := Aside0.mk hc0
 have HC := Aside0.mk hc
 have HCR := Aside0.mk hcr
 have HK := Aside0.mk hc1
 clear hr0 hc0 hc hcr hc1
 go_enter Try.func102, Try.ntmps102
 go_wp2_with (go_at_call 137; refine (impl_MustChange.idx st g A0 c0 l0 _ HR0.out HC0.out A1 c1 HK.out HCR.out HC.out).mono ?_; rintro e w1 ⟨rfl, hb1⟩)
 go_ret
 exact ⟨rfl, hb1⟩
def impl_MustChange.f (k : Nat) (l0 : List S89) (l1_0 : List Int) (a1_1 : Int) (l1_2 : List Int) (a1_3 : Int) (l2 : List S115) : Option Bool :=
 (impl_CanEnd.f k l0 l1_0 a1_1 l1_2 a1_3).bind fun a => if a = true then ((impl_NextStage.f k l0 l1_0 a1_1 l1_2 a1_3 l2).bind fun s => if s.length = 0 then some false else (if 60 ≤ a1_1 then some true else some (!decide (0 ≤ impl_MustChange.ix l1_0 l2 0)))) else some false
theorem impl_MustChange.mono : ∀ a0 a1 a2 a3 a4 a5 k, LeO (impl_MustChange.f k a0 a1 a2 a3 a4 a5) (impl_MustChange.f (k + 1) a0 a1 a2 a3 a4 a5) := by
 intro a0 a1 a2 a3 a4 a5 k
 unfold impl_MustChange.f
 exact LeO.bind (impl_CanEnd.mono _ _ _ _ _ _) (fun _ => LeO.ite (LeO.bind (impl_NextStage.mono _ _ _ _ _ _ _) (fun _ => LeO.refl _)) (LeO.refl _))
set_option maxHeartbeats 4000000 in
set_option maxRecDepth 100000 in
theorem impl_MustChange.calls (k : Nat) (A0 : Option Addr) (c0 : Nat) (l0 : List S89) (A1_0 : Option Addr) (c1_0 : Nat) (l1_0 : List Int) (a1_1 : Int) (A1_2 : Option Addr) (c1_2 : Nat) (l1_2 : List Int) (a1_3 : Int) (A2 : Option Addr) (c2 : Nat) (l2 : List S115) (r : Bool) (w : World) (hr0 : Kd.C k89 w A0 l0.length l0) (hc0 : l0.length ≤ c0) (hr1_0 : Kd.C (Kd.int .i64) w A1_0 l1_0.length l1_0) (hc1_0 : l1_0.length ≤ c1_0) (hr1_2 : Kd.C (Kd.int .i64) w A1_2 l1_2.length l1_2) (hc1_2 : l1_2.length ≤ c1_2) (hr2 : Kd.C k115 w A2 l2.length l2) (hc2 : l2.length ≤ c2) (h : impl_MustChange.f k l0 l1_0 a1_1 l1_2 a1_3 l2 = some r) :
  Calls Try.prog 53 #[.slice A0 l0.length c0, .agg #[.slice A1_0 l1_0.length c1_0, .int .i64 a1_1, .slice A1_2 l1_2.length c1_2, .int .i64 a1_3], .slice A2 l2.length c2] w fun e w' => e = .returned (.bool r) ∧ Below w.heap.size w w' := by
 have hu := Try.underlying57
 have HR0 := Aside0.mk hr0
 have HC0 := Aside0.mk hc0
 have HR1 := Aside0.mk hr1_0
 have HC1 := Aside0.mk hc1_0
 have HR3 := Aside0.mk hr1_2
 have HC3 := Aside0.mk hc1_2
 have HR2 := Aside0.mk hr2
 have HC2 := Aside0.mk hc2
 clear hr0 hc0 hr1_0 hc1_0 hr1_2 hc1_2 hr2 hc2
 unfold impl_MustChange.f at h
 obtain ⟨a, ha, h⟩ := Option.bind_eq_some_iff.1 h
 have HA := Aside0.mk ha
 clear ha
 cases a with
 | false =>
  rw [if_neg (by decide)] at h
  obtain rfl := Option.some.inj h
  clear h
  go_enter Try.func53, Try.ntmps53
  go_wp2_with (go_at_call 86; refine (impl_CanEnd.calls k A0 c0 l0 A1_0 c1_0 l1_0 a1_1 A1_2 c1_2 l1_2 a1_3 _ _ (Kd.C_alloc HR0.out _) HC0.out (Kd.C_alloc HR1.out _) HC1.out (Kd.C_alloc HR3.out _) HC3.out HA.out).mono ?_; rintro e w1 ⟨rfl, hb1⟩; have y10 : w1.cell? ⟨w.heap.size, 0, none⟩ = some (.slice A1_0 l1_0.length c1_0) := (by rw [hb1.cell (by simp)]; (try simp)); have y11 : w1.cell? ⟨w.heap.size, 1, none⟩ = some (.int .i64 a1_1) := (by rw [hb1.cell (by simp)]; (try simp)); have y12 : w1.cell? ⟨w.heap.size, 2, none⟩ = some (.slice A1_2 l1_2.length c1_2) := (by rw [hb1.cell (by simp)]; (try simp)); have y13 : w1.cell? ⟨w.heap.size, 3, none⟩ = some (.int .i64 a1_3) := (by rw [hb1.cell (by simp)]; (try simp)); have B1 := Aside0.mk (below_step (below_alloc (Below.refl w.heap.size w) _) hb1); clear hb1)
  go_ret
  exact ⟨rfl, B1.out⟩
 | true =>
  rw [if_pos rfl] at h
  obtain ⟨s, hs, h⟩ := Option.bind_eq_some_iff.1 h
  have HS := Aside0.mk hs
  clear hs
  by_cases hz : s.length = 0
  ·
   rw [if_pos hz] at h
   obtain rfl := Option.some.inj h
   clear h
   have hz0 : (s.length : Int) = 0 := by omega
   have hz1 : ((s.length : Int) == 0) = true := by rw [hz0]; rfl
   go_enter Try.func53, Try.ntmps53
   go_wp2_with (first | (go_at_call 86; refine (impl_CanEnd.calls k A0 c0 l0 A1_0 c1_0 l1_0 a1_1 A1_2 c1_2 l1_2 a1_3 _ _ (Kd.C_alloc HR0.out _) HC0.out (Kd.C_alloc HR1.out _) HC1.out (Kd.C_alloc HR3.out _) HC3.out HA.out).mono ?_; rintro e w1 ⟨rfl, hb1⟩; have y10 : w1.cell? ⟨w.heap.size, 0, none⟩ = some (.slice A1_0 l1_0.length c1_0) := (by rw [hb1.cell (by simp)]; (try simp)); have y11 : w1.cell? ⟨w.heap.size, 1, none⟩ = some (.int .i64 a1_1) := (by rw [hb1.cell (by simp)]; (try simp)); have y12 : w1.cell? ⟨w.heap.size, 2, none⟩ = some (.slice A1_2 l1_2.length c1_2) := (by rw [hb1.cell (by simp)]; (try simp)); have y13 : w1.cell? ⟨w.heap.size, 3, none⟩ = some (.int .i64 a1_3) := (by rw [hb1.cell (by simp)]; (try simp)); have B1 := Aside0.mk (below_step (below_alloc (Below.refl w.heap.size w) _) hb1); clear hb1) | (go_at_call 49; refine (impl_NextStage.calls k A0 c0 l0 A1_0 c1_0 l1_0 a1_1 A1_2 c1_2 l1_2 a1_3 A2 c2 l2 s _ (Kd.C_below HR0.out B1.out) HC0.out (Kd.C_below HR1.out B1.out) HC1.out (Kd.C_below HR3.out B1.out) HC3.out (Kd.C_below HR2.out B1.out) HC2.out HS.out).mono ?_; rintro e w2 ⟨v2, rfl, ho2, hb2⟩; obtain ⟨Ao, co, eo⟩ := Kd.R_slice ho2; subst eo; clear ho2; have y20 : w2.cell? ⟨w.heap.size, 0, none⟩ = some (.slice A1_0 l1_0.length c1_0) := (by rw [hb2.cell (by have := B1.out.size; have := World.block_lt_of_cell? _ _ y10; show w.heap.size < _; omega)]; (try exact y10)); have y21 : w2.cell? ⟨w.heap.size, 1, none⟩ = some (.int .i64 a1_1) := (by rw [hb2.cell (by have := B1.out.size; have := World.block_lt_of_cell? _ _ y10; show w.heap.size < _; omega)]; (try exact y11)); have y22 : w2.cell? ⟨w.heap.size, 2, none⟩ = some (.slice A1_2 l1_2.length c1_2) := (by rw [hb2.cell (by have := B1.out.size; have := World.block_lt_of_cell? _ _ y10; show w.heap.size < _; omega)]; (try exact y12)); have y23 : w2.cell? ⟨w.heap.size, 3, none⟩ = some (.int .i64 a1_3) := (by rw [hb2.cell (by have := B1.out.size; have := World.block_lt_of_cell? _ _ y10; show w.heap.size < _; omega)]; (try exact y13)); have B2 := Aside0.mk (below_step B1.out hb2); clear hb2 y10 y11 y12 y13))
   go_ret
   exact ⟨rfl, B2.out⟩
  ·
   rw [if_neg hz] at h
   have hz1 : ((s.length : Int) == 0) = false := by simpa using hz
   by_cases hm : 60 ≤ a1_1
   ·
    rw [if_pos hm] at h
    obtain rfl := Option.some.inj h
    have hmd : decide ((60 : Int) ≤ a1_1) = true := decide_eq_true hm
    clear h hm
    go_enter Try.func53, Try.ntmps53
    go_wp2_with (first | (go_at_call 86; refine (impl_CanEnd.calls k A0 c0 l0 A1_0 c1_0 l1_0 a1_1 A1_2 c1_2 l1_2 a1_3 _ _ (Kd.C_alloc HR0.out _) HC0.out (Kd.C_alloc HR1.out _) HC1.out (Kd.C_alloc HR3.out _) HC3.out HA.out).mono ?_; rintro e w1 ⟨rfl, hb1⟩; have y10 : w1.cell? ⟨w.heap.size, 0, none⟩ = some (.slice A1_0 l1_0.length c1_0) := (by rw [hb1.cell (by simp)]; (try simp)); have y11 : w1.cell? ⟨w.heap.size, 1, none⟩ = some (.int .i64 a1_1) := (by rw [hb1.cell (by simp)]; (try simp)); have y12 : w1.cell? ⟨w.heap.size, 2, none⟩ = some (.slice A1_2 l1_2.length c1_2) := (by rw [hb1.cell (by simp)]; (try simp)); have y13 : w1.cell? ⟨w.heap.size, 3, none⟩ = some (.int .i64 a1_3) := (by rw [hb1.cell (by simp)]; (try simp)); have B1 := Aside0.mk (below_step (below_alloc (Below.refl w.heap.size w) _) hb1); clear hb1) | (go_at_call 49; refine (impl_NextStage.calls k A0 c0 l0 A1_0 c1_0 l1_0 a1_1 A1_2 c1_2 l1_2 a1_3 A2 c2 l2 s _ (Kd.C_below HR0.out B1.out) HC0.out (Kd.C_below HR1.out B1.out) HC1.out (Kd.C_below HR3.out B1.out) HC3.out (Kd.C_below HR2.out B1.out) HC2.out HS.out).mono ?_; rintro e w2 ⟨v2, rfl, ho2, hb2⟩; obtain ⟨Ao, co, eo⟩ := Kd.R_slice ho2; subst eo; clear ho2; have y20 : w2.cell? ⟨w.heap.size, 0, none⟩ = some (.slice A1_0 l1_0.length c1_0) := (by rw [hb2.cell (by have := B1.out.size; have := World.block_lt_of_cell? _ _ y10; show w.heap.size < _; omega)]; (try exact y10)); have y21 : w2.cell? ⟨w.heap.size, 1, none⟩ = some (.int .i64 a1_1) := (by rw [hb2.cell (by have := B1.out.size; have := World.block_lt_of_cell? _ _ y10; show w.heap.size < _; omega)]; (try exact y11)); have y22 : w2.cell? ⟨w.heap.size, 2, none⟩ = some (.slice A1_2 l1_2.length c1_2) := (by rw [hb2.cell (by have := B1.out.size; have := World.block_lt_of_cell? _ _ y10; show w.heap.size < _; omega)]; (try exact y12)); have y23 : w2.cell? ⟨w.heap.size, 3, none⟩ = some (.int .i64 a1_3) := (by rw [hb2.cell (by have := B1.out.size; have := World.block_lt_of_cell? _ _ y10; show w.heap.size < _; omega)]; (try exact y13)); have B2 := Aside0.mk (below_step B1.out hb2); clear hb2 y10 y11 y12 y13))
    go_ret
    exact ⟨rfl, B2.out⟩
   ·
    rw [if_neg hm] at h
    obtain rfl := Option.some.inj h
    have hmd : decide ((60 : Int) ≤ a1_1) = false := decide_eq_false hm
    clear h hm
    go_enter Try.func53, Try.ntmps53
    go_wp2_with (first | (go_at_call 86; refine (impl_CanEnd.calls k A0 c0 l0 A1_0 c1_0 l1_0 a1_1 A1_2 c1_2 l1_2 a1_3 _ _ (Kd.C_alloc HR0.out _) HC0.out (Kd.C_alloc HR1.out _) HC1.out (Kd.C_alloc HR3.out _) HC3.out HA.out).mono ?_; rintro e w1 ⟨rfl, hb1⟩; have y10 : w1.cell? ⟨w.heap.size, 0, none⟩ = some (.slice A1_0 l1_0.length c1_0) := (by rw [hb1.cell (by simp)]; (try simp)); have y11 : w1.cell? ⟨w.heap.size, 1, none⟩ = some (.int .i64 a1_1) := (by rw [hb1.cell (by simp)]; (try simp)); have y12 : w1.cell? ⟨w.heap.size, 2, none⟩ = some (.slice A1_2 l1_2.length c1_2) := (by rw [hb1.cell (by simp)]; (try simp)); have y13 : w1.cell? ⟨w.heap.size, 3, none⟩ = some (.int .i64 a1_3) := (by rw [hb1.cell (by simp)]; (try simp)); have B1 := Aside0.mk (below_step (below_alloc (Below.refl w.heap.size w) _) hb1); clear hb1) | (go_at_call 49; refine (impl_NextStage.calls k A0 c0 l0 A1_0 c1_0 l1_0 a1_1 A1_2 c1_2 l1_2 a1_3 A2 c2 l2 s _ (Kd.C_below HR0.out B1.out) HC0.out (Kd.C_below HR1.out B1.out) HC1.out (Kd.C_below HR3.out B1.out) HC3.out (Kd.C_below HR2.out B1.out) HC2.out HS.out).mono ?_; rintro e w2 ⟨v2, rfl, ho2, hb2⟩; obtain ⟨Ao, co, eo⟩ := Kd.R_slice ho2; subst eo; clear ho2; have y20 : w2.cell? ⟨w.heap.size, 0, none⟩ = some (.slice A1_0 l1_0.length c1_0) := (by rw [hb2.cell (by have := B1.out.size; have := World.block_lt_of_cell? _ _ y10; show w.heap.size < _; omega)]; (try exact y10)); have y21 : w2.cell? ⟨w.heap.size, 1, none⟩ = some (.int .i64 a1_1) := (by rw [hb2.cell (by have := B1.out.size; have := World.block_lt_of_cell? _ _ y10; show w.heap.size < _; omega)]; (try exact y11)); have y22 : w2.cell? ⟨w.heap.size, 2, none⟩ = some (.slice A1_2 l1_2.length c1_2) := (by rw [hb2.cell (by have := B1.out.size; have := World.block_lt_of_cell? _ _ y10; show w.heap.size < _; omega)]; (try exact y12)); have y23 : w2.cell? ⟨w.heap.size, 3, none⟩ = some (.int .i64 a1_3) := (by rw [hb2.cell (by have := B1.out.size; have := World.block_lt_of_cell? _ _ y10; show w.heap.size < _; omega)]; (try exact y13)); have B2 := Aside0.mk (below_step B1.out hb2); clear hb2 y10 y11 y12 y13) | (go_at_call 102; refine (impl_MustChange.cont l1_0 w.heap.size A2 c2 l2 _ (Kd.C_below HR2.out B2.out) HC2.out A1_0 c1_0 HC1.out (Kd.C_below HR1.out B2.out) y20).mono ?_; rintro e w3 ⟨rfl, hb3⟩; have B3 := Aside0.mk (below_step B2.out hb3); clear hb3))
    go_ret
    exact ⟨rfl, B3.out⟩

/-! ### laws_FnExactMustChange: function 9 -/
def laws_FnExactMustChange.f (k : Nat) (l0 : List (S91)) (l1_0 : List Int) (a1_1 : Int) (l1_2 : List Int) (a1_3 : Int) (l2 : List (S117)) : Option (Bool) := (laws_szPathS.f l0 1048576).bind fun t480 => (if t480 < 0 then (some true) else ((laws_szControl.f l1_0 a1_1 l1_2 a1_3 t480).bind fun t481 => (if t481 < 0 then (some true) else ((laws_szWantS.f l2 t481).bind fun t482 => (if t482 < 0 then (some true) else ((laws_toPathS.f k l0).bind fun t483 => ((laws_toControl.f k l1_0 a1_1 l1_2 a1_3).bind fun bt486 => ((laws_toWantS.f k l2).bind fun t494 => ((spec_MustChange.f k t483 bt486.1 bt486.2.1 bt486.2.2.1 bt486.2.2.2 t494).bind fun t497 => ((laws_toPathS.f k l0).bind fun t498 => ((laws_toControl.f k l1_0 a1_1 l1_2 a1_3).bind fun bt501 => ((laws_toWantS.f k l2).bind fun t510 => ((impl_MustChange.f k t498 bt501.1 bt501.2.1 bt501.2.2.1 bt501.2.2.2 t510).bind fun t513 => (if (t513 != t497) = true then (none) else ((laws_toPathS.f k l0).bind fun t514 => ((laws_eqPathS.f k t498 t514).bind fun t517 => (if t517 = true then ((laws_toControl.f k l1_0 a1_1 l1_2 a1_3).bind fun bt518 => ((laws_eqControl.f k bt501.1 bt501.2.1 bt501.2.2.1 bt501.2.2.2 bt518.1 bt518.2.1 bt518.2.2.1 bt518.2.2.2).bind fun t526 => (if t526 = true then ((laws_toWantS.f k l2).bind fun t527 => ((laws_eqWantS.f k t510 t527).bind fun t530 => (if t530 = true then (some true) else (none)))) else (none)))) else (none))))))))))))))))))
theorem laws_FnExactMustChange.mono : ∀ a0 a1 a2 a3 a4 a5 k, LeO (laws_FnExactMustChange.f k a0 a1 a2 a3 a4 a5) (laws_FnExactMustChange.f (k + 1) a0 a1 a2 a3 a4 a5) := by
 intro a0 a1 a2 a3 a4 a5 k
 unfold laws_FnExactMustChange.f
 repeat' first | (with_reducible first | exact LeO.refl _ | exact LeO.none _ | refine LeO.ite ?_ ?_ | refine LeO.bind ?_ (fun _ => ?_) | exact impl_MustChange.mono _ _ _ _ _ _ _ | exact laws_eqControl.mono _ _ _ _ _ _ _ _ _ | exact laws_eqPathS.mono _ _ _ | exact laws_eqWantS.mono _ _ _ | exact laws_toControl.mono _ _ _ _ _ | exact laws_toPathS.mono _ _ | exact laws_toWantS.mono _ _ | exact spec_MustChange.mono _ _ _ _ _ _ _)
def laws_FnExactMustChange.T11 : Bool × List (List Nat × List Nat) := (true, [([], []), ([0], [0]), ([], []), ([2, 1], [2]), ([], []), ([4, 3], [4]), ([1, 3, 5, 5], [1, 3, 5]), ([6, 6, 0, 1, 2, 3, 4, 5, 6], [6])])
def laws_FnExactMustChange.B11 : List Nat := [0, 1, 0, 7, 0, 31, 63, 127]
theorem laws_FnExactMustChange.tab11 : rtab .any (opsOf Try.f9 11) = laws_FnExactMustChange.T11 := by kernel_rfl
theorem laws_FnExactMustChange.bits11 : waitsOk laws_FnExactMustChange.T11.2 laws_FnExactMustChange.B11 = true := by kernel_rfl
set_option maxHeartbeats 8000000 in
set_option maxRecDepth 100000 in
theorem laws_FnExactMustChange.calls (k : Nat) (A0 : Option Addr) (c0 : Nat) (l0 : List (S91)) (A1_0 : Option Addr) (c1_0 : Nat) (l1_0 : List Int) (a1_1 : Int) (A1_2 : Option Addr) (c1_2 : Nat) (l1_2 : List Int) (a1_3 : Int) (A2 : Option Addr) (c2 : Nat) (l2 : List (S117)) (r : Bool) (w : World) (hr0 : Kd.C k91 w A0 l0.length l0) (hc0 : l0.length ≤ c0) (hr1_0 : Kd.C (Kd.int .i64) w A1_0 l1_0.length l1_0) (hc1_0 : l1_0.length ≤ c1_0) (hr1_2 : Kd.C (Kd.int .i64) w A1_2 l1_2.length l1_2) (hc1_2 : l1_2.length ≤ c1_2) (hr2 : Kd.C k117 w A2 l2.length l2) (hc2 : l2.length ≤ c2) (h : laws_FnExactMustChange.f k l0 l1_0 a1_1 l1_2 a1_3 l2 = some r) :
  Calls Try.prog 9 #[.slice A0 l0.length c0, .agg #[.slice A1_0 l1_0.length c1_0, .int .i64 a1_1, .slice A1_2 l1_2.length c1_2, .int .i64 a1_3], .slice A2 l2.length c2] w fun e w' => e = .returned (.bool r) ∧ Below w.heap.size w w' := by
 have hu55 := Try.underlying55
 have hu57 := Try.underlying57
 have HR0 := Aside0.mk hr0
 have HC0 := Aside0.mk hc0
 clear hr0 hc0
 have HR1_0 := Aside0.mk hr1_0
 have HC1_0 := Aside0.mk hc1_0
 clear hr1_0 hc1_0
 have HR1_2 := Aside0.mk hr1_2
 have HC1_2 := Aside0.mk hc1_2
 clear hr1_2 hc1_2
 have HR2 := Aside0.mk hr2
 have HC2 := Aside0.mk hc2
 clear hr2 hc2
 have HB := Aside0.mk (Below.refl w.heap.size w)
 have H : ((laws_szPathS.f l0 1048576).bind fun t480 => (if t480 < 0 then (some true) else ((laws_szControl.f l1_0 a1_1 l1_2 a1_3 t480).bind fun t481 => (if t481 < 0 then (some true) else ((laws_szWantS.f l2 t481).bind fun t482 => (if t482 < 0 then (some true) else ((laws_toPathS.f k l0).bind fun t483 => ((laws_toControl.f k l1_0 a1_1 l1_2 a1_3).bind fun bt486 => ((laws_toWantS.f k l2).bind fun t494 => ((spec_MustChange.f k t483 bt486.1 bt486.2.1 bt486.2.2.1 bt486.2.2.2 t494).bind fun t497 => ((laws_toPathS.f k l0).bind fun t498 => ((laws_toControl.f k l1_0 a1_1 l1_2 a1_3).bind fun bt501 => ((laws_toWantS.f k l2).bind fun t510 => ((impl_MustChange.f k t498 bt501.1 bt501.2.1 bt501.2.2.1 bt501.2.2.2 t510).bind fun t513 => (if (t513 != t497) = true then (none) else ((laws_toPathS.f k l0).bind fun t514 => ((laws_eqPathS.f k t498 t514).bind fun t517 => (if t517 = true then ((laws_toControl.f k l1_0 a1_1 l1_2 a1_3).bind fun bt518 => ((laws_eqControl.f k bt501.1 bt501.2.1 bt501.2.2.1 bt501.2.2.2 bt518.1 bt518.2.1 bt518.2.2.1 bt518.2.2.2).bind fun t526 => (if t526 = true then ((laws_toWantS.f k l2).bind fun t527 => ((laws_eqWantS.f k t510 t527).bind fun t530 => (if t530 = true then (some true) else (none)))) else (none)))) else (none))))))))))))))))))) = some r := h
 clear h
 obtain ⟨t480, A4, H⟩ := bindE H
 try dsimp only at H
 by_cases c5 : t480 < 0
 ·
  rw [if_pos c5] at H
  have c5b0 := decide_eq_true c5
  clear c5
  obtain rfl := Option.some.inj H
  go_enter Try.func9, Try.ntmps9
  go_wp2_with (first | ((with_reducible refine gate_dst (N := 4) rfl ?_); refine bE (N := 4) (cs := #[.slice A1_0 l1_0.length c1_0, .int .i64 a1_1, .slice A1_2 l1_2.length c1_2, .int .i64 a1_3]) (t := 55) ?_; intro gb479 hg w6 hbox hb; have n0_ := Aside0.mk (below_step bA hb); have n1_ := Aside0.mk (hbox); have n2_ := Aside0.mk ((by rw [hg]; exact (below_size bA) : w.heap.size ≤ gb479)); have n3_ := Aside0.mk ((by rw [hg]; exact (below_size bA) : w.heap.size ≤ gb479)); clear HB; have HB := n0_; have BK479 := n1_; have GW479 := n2_; have GE479 := n3_; clear n0_ n1_ n2_ n3_; clear hb hbox hg) | ((with_reducible refine gate_callee (f := 11) rfl ?_); refine gL (some 15) Try.func11 #[.slice A0 l0.length c0, .int .i64 1048576] ?_; (with_reducible refine (laws_szPathS.calls _ _ l0 1048576 t480 _ ?side1 ?side2 A4.out).mono ?_); (case side1 => exact cB HR0); (case side2 => exact HC0.out); rintro e w' ⟨rfl, ⟨nd, rfl⟩⟩; refine ⟨_, rfl, ?_⟩))
  go_ret
  exact ⟨rA, bG⟩
 ·
  rw [if_neg c5] at H
  have c5b0 := decide_eq_false c5
  clear c5
  obtain ⟨t481, A7, H⟩ := bindE H
  try dsimp only at H
  by_cases c8 : t481 < 0
  ·
   rw [if_pos c8] at H
   have c8b0 := decide_eq_true c8
   clear c8
   obtain rfl := Option.some.inj H
   go_enter Try.func9, Try.ntmps9
   go_wp2_with (first | ((with_reducible refine gate_dst (N := 4) rfl ?_); refine bE (N := 4) (cs := #[.slice A1_0 l1_0.length c1_0, .int .i64 a1_1, .slice A1_2 l1_2.length c1_2, .int .i64 a1_3]) (t := 55) ?_; intro gb479 hg w9 hbox hb; have n0_ := Aside0.mk (below_step bA hb); have n1_ := Aside0.mk (hbox); have n2_ := Aside0.mk ((by rw [hg]; exact (below_size bA) : w.heap.size ≤ gb479)); have n3_ := Aside0.mk ((by rw [hg]; exact (below_size bA) : w.heap.size ≤ gb479)); clear HB; have HB := n0_; have BK479 := n1_; have GW479 := n2_; have GE479 := n3_; clear n0_ n1_ n2_ n3_; clear hb hbox hg) | ((with_reducible refine gate_callee (f := 11) rfl ?_); refine gL (some 15) Try.func11 #[.slice A0 l0.length c0, .int .i64 1048576] ?_; (with_reducible refine (laws_szPathS.calls _ _ l0 1048576 t480 _ ?side1 ?side2 A4.out).mono ?_); (case side1 => exact cB HR0); (case side2 => exact HC0.out); rintro e w' ⟨rfl, ⟨nd, rfl⟩⟩; refine ⟨_, rfl, ?_⟩; have hcz10_0 : w9.cell? ⟨gb479, 0, none⟩ = some (.slice A1_0 l1_0.length c1_0) := bC BK479 0; have hcz10_1 : w9.cell? ⟨gb479, 1, none⟩ = some (.int .i64 a1_1) := bC BK479 1; have hcz10_2 : w9.cell? ⟨gb479, 2, none⟩ = some (.slice A1_2 l1_2.length c1_2) := bC BK479 2; have hcz10_3 : w9.cell? ⟨gb479, 3, none⟩ = some (.int .i64 a1_3) := bC BK479 3; have hfz10_0 := blk_frozen BK479.out 0; have hfz10_1 := blk_frozen BK479.out 1; have hfz10_2 := blk_frozen BK479.out 2; have hfz10_3 := blk_frozen BK479.out 3) | ((with_reducible refine gate_callee (f := 38) rfl ?_); refine gL (some 20) Try.func38 #[.agg #[.slice A1_0 l1_0.length c1_0, .int .i64 a1_1, .slice A1_2 l1_2.length c1_2, .int .i64 a1_3], .int .i64 t480] ?_; (with_reducible refine (laws_szControl.calls _ _ l1_0 a1_1 _ _ l1_2 a1_3 t480 t481 _ ?side1 ?side2 ?side3 ?side4 A7.out).mono ?_); (case side1 => exact cG HR1_0); (case side2 => exact HC1_0.out); (case side3 => exact cG HR1_2); (case side4 => exact HC1_2.out); rintro e w11 ⟨rfl, hb⟩; refine ⟨_, rfl, ?_⟩; replace BK479 := Aside0.mk (blk_below (g := gb479) (bK BK479) hb); replace HB := Aside0.mk (below_step bG hb); (try clear hb)))
   go_ret
   exact ⟨rA, bG⟩
  ·
   rw [if_neg c8] at H
   have c8b0 := decide_eq_false c8
   clear c8
   obtain ⟨t482, A12, H⟩ := bindE H
   try dsimp only at H
   by_cases c13 : t482 < 0
   ·
    rw [if_pos c13] at H
    have c13b0 := decide_eq_true c13
    clear c13
    obtain rfl := Option.some.inj H
    go_enter Try.func9, Try.ntmps9
    go_wp2_with (first | ((with_reducible refine gate_dst (N := 4) rfl ?_); refine bE (N := 4) (cs := #[.slice A1_0 l1_0.length c1_0, .int .i64 a1_1, .slice A1_2 l1_2.length c1_2, .int .i64 a1_3]) (t := 55) ?_; intro gb479 hg w14 hbox hb; have n0_ := Aside0.mk (below_step bA hb); have n1_ := Aside0.mk (hbox); have n2_ := Aside0.mk ((by rw [hg]; exact (below_size bA) : w.heap.size ≤ gb479)); have n3_ := Aside0.mk ((by rw [hg]; exact (below_size bA) : w.heap.size ≤ gb479)); clear HB; have HB := n0_; have BK479 := n1_; have GW479 := n2_; have GE479 := n3_; clear n0_ n1_ n2_ n3_; clear hb hbox hg) | ((with_reducible refine gate_callee (f := 11) rfl ?_); refine gL (some 15) Try.func11 #[.slice A0 l0.length c0, .int .i64 1048576] ?_; (with_reducible refine (laws_szPathS.calls _ _ l0 1048576 t480 _ ?side1 ?side2 A4.out).mono ?_); (case side1 => exact cB HR0); (case side2 => exact HC0.out); rintro e w' ⟨rfl, ⟨nd, rfl⟩⟩; refine ⟨_, rfl, ?_⟩; have hcz15_0 : w14.cell? ⟨gb479, 0, none⟩ = some (.slice A1_0 l1_0.length c1_0) := bC BK479 0; have hcz15_1 : w14.cell? ⟨gb479, 1, none⟩ = some (.int .i64 a1_1) := bC BK479 1; have hcz15_2 : w14.cell? ⟨gb479, 2, none⟩ = some (.slice A1_2 l1_2.length c1_2) := bC BK479 2; have hcz15_3 : w14.cell? ⟨gb479, 3, none⟩ = some (.int .i64 a1_3) := bC BK479 3; have hfz15_0 := blk_frozen BK479.out 0; have hfz15_1 := blk_frozen BK479.out 1; have hfz15_2 := blk_frozen BK479.out 2; have hfz15_3 := blk_frozen BK479.out 3) | ((with_reducible refine gate_callee (f := 38) rfl ?_); refine gL (some 20) Try.func38 #[.agg #[.slice A1_0 l1_0.length c1_0, .int .i64 a1_1, .slice A1_2 l1_2.length c1_2, .int .i64 a1_3], .int .i64 t480] ?_; (with_reducible refine (laws_szControl.calls _ _ l1_0 a1_1 _ _ l1_2 a1_3 t480 t481 _ ?side1 ?side2 ?side3 ?side4 A7.out).mono ?_); (case side1 => exact cG HR1_0); (case side2 => exact HC1_0.out); (case side3 => exact cG HR1_2); (case side4 => exact HC1_2.out); rintro e w16 ⟨rfl, hb⟩; refine ⟨_, rfl, ?_⟩; replace BK479 := Aside0.mk (blk_below (g := gb479) (bK BK479) hb); replace HB := Aside0.mk (below_step bG hb); (try clear hb)) | ((with_reducible refine gate_callee (f := 46) rfl ?_); refine gL (some 25) Try.func46 #[.slice A2 l2.length c2, .int .i64 t481] ?_; (with_reducible refine (laws_szWantS.calls _ _ l2 t481 t482 _ ?side1 ?side2 A12.out).mono ?_); (case side1 => exact cB HR2); (case side2 => exact HC2.out); rintro e w' ⟨rfl, ⟨nd, rfl⟩⟩; refine ⟨_, rfl, ?_⟩))
    go_ret
    exact ⟨rA, bG⟩
   ·
    rw [if_neg c13] at H
    have c13b0 := decide_eq_false c13
    clear c13
    obtain ⟨t483, A17, H⟩ := bindE H
    try dsimp only at H
    obtain ⟨⟨t486, t489, t490, t493⟩, A18, H⟩ := bindE H
    try dsimp only at H
    obtain ⟨t494, A19, H⟩ := bindE H
    try dsimp only at H
    obtain ⟨t497, A20, H⟩ := bindE H
    try dsimp only at H
    obtain ⟨t498, A21, H⟩ := bindE H
    try dsimp only at H
    obtain ⟨⟨t501, t504, t505, t508⟩, A22, H⟩ := bindE H
    try dsimp only at H
    obtain ⟨t510, A23, H⟩ := bindE H
    try dsimp only at H
    obtain ⟨t513, A24, H⟩ := bindE H
    try dsimp only at H
    have c25 : ¬ ((t513 != t497) = true) := ifN' H
    replace H := ifT' H
    have c25b0 : (t513 != t497) = false := by simpa using c25
    (try (have c25b1 : decide (t513 = t497) = true := by simpa using c25))
    (try (have c25b2 : (t513 == t497) = true := by simpa using c25))
    clear c25
    obtain ⟨t514, A26, H⟩ := bindE H
    try dsimp only at H
    obtain ⟨t517, A27, H⟩ := bindE H
    try dsimp only at H
    have c28 := ifN H
    replace H := ifT H
    subst c28
    obtain ⟨⟨t518, t521, t522, t525⟩, A29, H⟩ := bindE H
    try dsimp only at H
    obtain ⟨t526, A30, H⟩ := bindE H
    try dsimp only at H
    have c31 := ifN H
    replace H := ifT H
    subst c31
    obtain ⟨t527, A32, H⟩ := bindE H
    try dsimp only at H
    obtain ⟨t530, A33, H⟩ := bindE H
    try dsimp only at H
    have c34 := ifN H
    replace H := ifT H
    subst c34
    obtain rfl := Option.some.inj H
    go_enter Try.func9, Try.ntmps9
    try go_wp2_with (first | ((with_reducible refine gate_dst (N := 4) rfl ?_); refine bE (N := 4) (cs := #[.slice A1_0 l1_0.length c1_0, .int .i64 a1_1, .slice A1_2 l1_2.length c1_2, .int .i64 a1_3]) (t := 55) ?_; intro gb479 hg w35 hbox hb; have n0_ := Aside0.mk (below_step bA hb); have n1_ := Aside0.mk (hbox); have n2_ := Aside0.mk ((by rw [hg]; exact (below_size bA) : w.heap.size ≤ gb479)); have n3_ := Aside0.mk ((by rw [hg]; exact (below_size bA) : w.heap.size ≤ gb479)); clear HB; have HB := n0_; have BK479 := n1_; have GW479 := n2_; have GE479 := n3_; clear n0_ n1_ n2_ n3_; clear hb hbox hg) | ((with_reducible refine gate_callee (f := 11) rfl ?_); refine gL (some 15) Try.func11 #[.slice A0 l0.length c0, .int .i64 1048576] ?_; (with_reducible refine (laws_szPathS.calls _ _ l0 1048576 t480 _ ?side1 ?side2 A4.out).mono ?_); (case side1 => exact cB HR0); (case side2 => exact HC0.out); rintro e w' ⟨rfl, ⟨nd, rfl⟩⟩; refine ⟨_, rfl, ?_⟩; (try (rw [drewN_self w35]; generalize hq_ : World.drewN w35 _ = w35; have n0_ : Aside0 (w35.heap[gb479]? = some (.cells #[.slice A1_0 l1_0.length c1_0, .int .i64 a1_1, .slice A1_2 l1_2.length c1_2, .int .i64 a1_3] 55 (0, 0))) := ⟨by rw [← hq_]; exact (bK BK479)⟩; have n1_ : Aside0 (Below w.heap.size w w35) := ⟨by rw [← hq_]; exact bG⟩; clear BK479 HB hq_; have BK479 := n0_; have HB := n1_; clear n0_ n1_)); have hcz36_0 : w35.cell? ⟨gb479, 0, none⟩ = some (.slice A1_0 l1_0.length c1_0) := bC BK479 0; have hcz36_1 : w35.cell? ⟨gb479, 1, none⟩ = some (.int .i64 a1_1) := bC BK479 1; have hcz36_2 : w35.cell? ⟨gb479, 2, none⟩ = some (.slice A1_2 l1_2.length c1_2) := bC BK479 2; have hcz36_3 : w35.cell? ⟨gb479, 3, none⟩ = some (.int .i64 a1_3) := bC BK479 3; have hfz36_0 := blk_frozen BK479.out 0; have hfz36_1 := blk_frozen BK479.out 1; have hfz36_2 := blk_frozen BK479.out 2; have hfz36_3 := blk_frozen BK479.out 3) | ((with_reducible refine gate_callee (f := 38) rfl ?_); refine gL (some 20) Try.func38 #[.agg #[.slice A1_0 l1_0.length c1_0, .int .i64 a1_1, .slice A1_2 l1_2.length c1_2, .int .i64 a1_3], .int .i64 t480] ?_; (with_reducible refine (laws_szControl.calls _ _ l1_0 a1_1 _ _ l1_2 a1_3 t480 t481 _ ?side1 ?side2 ?side3 ?side4 A7.out).mono ?_); (case side1 => exact cB HR1_0); (case side2 => exact HC1_0.out); (case side3 => exact cB HR1_2); (case side4 => exact HC1_2.out); rintro e w37 ⟨rfl, hb⟩; refine ⟨_, rfl, ?_⟩; replace BK479 := Aside0.mk (blk_below (g := gb479) (bK BK479) hb); replace HB := Aside0.mk (below_step bG hb); (try clear hb)) | ((with_reducible refine gate_callee (f := 46) rfl ?_); refine gL (some 25) Try.func46 #[.slice A2 l2.length c2, .int .i64 t481] ?_; (with_reducible refine (laws_szWantS.calls _ _ l2 t481 t482 _ ?side1 ?side2 A12.out).mono ?_); (case side1 => exact cB HR2); (case side2 => exact HC2.out); rintro e w' ⟨rfl, ⟨nd, rfl⟩⟩; refine ⟨_, rfl, ?_⟩; (try (rw [drewN_self w37]; generalize hq_ : World.drewN w37 _ = w37; have n0_ : Aside0 (w37.heap[gb479]? = some (.cells #[.slice A1_0 l1_0.length c1_0, .int .i64 a1_1, .slice A1_2 l1_2.length c1_2, .int .i64 a1_3] 55 (0, 0))) := ⟨by rw [← hq_]; exact (bK BK479)⟩; have n1_ : Aside0 (Below w.heap.size w w37) := ⟨by rw [← hq_]; exact bG⟩; clear BK479 HB hq_; have BK479 := n0_; have HB := n1_; clear n0_ n1_))))
    replace BK479 := Aside0.mk (blk_drew BK479.out)
    have HBo := HB
    replace HB := Aside0.mk (below_drew1 HB.out)
    refine start_ (n := 8) (S := fun w' => w'.cell? ⟨gb479, 0, none⟩ = some (.slice A1_0 l1_0.length c1_0) ∧ w'.cell? ⟨gb479, 1, none⟩ = some (.int .i64 a1_1) ∧ w'.cell? ⟨gb479, 2, none⟩ = some (.slice A1_2 l1_2.length c1_2) ∧ w'.cell? ⟨gb479, 3, none⟩ = some (.int .i64 a1_3)) (ds := []) (mb 8 0) (by kernel_rfl) rfl rfl ⟨bC BK479 0, bC BK479 1, bC BK479 2, bC BK479 3⟩ (fun hHeld => ?_); refine with_tabW laws_FnExactMustChange.tab11 laws_FnExactMustChange.bits11 (fun HT_ HW_ => ?_)
    generalize w37.drew = w38 at BK479 HB hHeld ⊢
    refine pA (i := 0) (N := some 28) (mb 8 1) HT_ ?_
    refine pA (i := 4) (N := some 32) (mb 8 17) HT_ ?_
    refine tA4 (i := 2) (N := some 30) (mb 8 21) HT_ HW_ hHeld ?_
    refine oA (i := 1) (N := some 29) (mb 8 23) HT_ (fun K hK => ?_)
    refine gA Try.func14 #[.slice A0 l0.length c0] ?_
    with_reducible refine (laws_toPathS.calls k _ _ l0 t483 _ ?side1 ?side2 A17.out).mono ?_
    (case side1 => exact cB HR0)
    (case side2 => exact HC0.out)
    rintro e w39 ⟨v484, rfl, ho0, hb⟩
    refine ⟨_, rfl, ?_⟩
    have HO485 := Aside0.mk (Kd.R_lower ho0 (below_size bG))
    replace BK479 := Aside0.mk (blk_below (g := gb479) (bK BK479) hb)
    replace HB := Aside0.mk (below_step bG hb)
    (try clear hb)
    (try clear hb2)
    (try clear hk)
    (try clear hi)
    (try clear ho0)
    refine hK.out _ _ ⟨bC BK479 0, bC BK479 1, bC BK479 2, bC BK479 3⟩ (fun hHeld => ?_)
    clear hK K
    refine nB ?_
    refine oA (i := 3) (N := some 31) (mb 8 31) HT_ (fun K hK => ?_)
    refine gA Try.func40 #[.agg #[.slice A1_0 l1_0.length c1_0, .int .i64 a1_1, .slice A1_2 l1_2.length c1_2, .int .i64 a1_3]] ?_
    with_reducible refine (laws_toControl.calls k _ _ l1_0 a1_1 _ _ l1_2 a1_3 t486 t489 t490 t493 _ ?side1 ?side2 ?side3 ?side4 A18.out).mono ?_
    (case side1 => exact cB HR1_0)
    (case side2 => exact HC1_0.out)
    (case side3 => exact cB HR1_2)
    (case side4 => exact HC1_2.out)
    rintro e w40 ⟨v487, v491, rfl, ho0, ho1, hb⟩
    refine ⟨_, rfl, ?_⟩
    replace HO485 := Aside0.mk (Kd.R_below (rK HO485) hb)
    have HO488 := Aside0.mk (Kd.R_lower ho0 (below_size bG))
    have HO492 := Aside0.mk (Kd.R_lower ho1 (below_size bG))
    replace BK479 := Aside0.mk (blk_below (g := gb479) (bK BK479) hb)
    replace HB := Aside0.mk (below_step bG hb)
    (try clear hb)
    (try clear hb2)
    (try clear hk)
    (try clear hi)
    (try clear ho0)
    (try clear ho1)
    refine hK.out _ _ ⟨bC BK479 0, bC BK479 1, bC BK479 2, bC BK479 3⟩ (fun hHeld => ?_)
    clear hK K
    refine nB ?_
    refine oA (i := 5) (N := some 33) (mb 8 63) HT_ (fun K hK => ?_)
    refine gA Try.func48 #[.slice A2 l2.length c2] ?_
    with_reducible refine (laws_toWantS.calls k _ _ l2 t494 _ ?side1 ?side2 A19.out).mono ?_
    (case side1 => exact cB HR2)
    (case side2 => exact HC2.out)
    rintro e w41 ⟨v495, rfl, ho0, hb⟩
    refine ⟨_, rfl, ?_⟩
    replace HO485 := Aside0.mk (Kd.R_below (rK HO485) hb)
    replace HO488 := Aside0.mk (Kd.R_below (rK HO488) hb)
    replace HO492 := Aside0.mk (Kd.R_below (rK HO492) hb)
    have HO496 := Aside0.mk (Kd.R_lower ho0 (below_size bG))
    replace BK479 := Aside0.mk (blk_below (g := gb479) (bK BK479) hb)
    replace HB := Aside0.mk (below_step bG hb)
    (try clear hb)
    (try clear hb2)
    (try clear hk)
    (try clear hi)
    (try clear ho0)
    obtain ⟨Ao42, co42, eo42⟩ := Kd.R_slice HO485.out
    (first | subst eo42 | (injection eo42 with f1_ f2_ f3_; have f4_ := f1_.symm; have f5_ := f3_.symm; clear f1_ f2_ f3_; subst f4_; subst f5_))
    obtain ⟨Ao43, co43, eo43⟩ := Kd.R_slice HO488.out
    (first | subst eo43 | (injection eo43 with f1_ f2_ f3_; have f4_ := f1_.symm; have f5_ := f3_.symm; clear f1_ f2_ f3_; subst f4_; subst f5_))
    obtain ⟨Ao44, co44, eo44⟩ := Kd.R_slice HO492.out
    (first | subst eo44 | (injection eo44 with f1_ f2_ f3_; have f4_ := f1_.symm; have f5_ := f3_.symm; clear f1_ f2_ f3_; subst f4_; subst f5_))
    obtain ⟨Ao45, co45, eo45⟩ := Kd.R_slice HO496.out
    (first | subst eo45 | (injection eo45 with f1_ f2_ f3_; have f4_ := f1_.symm; have f5_ := f3_.symm; clear f1_ f2_ f3_; subst f4_; subst f5_))
    refine hK.out _ _ ⟨bC BK479 0, bC BK479 1, bC BK479 2, bC BK479 3⟩ (fun hHeld => ?_)
    clear hK K
    refine nB ?_
    refine oA (i := 6) (N := some 34) (mb 8 127) HT_ (fun K hK => ?_)
    refine gA Try.func52 #[.slice Ao42 t483.length co42, .agg #[.slice Ao43 t486.length co43, .int .i64 t489, .slice Ao44 t490.length co44, .int .i64 t493], .slice Ao45 t494.length co45] ?_
    with_reducible refine (spec_MustChange.calls k _ _ t483 _ _ t486 t489 _ _ t490 t493 _ _ t494 t497 _ ?side1 ?side2 ?side3 ?side4 ?side5 ?side6 ?side7 ?side8 A20.out).mono ?_
    (case side1 => exact cO ⟨(Kd.R_reads' HO485.out).2.2⟩)
    (case side2 => exact (Kd.R_reads' HO485.out).2.1)
    (case side3 => exact cO ⟨(Kd.R_reads' HO488.out).2.2⟩)
    (case side4 => exact (Kd.R_reads' HO488.out).2.1)
    (case side5 => exact cO ⟨(Kd.R_reads' HO492.out).2.2⟩)
    (case side6 => exact (Kd.R_reads' HO492.out).2.1)
    (case side7 => exact cO ⟨(Kd.R_reads' HO496.out).2.2⟩)
    (case side8 => exact (Kd.R_reads' HO496.out).2.1)
    rintro e w46 ⟨rfl, hb⟩
    refine ⟨_, rfl, ?_⟩
    replace HO485 := Aside0.mk (Kd.R_below (rK HO485) hb)
    replace HO488 := Aside0.mk (Kd.R_below (rK HO488) hb)
    replace HO492 := Aside0.mk (Kd.R_below (rK HO492) hb)
    replace HO496 := Aside0.mk (Kd.R_below (rK HO496) hb)
    replace BK479 := Aside0.mk (blk_below (g := gb479) (bK BK479) hb)
    replace HB := Aside0.mk (below_step bG hb)
    (try clear hb)
    (try clear hb2)
    (try clear hk)
    (try clear hi)
    refine hK.out _ _ ⟨bC BK479 0, bC BK479 1, bC BK479 2, bC BK479 3⟩ (fun hHeld => ?_)
    clear hK K
    refine nB ?_
    refine pA (i := 7) (N := some 8) (mb 8 255) HT_ ?_
    refine eA HT_ ?_
    try go_wp2_with (first | ((with_reducible refine gate_callee (f := 14) rfl ?_); refine gL (some 36) Try.func14 #[.slice A0 l0.length c0] ?_; (with_reducible refine (laws_toPathS.calls k _ _ l0 t498 _ ?side1 ?side2 A21.out).mono ?_); (case side1 => exact cB HR0); (case side2 => exact HC0.out); rintro e w47 ⟨v499, rfl, ho0, hb⟩; refine ⟨_, rfl, ?_⟩; replace HO488 := Aside0.mk (Kd.R_below (rK HO488) hb); replace HO492 := Aside0.mk (Kd.R_below (rK HO492) hb); replace HO496 := Aside0.mk (Kd.R_below (rK HO496) hb); have HO500 := Aside0.mk (Kd.R_lower (Kd.R_new' ho0 (Kd.R_lt (rK HO485))) (below_size bG)); replace HO485 := Aside0.mk (Kd.R_elder' (rK HO485) (Kd.R_base ho0) hb); replace BK479 := Aside0.mk (blk_below (g := gb479) (bK BK479) hb); replace HB := Aside0.mk (below_step bG hb); (try clear hb); (try clear ho0); have hcz48_0 : w47.cell? ⟨gb479, 0, none⟩ = some (.slice A1_0 l1_0.length c1_0) := bC BK479 0; have hcz48_1 : w47.cell? ⟨gb479, 1, none⟩ = some (.int .i64 a1_1) := bC BK479 1; have hcz48_2 : w47.cell? ⟨gb479, 2, none⟩ = some (.slice A1_2 l1_2.length c1_2) := bC BK479 2; have hcz48_3 : w47.cell? ⟨gb479, 3, none⟩ = some (.int .i64 a1_3) := bC BK479 3; have hfz48_0 := blk_frozen BK479.out 0; have hfz48_1 := blk_frozen BK479.out 1; have hfz48_2 := blk_frozen BK479.out 2; have hfz48_3 := blk_frozen BK479.out 3) | ((with_reducible refine gate_callee (f := 40) rfl ?_); refine gL (some 38) Try.func40 #[.agg #[.slice A1_0 l1_0.length c1_0, .int .i64 a1_1, .slice A1_2 l1_2.length c1_2, .int .i64 a1_3]] ?_; (with_reducible refine (laws_toControl.calls k _ _ l1_0 a1_1 _ _ l1_2 a1_3 t501 t504 t505 t508 _ ?side1 ?side2 ?side3 ?side4 A22.out).mono ?_); (case side1 => exact cB HR1_0); (case side2 => exact HC1_0.out); (case side3 => exact cB HR1_2); (case side4 => exact HC1_2.out); rintro e w49 ⟨v502, v506, rfl, ho0, ho1, hb⟩; refine ⟨_, rfl, ?_⟩; replace HO485 := Aside0.mk (Kd.R_below (rK HO485) hb); replace HO496 := Aside0.mk (Kd.R_below (rK HO496) hb); replace HO500 := Aside0.mk (Kd.R_below (rK HO500) hb); have HO503 := Aside0.mk (Kd.R_lower (Kd.R_new' (Kd.R_new' ho0 (Kd.R_lt (rK HO488))) (Kd.R_lt (rK HO492))) (below_size bG)); have HO507 := Aside0.mk (Kd.R_lower (Kd.R_new' (Kd.R_new' ho1 (Kd.R_lt (rK HO488))) (Kd.R_lt (rK HO492))) (below_size bG)); replace HO488 := Aside0.mk (Kd.R_mono (Kd.R_told (Kd.R_told (Kd.R_old (rK HO488) hb) (Kd.R_base ho0)) (Kd.R_base ho1)) (fun _ h_ => h_.1)); replace HO492 := Aside0.mk (Kd.R_mono (Kd.R_told (Kd.R_told (Kd.R_old (rK HO492) hb) (Kd.R_base ho0)) (Kd.R_base ho1)) (fun _ h_ => h_.1)); replace BK479 := Aside0.mk (blk_below (g := gb479) (bK BK479) hb); replace HB := Aside0.mk (below_step bG hb); (try clear hb); (try clear ho0); (try clear ho1)) | ((with_reducible refine gate_dst (N := 10) rfl ?_); refine bE (N := 10) (cs := #[.slice none 0 0, .int .i64 0, .slice none 0 0, .int .i64 0]) (t := 57) ?_; intro gb509 hg w50 hbox hb; have n0_ := Aside0.mk (Kd.R_below (rK HO485) hb); have n1_ := Aside0.mk (Kd.R_below (rK HO488) hb); have n2_ := Aside0.mk (Kd.R_below (rK HO492) hb); have n3_ := Aside0.mk (Kd.R_below (rK HO496) hb); have n4_ := Aside0.mk (Kd.R_below (rK HO500) hb); have n5_ := Aside0.mk (Kd.R_below (rK HO503) hb); have n6_ := Aside0.mk (Kd.R_below (rK HO507) hb); have n7_ := Aside0.mk (blk_below (g := gb479) (bK BK479) hb); have n8_ := Aside0.mk (below_step bG hb); have n9_ := Aside0.mk (hbox); have n10_ := Aside0.mk ((by rw [hg]; exact (below_size bG) : w.heap.size ≤ gb509)); have n11_ := Aside0.mk ((by rw [hg]; exact (below_size bG) : w.heap.size ≤ gb509)); have n12_ := Aside0.mk ((by rw [hg]; exact Nat.ne_of_lt (blk_lt (g := gb479) (o := .cells #[.slice A1_0 l1_0.length c1_0, .int .i64 a1_1, .slice A1_2 l1_2.length c1_2, .int .i64 a1_3] 55 (0, 0)) (bK BK479)) : gb479 ≠ gb509)); have n13_ := Aside0.mk ((by rw [hg]; exact Nat.ne_of_gt (blk_lt (g := gb479) (o := .cells #[.slice A1_0 l1_0.length c1_0, .int .i64 a1_1, .slice A1_2 l1_2.length c1_2, .int .i64 a1_3] 55 (0, 0)) (bK BK479)) : gb509 ≠ gb479)); clear HO485; clear HO488; clear HO492; clear HO496; clear HO500; clear HO503; clear HO507; clear BK479; clear HB; have HO485 := n0_; have HO488 := n1_; have HO492 := n2_; have HO496 := n3_; have HO500 := n4_; have HO503 := n5_; have HO507 := n6_; have BK479 := n7_; have HB := n8_; have BK509 := n9_; have GW509 := n10_; have GE509 := n11_; have NB479_509 := n12_; have NB509_479 := n13_; clear n0_ n1_ n2_ n3_ n4_ n5_ n6_ n7_ n8_ n9_ n10_ n11_ n12_ n13_; clear hb hbox hg; obtain ⟨Ao51, co51, eo51⟩ := Kd.R_slice HO503.out; subst eo51; have hnb52 := NB509_479.out; have hnc52 := NB479_509.out; obtain ⟨hcz53_0, hcz53_1, hcz53_2, hcz53_3, hfz53_0, hfz53_1, hfz53_2, hfz53_3⟩ := blkc4 BK509; obtain ⟨Ao54, co54, eo54⟩ := Kd.R_slice HO507.out; subst eo54) | ((with_reducible refine gate_callee (f := 48) rfl ?_); refine gL (some 40) Try.func48 #[.slice A2 l2.length c2] ?_; (with_reducible refine (laws_toWantS.calls k _ _ l2 t510 _ ?side1 ?side2 A23.out).mono ?_); (case side1 => exact Kd.C_below HR2.out bG); (case side2 => exact HC2.out); rintro e w55 ⟨v511, rfl, ho0, hb⟩; refine ⟨_, rfl, ?_⟩; have n0_ := Aside0.mk (Kd.R_below (by (with_reducible repeat (first | apply Kd.R_alloc | apply Kd.R_drewN | apply Kd.R_drew)); exact (Kd.R_mono (Kd.R_far (p := ⟨gb509, 3, none⟩) (Kd.R_far (p := ⟨gb509, 2, none⟩) (Kd.R_far (p := ⟨gb509, 1, none⟩) (Kd.R_far (p := ⟨gb509, 0, none⟩) (Kd.R_types HO485.out BK509.out (by decide)) (fun _ hk => hk.2) (.slice Ao51 t501.length co51)) (fun _ hk => hk.2) (.int .i64 t504)) (fun _ hk => hk.2) (.slice Ao54 t505.length co54)) (fun _ hk => hk.2) (.int .i64 t508)) (fun _ h_ => h_.1))) hb); have n1_ := Aside0.mk (Kd.R_below (by (with_reducible repeat (first | apply Kd.R_alloc | apply Kd.R_drewN | apply Kd.R_drew)); exact (Kd.R_mono (Kd.R_far (p := ⟨gb509, 3, none⟩) (Kd.R_far (p := ⟨gb509, 2, none⟩) (Kd.R_far (p := ⟨gb509, 1, none⟩) (Kd.R_far (p := ⟨gb509, 0, none⟩) (Kd.R_types HO488.out BK509.out (by decide)) (fun _ hk => hk.2) (.slice Ao51 t501.length co51)) (fun _ hk => hk.2) (.int .i64 t504)) (fun _ hk => hk.2) (.slice Ao54 t505.length co54)) (fun _ hk => hk.2) (.int .i64 t508)) (fun _ h_ => h_.1))) hb); have n2_ := Aside0.mk (Kd.R_below (by (with_reducible repeat (first | apply Kd.R_alloc | apply Kd.R_drewN | apply Kd.R_drew)); exact (Kd.R_mono (Kd.R_far (p := ⟨gb509, 3, none⟩) (Kd.R_far (p := ⟨gb509, 2, none⟩) (Kd.R_far (p := ⟨gb509, 1, none⟩) (Kd.R_far (p := ⟨gb509, 0, none⟩) (Kd.R_types HO492.out BK509.out (by decide)) (fun _ hk => hk.2) (.slice Ao51 t501.length co51)) (fun _ hk => hk.2) (.int .i64 t504)) (fun _ hk => hk.2) (.slice Ao54 t505.length co54)) (fun _ hk => hk.2) (.int .i64 t508)) (fun _ h_ => h_.1))) hb); have n3_ := Aside0.mk (Kd.R_elder' (by (with_reducible repeat (first | apply Kd.R_alloc | apply Kd.R_drewN | apply Kd.R_drew)); exact (Kd.R_mono (Kd.R_far (p := ⟨gb509, 3, none⟩) (Kd.R_far (p := ⟨gb509, 2, none⟩) (Kd.R_far (p := ⟨gb509, 1, none⟩) (Kd.R_far (p := ⟨gb509, 0, none⟩) (Kd.R_types HO496.out BK509.out (by decide)) (fun _ hk => hk.2) (.slice Ao51 t501.length co51)) (fun _ hk => hk.2) (.int .i64 t504)) (fun _ hk => hk.2) (.slice Ao54 t505.length co54)) (fun _ hk => hk.2) (.int .i64 t508)) (fun _ h_ => h_.1))) (Kd.R_base ho0) hb); have n4_ := Aside0.mk (Kd.R_below (by (with_reducible repeat (first | apply Kd.R_alloc | apply Kd.R_drewN | apply Kd.R_drew)); exact (Kd.R_mono (Kd.R_far (p := ⟨gb509, 3, none⟩) (Kd.R_far (p := ⟨gb509, 2, none⟩) (Kd.R_far (p := ⟨gb509, 1, none⟩) (Kd.R_far (p := ⟨gb509, 0, none⟩) (Kd.R_types HO500.out BK509.out (by decide)) (fun _ hk => hk.2) (.slice Ao51 t501.length co51)) (fun _ hk => hk.2) (.int .i64 t504)) (fun _ hk => hk.2) (.slice Ao54 t505.length co54)) (fun _ hk => hk.2) (.int .i64 t508)) (fun _ h_ => h_.1))) hb); have n5_ := Aside0.mk (Kd.R_below (by (with_reducible repeat (first | apply Kd.R_alloc | apply Kd.R_drewN | apply Kd.R_drew)); exact (Kd.R_mono (Kd.R_far (p := ⟨gb509, 3, none⟩) (Kd.R_far (p := ⟨gb509, 2, none⟩) (Kd.R_far (p := ⟨gb509, 1, none⟩) (Kd.R_far (p := ⟨gb509, 0, none⟩) (Kd.R_types HO503.out BK509.out (by decide)) (fun _ hk => hk.2) (.slice Ao51 t501.length co51)) (fun _ hk => hk.2) (.int .i64 t504)) (fun _ hk => hk.2) (.slice Ao54 t505.length co54)) (fun _ hk => hk.2) (.int .i64 t508)) (fun _ h_ => h_.1))) hb); have n6_ := Aside0.mk (Kd.R_below (by (with_reducible repeat (first | apply Kd.R_alloc | apply Kd.R_drewN | apply Kd.R_drew)); exact (Kd.R_mono (Kd.R_far (p := ⟨gb509, 3, none⟩) (Kd.R_far (p := ⟨gb509, 2, none⟩) (Kd.R_far (p := ⟨gb509, 1, none⟩) (Kd.R_far (p := ⟨gb509, 0, none⟩) (Kd.R_types HO507.out BK509.out (by decide)) (fun _ hk => hk.2) (.slice Ao51 t501.length co51)) (fun _ hk => hk.2) (.int .i64 t504)) (fun _ hk => hk.2) (.slice Ao54 t505.length co54)) (fun _ hk => hk.2) (.int .i64 t508)) (fun _ h_ => h_.1))) hb); have n7_ := Aside0.mk (Kd.R_lower (Kd.R_new' ho0 (Kd.R_lt (by (with_reducible repeat (first | apply Kd.R_alloc | apply Kd.R_drewN | apply Kd.R_drew)); exact (Kd.R_mono (Kd.R_far (p := ⟨gb509, 3, none⟩) (Kd.R_far (p := ⟨gb509, 2, none⟩) (Kd.R_far (p := ⟨gb509, 1, none⟩) (Kd.R_far (p := ⟨gb509, 0, none⟩) (Kd.R_types HO496.out BK509.out (by decide)) (fun _ hk => hk.2) (.slice Ao51 t501.length co51)) (fun _ hk => hk.2) (.int .i64 t504)) (fun _ hk => hk.2) (.slice Ao54 t505.length co54)) (fun _ hk => hk.2) (.int .i64 t508)) (fun _ h_ => h_.1))))) (below_size bG)); have n8_ := Aside0.mk (blk_below (g := gb479) (o := .cells #[.slice A1_0 l1_0.length c1_0, .int .i64 a1_1, .slice A1_2 l1_2.length c1_2, .int .i64 a1_3] 55 (0, 0)) (by (with_reducible repeat (first | refine blk_drewN ?_ _ | refine blk_drew ?_ | refine blk_alloc ?_ _)); refine blk_far ?_ NB479_509.out _; (with_reducible repeat (first | refine blk_drewN ?_ _ | refine blk_drew ?_ | refine blk_alloc ?_ _)); refine blk_far ?_ NB479_509.out _; (with_reducible repeat (first | refine blk_drewN ?_ _ | refine blk_drew ?_ | refine blk_alloc ?_ _)); refine blk_far ?_ NB479_509.out _; (with_reducible repeat (first | refine blk_drewN ?_ _ | refine blk_drew ?_ | refine blk_alloc ?_ _)); refine blk_far ?_ NB479_509.out _; (with_reducible repeat (first | refine blk_drewN ?_ _ | refine blk_drew ?_ | refine blk_alloc ?_ _)); exact BK479.out) hb); have n9_ := Aside0.mk (blk_below (g := gb509) (o := .cells #[.slice Ao51 t501.length co51, .int .i64 t504, .slice Ao54 t505.length co54, .int .i64 t508] 57 (0, 0)) (by (with_reducible repeat (first | refine blk_drewN ?_ _ | refine blk_drew ?_ | refine blk_alloc ?_ _)); refine blk_put (cs := #[.slice Ao51 t501.length co51, .int .i64 t504, .slice Ao54 t505.length co54, .int .i64 0]) ?_ 3 _ rfl; (with_reducible repeat (first | refine blk_drewN ?_ _ | refine blk_drew ?_ | refine blk_alloc ?_ _)); refine blk_put (cs := #[.slice Ao51 t501.length co51, .int .i64 t504, .slice none 0 0, .int .i64 0]) ?_ 2 _ rfl; (with_reducible repeat (first | refine blk_drewN ?_ _ | refine blk_drew ?_ | refine blk_alloc ?_ _)); refine blk_put (cs := #[.slice Ao51 t501.length co51, .int .i64 0, .slice none 0 0, .int .i64 0]) ?_ 1 _ rfl; (with_reducible repeat (first | refine blk_drewN ?_ _ | refine blk_drew ?_ | refine blk_alloc ?_ _)); refine blk_put (cs := #[.slice none 0 0, .int .i64 0, .slice none 0 0, .int .i64 0]) ?_ 0 _ rfl; (with_reducible repeat (first | refine blk_drewN ?_ _ | refine blk_drew ?_ | refine blk_alloc ?_ _)); exact BK509.out) hb); have n10_ := Aside0.mk (below_step bG hb); clear HO485; clear HO488; clear HO492; clear HO496; clear HO500; clear HO503; clear HO507; clear BK479; clear BK509; clear HB; have HO485 := n0_; have HO488 := n1_; have HO492 := n2_; have HO496 := n3_; have HO500 := n4_; have HO503 := n5_; have HO507 := n6_; have HO512 := n7_; have BK479 := n8_; have BK509 := n9_; have HB := n10_; clear n0_ n1_ n2_ n3_ n4_ n5_ n6_ n7_ n8_ n9_ n10_; (try clear hb); (try clear ho0); obtain ⟨hcz56_0, hcz56_1, hcz56_2, hcz56_3, hfz56_0, hfz56_1, hfz56_2, hfz56_3⟩ := blkc4 BK509; obtain ⟨Ao57, co57, eo57⟩ := Kd.R_slice HO500.out; subst eo57; obtain ⟨Ao58, co58, eo58⟩ := Kd.R_slice HO512.out; subst eo58) | ((with_reducible refine gate_callee (f := 53) rfl ?_); refine gL (some 44) Try.func53 #[.slice Ao57 t498.length co57, .agg #[.slice Ao51 t501.length co51, .int .i64 t504, .slice Ao54 t505.length co54, .int .i64 t508], .slice Ao58 t510.length co58] ?_; (with_reducible refine (impl_MustChange.calls k _ _ t498 _ _ t501 t504 _ _ t505 t508 _ _ t510 t513 _ ?side1 ?side2 ?side3 ?side4 ?side5 ?side6 ?side7 ?side8 A24.out).mono ?_); (case side1 => exact cO ⟨(Kd.R_reads' HO500.out).2.2⟩); (case side2 => exact (Kd.R_reads' HO500.out).2.1); (case side3 => exact cO ⟨(Kd.R_reads' HO503.out).2.2⟩); (case side4 => exact (Kd.R_reads' HO503.out).2.1); (case side5 => exact cO ⟨(Kd.R_reads' HO507.out).2.2⟩); (case side6 => exact (Kd.R_reads' HO507.out).2.1); (case side7 => exact cO ⟨(Kd.R_reads' HO512.out).2.2⟩); (case side8 => exact (Kd.R_reads' HO512.out).2.1); rintro e w59 ⟨rfl, hb⟩; refine ⟨_, rfl, ?_⟩; replace HO485 := Aside0.mk (Kd.R_below (rK HO485) hb); replace HO488 := Aside0.mk (Kd.R_below (rK HO488) hb); replace HO492 := Aside0.mk (Kd.R_below (rK HO492) hb); replace HO496 := Aside0.mk (Kd.R_below (rK HO496) hb); replace HO500 := Aside0.mk (Kd.R_below (rK HO500) hb); replace HO503 := Aside0.mk (Kd.R_below (rK HO503) hb); replace HO507 := Aside0.mk (Kd.R_below (rK HO507) hb); replace HO512 := Aside0.mk (Kd.R_below (rK HO512) hb); replace BK479 := Aside0.mk (blk_below (g := gb479) (bK BK479) hb); replace BK509 := Aside0.mk (blk_below (g := gb509) (bK BK509) hb); replace HB := Aside0.mk (below_step bG hb); (try clear hb)) | ((with_reducible refine gate_callee (f := 14) rfl ?_); refine gL (some 50) Try.func14 #[.slice A0 l0.length c0] ?_; (with_reducible refine (laws_toPathS.calls k _ _ l0 t514 _ ?side1 ?side2 A26.out).mono ?_); (case side1 => exact cB HR0); (case side2 => exact HC0.out); rintro e w60 ⟨v515, rfl, ho0, hb⟩; refine ⟨_, rfl, ?_⟩; replace HO488 := Aside0.mk (Kd.R_below (rK HO488) hb); replace HO492 := Aside0.mk (Kd.R_below (rK HO492) hb); replace HO496 := Aside0.mk (Kd.R_below (rK HO496) hb); replace HO503 := Aside0.mk (Kd.R_below (rK HO503) hb); replace HO507 := Aside0.mk (Kd.R_below (rK HO507) hb); replace HO512 := Aside0.mk (Kd.R_below (rK HO512) hb); have HO516 := Aside0.mk (Kd.R_lower (Kd.R_new' (Kd.R_new' ho0 (Kd.R_lt (rK HO485))) (Kd.R_lt (rK HO500))) (below_size bG)); replace HO485 := Aside0.mk (Kd.R_elder' (rK HO485) (Kd.R_base ho0) hb); replace HO500 := Aside0.mk (Kd.R_elder' (rK HO500) (Kd.R_base ho0) hb); replace BK479 := Aside0.mk (blk_below (g := gb479) (bK BK479) hb); replace BK509 := Aside0.mk (blk_below (g := gb509) (bK BK509) hb); replace HB := Aside0.mk (below_step bG hb); (try clear hb); (try clear ho0); obtain ⟨Ao61, co61, eo61⟩ := Kd.R_slice HO516.out; subst eo61) | ((with_reducible refine gate_callee (f := 18) rfl ?_); refine gL (some 51) Try.func18 #[.slice Ao57 t498.length co57, .slice Ao61 t514.length co61] ?_; (with_reducible refine (laws_eqPathS.calls k _ _ t498 _ _ t514 true _ ?side1 ?side2 ?side3 ?side4 A27.out).mono ?_); (case side1 => exact cO ⟨(Kd.R_reads' HO500.out).2.2⟩); (case side2 => exact (Kd.R_reads' HO500.out).2.1); (case side3 => exact cO ⟨(Kd.R_reads' HO516.out).2.2⟩); (case side4 => exact (Kd.R_reads' HO516.out).2.1); rintro e w62 ⟨rfl, hb⟩; refine ⟨_, rfl, ?_⟩; replace HO485 := Aside0.mk (Kd.R_below (rK HO485) hb); replace HO488 := Aside0.mk (Kd.R_below (rK HO488) hb); replace HO492 := Aside0.mk (Kd.R_below (rK HO492) hb); replace HO496 := Aside0.mk (Kd.R_below (rK HO496) hb); replace HO500 := Aside0.mk (Kd.R_below (rK HO500) hb); replace HO503 := Aside0.mk (Kd.R_below (rK HO503) hb); replace HO507 := Aside0.mk (Kd.R_below (rK HO507) hb); replace HO512 := Aside0.mk (Kd.R_below (rK HO512) hb); replace HO516 := Aside0.mk (Kd.R_below (rK HO516) hb); replace BK479 := Aside0.mk (blk_below (g := gb479) (bK BK479) hb); replace BK509 := Aside0.mk (blk_below (g := gb509) (bK BK509) hb); replace HB := Aside0.mk (below_step bG hb); (try clear hb)))
    replace HO485 := Aside0.mk (Kd.R_drew HO485.out)
    replace HO488 := Aside0.mk (Kd.R_drew HO488.out)
    replace HO492 := Aside0.mk (Kd.R_drew HO492.out)
    replace HO496 := Aside0.mk (Kd.R_drew HO496.out)
    replace HO500 := Aside0.mk (Kd.R_drew HO500.out)
    replace HO503 := Aside0.mk (Kd.R_drew HO503.out)
    replace HO507 := Aside0.mk (Kd.R_drew HO507.out)
    replace HO512 := Aside0.mk (Kd.R_drew HO512.out)
    replace HO516 := Aside0.mk (Kd.R_drew HO516.out)
    replace BK479 := Aside0.mk (blk_drew BK479.out)
    replace BK509 := Aside0.mk (blk_drew BK509.out)
    have HBo := HB
    replace HB := Aside0.mk (below_drew1 HB.out)
    refine start_ (n := 5) (S := fun w' => w'.cell? ⟨gb509, 0, none⟩ = some (.slice Ao51 t501.length co51) ∧ w'.cell? ⟨gb509, 1, none⟩ = some (.int .i64 t504) ∧ w'.cell? ⟨gb509, 2, none⟩ = some (.slice Ao54 t505.length co54) ∧ w'.cell? ⟨gb509, 3, none⟩ = some (.int .i64 t508) ∧ w'.cell? ⟨gb479, 0, none⟩ = some (.slice A1_0 l1_0.length c1_0) ∧ w'.cell? ⟨gb479, 1, none⟩ = some (.int .i64 a1_1) ∧ w'.cell? ⟨gb479, 2, none⟩ = some (.slice A1_2 l1_2.length c1_2) ∧ w'.cell? ⟨gb479, 3, none⟩ = some (.int .i64 a1_3)) (ds := []) (mb 5 0) (by kernel_rfl) rfl rfl ⟨bC BK509 0, bC BK509 1, bC BK509 2, bC BK509 3, bC BK479 0, bC BK479 1, bC BK479 2, bC BK479 3⟩ (fun hHeld => ?_)
    generalize w62.drew = w63 at HO485 HO488 HO492 HO496 HO500 HO503 HO507 HO512 HO516 BK479 BK509 HB hHeld ⊢
    refine take_ (i := 0) (N := some 53) (v := ?_) (a' := ?_) (mb 5 1) rfl rfl (by kernel_rfl) (fun _ _ _ h => h) (Or.inl ⟨by rfl, ?_⟩) hHeld ?_ ?_
    rotate_left
    ·
     rintro w' ⟨s0, s1, s2, s3, s4, s5, s6, s7⟩
     go_simp
     with_reducible rfl
    rotate_left
    ·
     simp only [Act.put, List.setIfInBounds_toArray, List.set_cons_zero, List.set_cons_succ, i64_w, i32_w]
     rfl
    refine take_ (i := 1) (N := some 54) (v := ?_) (a' := ?_) (mb 5 3) rfl rfl (by kernel_rfl) (fun _ _ _ h => h) (Or.inl ⟨by rfl, ?_⟩) hHeld ?_ ?_
    rotate_left
    ·
     rintro w' ⟨s0, s1, s2, s3, s4, s5, s6, s7⟩
     go_simp
     with_reducible rfl
    rotate_left
    ·
     simp only [Act.put, List.setIfInBounds_toArray, List.set_cons_zero, List.set_cons_succ, i64_w, i32_w]
     rfl
    refine one_ (i := 2) (N := some 55) (mb 5 7) rfl rfl (by kernel_rfl) (by decide) (fun K hK => ?_)
    refine gA Try.func40 #[.agg #[.slice A1_0 l1_0.length c1_0, .int .i64 a1_1, .slice A1_2 l1_2.length c1_2, .int .i64 a1_3]] ?_
    with_reducible refine (laws_toControl.calls k _ _ l1_0 a1_1 _ _ l1_2 a1_3 t518 t521 t522 t525 _ ?side1 ?side2 ?side3 ?side4 A29.out).mono ?_
    (case side1 => exact cB HR1_0)
    (case side2 => exact HC1_0.out)
    (case side3 => exact cB HR1_2)
    (case side4 => exact HC1_2.out)
    rintro e w64 ⟨v519, v523, rfl, ho0, ho1, hb⟩
    refine ⟨_, rfl, ?_⟩
    replace HO485 := Aside0.mk (Kd.R_below (rK HO485) hb)
    replace HO496 := Aside0.mk (Kd.R_below (rK HO496) hb)
    replace HO500 := Aside0.mk (Kd.R_below (rK HO500) hb)
    replace HO512 := Aside0.mk (Kd.R_below (rK HO512) hb)
    replace HO516 := Aside0.mk (Kd.R_below (rK HO516) hb)
    have HO520 := Aside0.mk (Kd.R_lower (Kd.R_new' (Kd.R_new' (Kd.R_new' (Kd.R_new' ho0 (Kd.R_lt (rK HO488))) (Kd.R_lt (rK HO492))) (Kd.R_lt (rK HO503))) (Kd.R_lt (rK HO507))) (below_size bG))
    have HO524 := Aside0.mk (Kd.R_lower (Kd.R_new' (Kd.R_new' (Kd.R_new' (Kd.R_new' ho1 (Kd.R_lt (rK HO488))) (Kd.R_lt (rK HO492))) (Kd.R_lt (rK HO503))) (Kd.R_lt (rK HO507))) (below_size bG))
    replace HO488 := Aside0.mk (Kd.R_mono (Kd.R_told (Kd.R_told (Kd.R_old (rK HO488) hb) (Kd.R_base ho0)) (Kd.R_base ho1)) (fun _ h_ => h_.1))
    replace HO492 := Aside0.mk (Kd.R_mono (Kd.R_told (Kd.R_told (Kd.R_old (rK HO492) hb) (Kd.R_base ho0)) (Kd.R_base ho1)) (fun _ h_ => h_.1))
    replace HO503 := Aside0.mk (Kd.R_mono (Kd.R_told (Kd.R_told (Kd.R_old (rK HO503) hb) (Kd.R_base ho0)) (Kd.R_base ho1)) (fun _ h_ => h_.1))
    replace HO507 := Aside0.mk (Kd.R_mono (Kd.R_told (Kd.R_told (Kd.R_old (rK HO507) hb) (Kd.R_base ho0)) (Kd.R_base ho1)) (fun _ h_ => h_.1))
    replace BK479 := Aside0.mk (blk_below (g := gb479) (bK BK479) hb)
    replace BK509 := Aside0.mk (blk_below (g := gb509) (bK BK509) hb)
    replace HB := Aside0.mk (below_step bG hb)
    (try clear hb)
    (try clear hb2)
    (try clear hk)
    (try clear hi)
    (try clear ho0)
    (try clear ho1)
    obtain ⟨Ao65, co65, eo65⟩ := Kd.R_slice HO520.out
    (first | subst eo65 | (injection eo65 with f1_ f2_ f3_; have f4_ := f1_.symm; have f5_ := f3_.symm; clear f1_ f2_ f3_; subst f4_; subst f5_))
    obtain ⟨Ao66, co66, eo66⟩ := Kd.R_slice HO524.out
    (first | subst eo66 | (injection eo66 with f1_ f2_ f3_; have f4_ := f1_.symm; have f5_ := f3_.symm; clear f1_ f2_ f3_; subst f4_; subst f5_))
    refine hK.out _ _ ⟨bC BK509 0, bC BK509 1, bC BK509 2, bC BK509 3, bC BK479 0, bC BK479 1, bC BK479 2, bC BK479 3⟩ (fun hHeld => ?_)
    clear hK K
    refine nB ?_
    refine one_ (i := 3) (N := some 56) (mb 5 15) rfl rfl (by kernel_rfl) (by decide) (fun K hK => ?_)
    refine gA Try.func43 #[.agg #[.slice Ao51 t501.length co51, .int .i64 t504, .slice Ao54 t505.length co54, .int .i64 t508], .agg #[.slice Ao65 t518.length co65, .int .i64 t521, .slice Ao66 t522.length co66, .int .i64 t525]] ?_
    with_reducible refine (laws_eqControl.calls k _ _ t501 t504 _ _ t505 t508 _ _ t518 t521 _ _ t522 t525 true _ ?side1 ?side2 ?side3 ?side4 ?side5 ?side6 ?side7 ?side8 A30.out).mono ?_
    (case side1 => exact cO ⟨(Kd.R_reads' HO503.out).2.2⟩)
    (case side2 => exact (Kd.R_reads' HO503.out).2.1)
    (case side3 => exact cO ⟨(Kd.R_reads' HO507.out).2.2⟩)
    (case side4 => exact (Kd.R_reads' HO507.out).2.1)
    (case side5 => exact cO ⟨(Kd.R_reads' HO520.out).2.2⟩)
    (case side6 => exact (Kd.R_reads' HO520.out).2.1)
    (case side7 => exact cO ⟨(Kd.R_reads' HO524.out).2.2⟩)
    (case side8 => exact (Kd.R_reads' HO524.out).2.1)
    rintro e w67 ⟨rfl, hb⟩
    refine ⟨_, rfl, ?_⟩
    replace HO485 := Aside0.mk (Kd.R_below (rK HO485) hb)
    replace HO488 := Aside0.mk (Kd.R_below (rK HO488) hb)
    replace HO492 := Aside0.mk (Kd.R_below (rK HO492) hb)
    replace HO496 := Aside0.mk (Kd.R_below (rK HO496) hb)
    replace HO500 := Aside0.mk (Kd.R_below (rK HO500) hb)
    replace HO503 := Aside0.mk (Kd.R_below (rK HO503) hb)
    replace HO507 := Aside0.mk (Kd.R_below (rK HO507) hb)
    replace HO512 := Aside0.mk (Kd.R_below (rK HO512) hb)
    replace HO516 := Aside0.mk (Kd.R_below (rK HO516) hb)
    replace HO520 := Aside0.mk (Kd.R_below (rK HO520) hb)
    replace HO524 := Aside0.mk (Kd.R_below (rK HO524) hb)
    replace BK479 := Aside0.mk (blk_below (g := gb479) (bK BK479) hb)
    replace BK509 := Aside0.mk (blk_below (g := gb509) (bK BK509) hb)
    replace HB := Aside0.mk (below_step bG hb)
    (try clear hb)
    (try clear hb2)
    (try clear hk)
    (try clear hi)
    refine hK.out _ _ ⟨bC BK509 0, bC BK509 1, bC BK509 2, bC BK509 3, bC BK479 0, bC BK479 1, bC BK479 2, bC BK479 3⟩ (fun hHeld => ?_)
    clear hK K
    refine nB ?_
    refine pure_ (i := 4) (N := some 57) (v := ?_) (a' := ?_) (mb 5 31) rfl rfl (by kernel_rfl) (fun _ _ _ h => h) (Or.inl ⟨by rfl, ?_⟩) ?_ ?_
    rotate_left
    ·
     intro w'
     go_simp
     with_reducible rfl
    rotate_left
    ·
     simp only [Act.put, List.setIfInBounds_toArray, List.set_cons_zero, List.set_cons_succ, i64_w, i32_w]
     rfl
    refine done_ (by kernel_rfl) ?_
    try go_wp2_with (first | ((with_reducible refine gate_callee (f := 48) rfl ?_); refine gL (some 60) Try.func48 #[.slice A2 l2.length c2] ?_; (with_reducible refine (laws_toWantS.calls k _ _ l2 t527 _ ?side1 ?side2 A32.out).mono ?_); (case side1 => exact cB HR2); (case side2 => exact HC2.out); rintro e w68 ⟨v528, rfl, ho0, hb⟩; refine ⟨_, rfl, ?_⟩; replace HO485 := Aside0.mk (Kd.R_below (rK HO485) hb); replace HO488 := Aside0.mk (Kd.R_below (rK HO488) hb); replace HO492 := Aside0.mk (Kd.R_below (rK HO492) hb); replace HO500 := Aside0.mk (Kd.R_below (rK HO500) hb); replace HO503 := Aside0.mk (Kd.R_below (rK HO503) hb); replace HO507 := Aside0.mk (Kd.R_below (rK HO507) hb); replace HO516 := Aside0.mk (Kd.R_below (rK HO516) hb); replace HO520 := Aside0.mk (Kd.R_below (rK HO520) hb); replace HO524 := Aside0.mk (Kd.R_below (rK HO524) hb); have HO529 := Aside0.mk (Kd.R_lower (Kd.R_new' (Kd.R_new' ho0 (Kd.R_lt (rK HO496))) (Kd.R_lt (rK HO512))) (below_size bG)); replace HO496 := Aside0.mk (Kd.R_elder' (rK HO496) (Kd.R_base ho0) hb); replace HO512 := Aside0.mk (Kd.R_elder' (rK HO512) (Kd.R_base ho0) hb); replace BK479 := Aside0.mk (blk_below (g := gb479) (bK BK479) hb); replace BK509 := Aside0.mk (blk_below (g := gb509) (bK BK509) hb); replace HB := Aside0.mk (below_step bG hb); (try clear hb); (try clear ho0); obtain ⟨Ao69, co69, eo69⟩ := Kd.R_slice HO529.out; subst eo69) | ((with_reducible refine gate_callee (f := 50) rfl ?_); refine gL (some 61) Try.func50 #[.slice Ao58 t510.length co58, .slice Ao69 t527.length co69] ?_; (with_reducible refine (laws_eqWantS.calls k _ _ t510 _ _ t527 true _ ?side1 ?side2 ?side3 ?side4 A33.out).mono ?_); (case side1 => exact cO ⟨(Kd.R_reads' HO512.out).2.2⟩); (case side2 => exact (Kd.R_reads' HO512.out).2.1); (case side3 => exact cO ⟨(Kd.R_reads' HO529.out).2.2⟩); (case side4 => exact (Kd.R_reads' HO529.out).2.1); rintro e w70 ⟨rfl, hb⟩; refine ⟨_, rfl, ?_⟩; replace HO485 := Aside0.mk (Kd.R_below (rK HO485) hb); replace HO488 := Aside0.mk (Kd.R_below (rK HO488) hb); replace HO492 := Aside0.mk (Kd.R_below (rK HO492) hb); replace HO496 := Aside0.mk (Kd.R_below (rK HO496) hb); replace HO500 := Aside0.mk (Kd.R_below (rK HO500) hb); replace HO503 := Aside0.mk (Kd.R_below (rK HO503) hb); replace HO507 := Aside0.mk (Kd.R_below (rK HO507) hb); replace HO512 := Aside0.mk (Kd.R_below (rK HO512) hb); replace HO516 := Aside0.mk (Kd.R_below (rK HO516) hb); replace HO520 := Aside0.mk (Kd.R_below (rK HO520) hb); replace HO524 := Aside0.mk (Kd.R_below (rK HO524) hb); replace HO529 := Aside0.mk (Kd.R_below (rK HO529) hb); replace BK479 := Aside0.mk (blk_below (g := gb479) (bK BK479) hb); replace BK509 := Aside0.mk (blk_below (g := gb509) (bK BK509) hb); replace HB := Aside0.mk (below_step bG hb); (try clear hb)))
    go_ret
    exact ⟨rA, bG⟩

end Go.Proofs.Ytdkmmefmhfbgkaa.P
