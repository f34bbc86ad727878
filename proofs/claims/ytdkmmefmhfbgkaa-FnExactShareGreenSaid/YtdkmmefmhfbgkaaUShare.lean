/- Sharing the green of a cycle, as a value: what the parts get. -/
import Derived.Test.YtdkmmefmhfbgkaaFX00c
import Derived.Test.YtdkmmefmhfbgkaaFX00d
import Derived.Test.YtdkmmefmhfbgkaaUSpare
import Derived.Test.YtdkmmefmhfbgkaaUDemand
import Derived.Test.YtdkmmefmhfbgkaaUDetectors
set_option linter.unusedVariables false
set_option linter.unusedSimpArgs false
namespace Go.Proofs.Ytdkmmefmhfbgkaa.U
open Go.RowKit Go.Proofs.YtdkmmefmhfbgkaaW.PrintWords Go.Proofs.YtdkmmefmhfbgkaaW.PrintLast Go.Proofs.Ytdkmmefmhfbgkaa.P
def isum (f : Nat → Int) : Nat → Int
  | 0 => 0
  | i + 1 => isum f i + f i
theorem isum_succ (f : Nat → Int) (i : Nat) : isum f (i + 1) = isum f i + f i := rfl
theorem isum_bound {f : Nat → Int} {a b : Int} : ∀ n, (∀ i, i < n → a ≤ f i ∧ f i ≤ b) → a * (n : Int) ≤ isum f n ∧ isum f n ≤ b * (n : Int)
  | 0, _ => by simp [isum]
  | n + 1, h => by
    have h1 := isum_bound n (fun i hi => h i (by omega))
    have h2 := h n (by omega)
    rw [isum_succ, Int.natCast_add, Int.mul_add, Int.mul_add]; omega
theorem share_inv (s S : Int) (hS : 0 < S) (f : Nat → Int) : ∀ i, ∃ R, s * isum f i = S * isum (fun j => s * f j / S) i + R ∧ 0 ≤ R ∧ R ≤ (i : Int) * (S - 1)
  | 0 => ⟨0, by simp [isum], by simp, by simp⟩
  | i + 1 => by
    obtain ⟨R, h1, h2, h3⟩ := share_inv s S hS f i
    refine ⟨R + s * f i % S, ?_, ?_, ?_⟩
    · show s * (isum f i + f i) = S * (isum (fun j => s * f j / S) i + s * f i / S) + (R + s * f i % S)
      have := Int.mul_ediv_add_emod (s * f i) S
      rw [Int.mul_add, Int.mul_add, h1]; omega
    · have := Int.emod_nonneg (s * f i) (show S ≠ 0 by omega); omega
    · have := Int.emod_lt_of_pos (s * f i) hS
      rw [Int.natCast_add, Int.add_mul]; omega
theorem share_sum (s : Int) (f : Nat → Int) (n : Nat) (hS : 0 < isum f n) (hn : 0 < n) : 0 ≤ s - isum (fun j => s * f j / isum f n) n ∧ s - isum (fun j => s * f j / isum f n) n < n := by
  obtain ⟨R, h1, h2, h3⟩ := share_inv s (isum f n) hS f n
  generalize isum (fun j => s * f j / isum f n) n = Q at *
  generalize isum f n = S at *
  have e : S * (s - Q) = R := by rw [Int.mul_sub, Int.mul_comm S s]; omega
  constructor
  · rcases Int.lt_or_le (s - Q) 0 with h | h
    · have : S * (s - Q) < 0 := Int.mul_neg_of_pos_of_neg hS h
      omega
    · exact h
  · have h4 : (n : Int) * (S - 1) < S * n := by rw [Int.mul_sub, Int.mul_comm S]; omega
    exact Int.lt_of_mul_lt_mul_left (a := S) (by omega) (by omega)
/-- A plan with the same stages and other greens. -/
def mkP (p : List S92) (g : Nat → Int) : List S92 := (List.range p.length).map (fun j : Nat => ⟨(rd_T92 p (j : Int)).f0, g j⟩)
theorem mkP_len (p : List S92) (g : Nat → Int) : (mkP p g).length = p.length := by simp [mkP]
theorem mkP_rd {p : List S92} {g : Nat → Int} {i : Nat} (h : i < p.length) : rd_T92 (mkP p g) (i : Int) = ⟨(rd_T92 p (i : Int)).f0, g i⟩ := by
  rw [rd92 _ i (by rw [mkP_len]; exact h)]
  simp [mkP]
theorem mkP_congr {p : List S92} {g g' : Nat → Int} (h : ∀ j, j < p.length → g j = g' j) : mkP p g = mkP p g' := by
  unfold mkP
  exact List.map_congr_left (fun j hj => by rw [h j (List.mem_range.1 hj)])
theorem mkP_self (p : List S92) : mkP p (fun j => (rd_T92 p (j : Int)).f1) = p := by
  apply List.ext_getElem
  · rw [mkP_len]
  · intro i h1 h2
    simp only [mkP, List.getElem_map, List.getElem_range]
    exact rd92 p i h2
theorem mkP_set (p : List S92) (g : Nat → Int) (i : Nat) (v : Int) : (mkP p g).set i ⟨(rd_T92 p (i : Int)).f0, v⟩ = mkP p (fun j => if j = i then v else g j) := by
  apply List.ext_getElem
  · simp [mkP]
  · intro j h1 h2
    rw [List.getElem_set]
    simp only [mkP, List.getElem_map, List.getElem_range]
    by_cases c : i = j
    · subst c; simp
    · rw [if_neg c, if_neg (fun e => c e.symm)]
theorem lowD_bound {l : List S89} {d : List S128} (h : areD l d = true) (id : Int) : 0 ≤ lowD d id ∧ lowD d id ≤ 1000 := by
  unfold lowD
  by_cases c : impl_trusted.ix id d 0 < 0
  · rw [cnt_neg c]; exact ⟨Int.le_refl _, by decide⟩
  · rw [cnt_pos c]
    have b := tr_bound id d
    unfold areD at h
    rw [Bool.and_eq_true] at h
    have h2 := (bo_iff.1 h.1 (impl_trusted.ix id d 0).toNat (by omega)).1.2.1
    rw [Int.toNat_of_nonneg (by omega)] at h2
    exact h2
theorem stD_bound {l : List S89} {d : List S128} (h : areD l d = true) (st : List Int) : ∀ n : Nat, 0 ≤ stD d st n ∧ stD d st n ≤ 1000
  | 0 => by simp [stD]
  | n + 1 => by
    have h1 := stD_bound h st n
    have h2 := lowD_bound h (rd st (n : Int))
    by_cases c : n = 0
    · rw [stD_one c]; exact h2
    · rw [stD_more c]; omega
def dq (p : List S92) (d : List S128) (i : Nat) : Int := stD d (rd_T92 p (i : Int)).f0 (rd_T92 p (i : Int)).f0.length + 1
def shr (p : List S92) (d : List S128) (s : Int) (i : Nat) : Int := s * dq p d i / isum (dq p d) p.length
noncomputable def gr1 (l : List S89) (p : List S92) (d : List S128) (s : Int) (i : Nat) : Int := leastG l (rd_T92 p (i : Int)).f0 + shr p d s i
def lft (p : List S92) (d : List S128) (s : Int) : Int := s - isum (shr p d s) p.length
noncomputable def gr2 (l : List S89) (p : List S92) (d : List S128) (s : Int) (i : Nat) : Int := min (gr1 l p d s i + (if (i : Int) < lft p d s then 1 else 0)) 60
/-- What is known of a sharing that is done. -/
structure Sh (l : List S89) (p : List S92) (d : List S128) (s : Int) : Prop where
  hp : plan l p = true
  hd : areD l d = true
  s0 : 0 ≤ s
  s1 : s ≤ 1000
theorem Sh.dq {l : List S89} {p : List S92} {d : List S128} {s : Int} (h : Sh l p d s) (i : Nat) : 1 ≤ dq p d i ∧ dq p d i ≤ 1001 := by
  have := stD_bound h.hd (rd_T92 p (i : Int)).f0 (rd_T92 p (i : Int)).f0.length
  unfold U.dq; omega
theorem Sh.sum {l : List S89} {p : List S92} {d : List S128} {s : Int} (h : Sh l p d s) (n : Nat) : (n : Int) ≤ isum (U.dq p d) n ∧ isum (U.dq p d) n ≤ 1001 * (n : Int) := by
  have := isum_bound (a := 1) (b := 1001) n (fun i _ => h.dq i)
  omega
theorem Sh.shr {l : List S89} {p : List S92} {d : List S128} {s : Int} (h : Sh l p d s) (i : Nat) : 0 ≤ shr p d s i ∧ shr p d s i ≤ 1001000 ∧ 0 ≤ s * U.dq p d i ∧ s * U.dq p d i ≤ 1001000 := by
  have h1 := h.dq i
  have h2 := (h.sum p.length).1
  have h3 := plan_len h.hp
  have a : 0 ≤ s * U.dq p d i := Int.mul_nonneg h.s0 (by omega)
  have b : s * U.dq p d i ≤ 1000 * 1001 := Int.mul_le_mul h.s1 h1.2 (by omega) (by decide)
  have c : U.shr p d s i ≤ s * U.dq p d i := Int.ediv_le_self _ a
  have e : 0 ≤ U.shr p d s i := Int.ediv_nonneg a (by omega)
  omega
theorem Sh.left {l : List S89} {p : List S92} {d : List S128} {s : Int} (h : Sh l p d s) : 0 ≤ lft p d s ∧ lft p d s < p.length := by
  have h2 := (h.sum p.length).1
  have h3 := plan_len h.hp
  exact share_sum s (U.dq p d) p.length (by omega) (by omega)
theorem Sh.lefts {l : List S89} {p : List S92} {d : List S128} {s : Int} (h : Sh l p d s) (i : Nat) : 0 ≤ isum (U.shr p d s) i ∧ isum (U.shr p d s) i ≤ 1001000 * (i : Int) := by
  have := isum_bound (a := 0) (b := 1001000) (f := U.shr p d s) i (fun j _ => ⟨(h.shr j).1, (h.shr j).2.1⟩)
  omega
def shOk (l : List S89) (p : List S92) (d : List S128) (a : Int) : Prop := 0 ≤ spV l p a ∧ areD l d = true
theorem shOk.sh {l : List S89} {p : List S92} {d : List S128} {a : Int} (h : shOk l p d a) : Sh l p d (spV l p a) := by
  obtain ⟨h1, h2, h3, h4⟩ := spV_at h.1
  have := spN_bound l p a p.length
  exact ⟨h1, h.2, h.1, by omega⟩
noncomputable def shV (l : List S89) (p : List S92) (d : List S128) (a : Int) : List S92 × Bool := if bo (shOk l p d a) = true then (mkP p (gr2 l p d (spV l p a)), true) else (p, false)
theorem shV_t {l : List S89} {p : List S92} {d : List S128} {a : Int} (h : shOk l p d a) : shV l p d a = (mkP p (gr2 l p d (spV l p a)), true) := if_pos (bo_t h)
theorem shV_f {l : List S89} {p : List S92} {d : List S128} {a : Int} (h : ¬ shOk l p d a) : shV l p d a = (p, false) := if_neg (by rw [bo_f h]; decide)
theorem impl_clonePlan_val (p : List S92) (hp : p.length ≤ 1048576) (hx : ∀ i : Nat, i < p.length → (rd_T92 p (i : Int)).f0.length ≤ 1048576) : Ev (fun k => impl_clonePlan.f k p) p := by
  unfold impl_clonePlan.f
  have e0 : p.take p.length = p := List.take_length
  suffices hh : Ev (fun k => impl_clonePlan.l0 k (p.take 0) p (p.length : Int) ((0 : Nat) : Int)) (p.take p.length) by rw [e0] at hh; exact hh
  refine ev_for0 (F := fun k i => impl_clonePlan.l0 k (p.take i) p (p.length : Int) (i : Int)) p.length (fun i hi ih => ?_) ?_
  · have hxi := hx i hi
    have cv : slices_Clone_int_int.f (rd_T92 p (i : Int)).f0 = some (rd_T92 p (i : Int)).f0 := by
      unfold slices_Clone_int_int.f
      rw [if_pos (by omega)]
    refine Ev.step (fun k => by rw [impl_clonePlan.l0]) ?_
    refine ev_t (by omega) (ev_t (by omega) (ev_t (by omega) (ev_call cv ?_)))
    refine ev_t (by rw [List.length_take]; omega) ?_
    rw [w_succ hi (by omega)]
    rw [List.take_succ_eq_append_getElem hi, ← rd92 p i hi] at ih
    exact ih
  · refine Ev.step (fun k => by rw [impl_clonePlan.l0]) ?_
    exact ev_f (by omega) (Ev.now _)
theorem impl_shareGreen {l : List S89} {p : List S92} (w : PW l p) (d : List S128) (hd : d.length ≤ 1048576) (a : Int) : Ev (fun k => impl_ShareGreen.f k l p d a) (shV l p d a) := by
  have hp := w.hp
  have hl := w.hl
  have it : Ev (fun k => impl_ShareGreen.j0 k l p d p (spV l p a) true) (p, false) := Ev.step (fun k => by rw [impl_ShareGreen.j0]) (ev_t rfl (Ev.now _))
  unfold impl_ShareGreen.f
  refine Ev.bind (impl_clonePlan_val p hp w.hx) (Ev.bind (impl_spareGreen w a) ?_)
  by_cases s0 : spV l p a < 0
  · rw [shV_f (fun h => by have := h.1; omega)]
    exact ev_t s0 it
  refine ev_f s0 (Ev.bind (impl_areDetectors l d hl hd) ?_)
  by_cases hD : areD l d = true
  · have ok : shOk l p d a := ⟨by omega, hD⟩
    rw [shV_t ok, hD]
    have h := ok.sh
    generalize spV l p a = s at h s0 ⊢
    have pl := plan_len h.hp
    refine Ev.step (fun k => by rw [impl_ShareGreen.j0]) (ev_f (by decide) ?_)
    refine ev_for0 (F := fun k i => impl_ShareGreen.l0 k l p d p s (isum (dq p d) i) p (p.length : Int) (i : Int)) p.length (fun i hi ih => ?_) ?_
    · have hxi := w.hx i hi
      have b1 := h.sum i
      have b2 := h.dq i
      have e : dq p d i = stD d (rd_T92 p (i : Int)).f0 (rd_T92 p (i : Int)).f0.length + 1 := rfl
      refine Ev.step (fun k => by rw [impl_ShareGreen.l0]) (ev_t (by omega) (ev_t (by omega) (ev_t (by omega) (Ev.bind (impl_stageDemand d _ (by omega)) ?_))))
      rw [w_succ hi (by omega), ← e, w64 (n := dq p d i) (by omega) (by omega), w64 (n := isum (dq p d) i + _) (by omega) (by omega)]
      exact ih
    · refine Ev.step (fun k => by rw [impl_ShareGreen.l0]) (ev_f (by omega) ?_)
      have e0 : mkP p (fun j => if j < 0 then gr1 l p d s j else (rd_T92 p (j : Int)).f1) = p := by
        rw [mkP_congr (g' := fun j => (rd_T92 p (j : Int)).f1) (fun j _ => if_neg (by omega))]; exact mkP_self p
      suffices hh : Ev (fun k => impl_ShareGreen.l1 k l d (mkP p (fun j => if j < 0 then gr1 l p d s j else (rd_T92 p (j : Int)).f1)) s (isum (dq p d) p.length) (s - isum (shr p d s) 0) p (p.length : Int) ((0 : Nat) : Int)) (mkP p (gr2 l p d s), true) by
        rw [e0, show s - isum (shr p d s) 0 = s by simp [isum]] at hh; exact hh
      refine ev_for0 (F := fun k i => impl_ShareGreen.l1 k l d (mkP p (fun j => if j < i then gr1 l p d s j else (rd_T92 p (j : Int)).f1)) s (isum (dq p d) p.length) (s - isum (shr p d s) i) p (p.length : Int) (i : Int)) p.length (fun i hi ih => ?_) ?_
      · have hxi := w.hx i hi
        have b1 := h.sum p.length
        have b2 := h.dq i
        have b3 := h.shr i
        have b4 := h.lefts i
        have b5 := leastG_bound l (rd_T92 p (i : Int)).f0
        have s1 := h.s1
        have e : dq p d i = stD d (rd_T92 p (i : Int)).f0 (rd_T92 p (i : Int)).f0.length + 1 := rfl
        have e2 : Int.tdiv (s * dq p d i) (isum (dq p d) p.length) = shr p d s i := Int.tdiv_eq_ediv_of_nonneg (by omega)
        have e3 : leastG l (rd_T92 p (i : Int)).f0 + shr p d s i = gr1 l p d s i := rfl
        refine Ev.step (fun k => by rw [impl_ShareGreen.l1]) (ev_t (by omega) (ev_t (by omega) (ev_t (by omega) (Ev.bind (impl_stageDemand d _ (by omega)) ?_))))
        refine ev_f (by omega) (Ev.bind (impl_leastGreen l (rd_T92 p (i : Int)).f0 (by omega)) (ev_t (by rw [mkP_len]; omega) ?_))
        rw [w_succ hi (by omega), ← e, w64 (n := dq p d i) (by omega) (by omega), w64 (n := s * dq p d i) (by omega) (by omega), e2, w64 (n := shr p d s i) (by omega) (by omega), w64 (n := leastG l _ + _) (by omega) (by omega), w64 (n := s - isum (shr p d s) i - _) (by omega) (by omega), e3, mkP_rd hi, Int.toNat_natCast]
        rw [mkP_set, mkP_congr (g' := fun j => if j < i + 1 then gr1 l p d s j else (rd_T92 p (j : Int)).f1) (fun j _ => by
          by_cases c : j = i
          · subst c; rw [if_pos rfl, if_pos (by omega)]
          · rw [if_neg c]
            by_cases c2 : j < i
            · rw [if_pos c2, if_pos (by omega)]
            · rw [if_neg c2, if_neg (by omega)])]
        rw [isum_succ, show s - (isum (shr p d s) i + shr p d s i) = s - isum (shr p d s) i - shr p d s i by omega] at ih
        exact ih
      · refine Ev.step (fun k => by rw [impl_ShareGreen.l1]) (ev_f (by omega) ?_)
        have lb := h.left
        have e1 : s - isum (shr p d s) p.length = lft p d s := rfl
        rw [e1, mkP_len]
        generalize hL : lft p d s = L at lb
        rw [mkP_congr (g' := fun j => if j < 0 then gr2 l p d s j else gr1 l p d s j) (fun j hj => by rw [if_pos hj, if_neg (by omega)])]
        suffices hh : Ev (fun k => impl_ShareGreen.l2 k (mkP p (fun j => if j < 0 then gr2 l p d s j else gr1 l p d s j)) (max (L - ((0 : Nat) : Int)) 0) (p.length : Int) ((0 : Nat) : Int)) (mkP p (gr2 l p d s), true) by
          rw [show max (L - ((0 : Nat) : Int)) 0 = L by omega] at hh; exact hh
        refine ev_for0 (F := fun k i => impl_ShareGreen.l2 k (mkP p (fun j => if j < i then gr2 l p d s j else gr1 l p d s j)) (max (L - (i : Int)) 0) (p.length : Int) (i : Int)) p.length (fun i hi ih => ?_) ?_
        · have b3 := h.shr i
          have b5 := leastG_bound l (rd_T92 p (i : Int)).f0
          have e3 : gr1 l p d s i = leastG l (rd_T92 p (i : Int)).f0 + shr p d s i := rfl
          have e4 : gr2 l p d s i = min (gr1 l p d s i + (if (i : Int) < L then 1 else 0)) 60 := by rw [← hL]; rfl
          have last : ∀ v, v = gr2 l p d s i → (mkP p (fun j => if j = i then v else (if j < i then gr2 l p d s j else gr1 l p d s j))) = mkP p (fun j => if j < i + 1 then gr2 l p d s j else gr1 l p d s j) := fun v hv => mkP_congr (fun j _ => by
            by_cases c : j = i
            · subst c; rw [if_pos rfl, if_pos (by omega), hv]
            · rw [if_neg c]
              by_cases c2 : j < i
              · rw [if_pos c2, if_pos (by omega)]
              · rw [if_neg c2, if_neg (by omega)])
          refine Ev.step (fun k => by rw [impl_ShareGreen.l2]) (ev_t (by omega) ?_)
          by_cases c : (i : Int) < L
          · rw [if_pos c] at e4
            refine ev_t (by omega) (ev_t (by omega) (ev_t (by rw [mkP_len]; omega) (ev_some ?_)))
            rw [w_succ hi (by omega), mkP_rd hi, Int.toNat_natCast]
            dsimp only
            rw [if_neg (Nat.lt_irrefl i), w64 (n := gr1 l p d s i + 1) (by omega) (by omega), mkP_set, mkP_rd hi]
            dsimp only
            rw [if_pos rfl, mkP_set, mkP_congr (g' := fun j => if j = i then mn (gr1 l p d s i + 1) 60 else (if j < i then gr2 l p d s j else gr1 l p d s j)) (fun j _ => by
              by_cases c : j = i
              · rw [if_pos c, if_pos c]
              · rw [if_neg c, if_neg c, if_neg c]), last _ (by rw [e4]; exact mn_eq _ _), w64 (n := max (L - (i : Int)) 0 - 1) (by omega) (by omega), show max (L - (i : Int)) 0 - 1 = max (L - ((i + 1 : Nat) : Int)) 0 by omega]
            exact ih
          · rw [if_neg c] at e4
            refine ev_f (by omega) (ev_t (by omega) (ev_t (by rw [mkP_len]; omega) ?_))
            rw [w_succ hi (by omega), mkP_rd hi, Int.toNat_natCast]
            dsimp only
            rw [if_neg (Nat.lt_irrefl i), mkP_set, last _ (by rw [e4, mn_eq]; omega), show max (L - (i : Int)) 0 = max (L - ((i + 1 : Nat) : Int)) 0 by omega]
            exact ih
        · refine Ev.step (fun k => by rw [impl_ShareGreen.l2]) (ev_f (by omega) (ev_now ?_))
          rw [mkP_congr (g' := gr2 l p d s) (fun j hj => if_pos hj)]
  · rw [shV_f (fun h => hD h.2), Bool.eq_false_iff.2 hD]
    exact it
end Go.Proofs.Ytdkmmefmhfbgkaa.U
