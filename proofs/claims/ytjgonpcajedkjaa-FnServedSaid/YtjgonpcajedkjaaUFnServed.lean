/- FnServed, the pure side: whoever calls is served within the wait of the path, and so within the worst one. -/
import Derived.Test.YtjgonpcajedkjaaFX00
import Derived.Test.YtjgonpcajedkjaaFX00b
import Derived.Test.YtjgonpcajedkjaaFX00d
import Derived.Test.YtjgonpcajedkjaaUDraw9
import Derived.Test.YtjgonpcajedkjaaUGlow
import Derived.Test.YtjgonpcajedkjaaUWait
import Derived.Test.YtjgonpcajedkjaaArgs
set_option linter.unusedVariables false
set_option linter.unusedSimpArgs false
namespace Go.Proofs.Ytjgonpcajedkjaa.U
open Go.RowKit Go.Proofs.YtjgonpcajedkjaaW.PrintWords Go.Proofs.YtjgonpcajedkjaaW.PrintLast Go.Proofs.Ytjgonpcajedkjaa.P Go.Proofs.Ytjgonpcajedkjaa.Open
theorem ngI_first (r : List Int) (a : Int) : ∀ d i : Nat, ngI r a d i = -1 ∨ ∃ m : Nat, i ≤ m ∧ m < i + d ∧ ngI r a d i = a + (m : Int) ∧ rd r (Int.tmod (a + (m : Int)) (r.length : Int)) = 1 ∧ ∀ j : Nat, i ≤ j → j < m → ¬ rd r (Int.tmod (a + (j : Int)) (r.length : Int)) = 1
  | 0, i => .inl rfl
  | d + 1, i => by
    by_cases c : rd r (Int.tmod (a + (i : Int)) (r.length : Int)) = 1
    · exact .inr ⟨i, Nat.le_refl _, by omega, ngI_t c, c, fun j h1 h2 => by omega⟩
    · rw [ngI_f c]
      rcases ngI_first r a d (i + 1) with h | ⟨m, h1, h2, h3, h4, h5⟩
      · exact .inl h
      · refine .inr ⟨m, by omega, by omega, h3, h4, fun j h6 h7 => ?_⟩
        rcases Nat.lt_or_ge i j with h8 | h8
        · exact h5 j h8 h7
        · obtain rfl : i = j := by omega
          exact c
theorem ngI_finds (r : List Int) (a : Int) (h0 : 0 ≤ a) : ∀ d i m : Nat, i ≤ m → m < i + d → rd r (Int.tmod (a + (m : Int)) (r.length : Int)) = 1 → 0 ≤ ngI r a d i
  | 0, i, m, h1, h2, _ => by omega
  | d + 1, i, m, h1, h2, h3 => by
    by_cases c : rd r (Int.tmod (a + (i : Int)) (r.length : Int)) = 1
    · rw [ngI_t c]; omega
    · rw [ngI_f c]
      have hne : i ≠ m := fun e => c (by rw [e]; exact h3)
      exact ngI_finds r a h0 d (i + 1) m (by omega) (by omega) h3
theorem wn_run (r : List Int) (a : Nat) : ∀ n : Nat, (∀ j : Nat, j < n → ¬ rd r (Int.tmod ((a + j : Nat) : Int) (r.length : Int)) = 1) → (n : Int) ≤ wn r (a + n)
  | 0, _ => (wn_bound r a).1
  | n + 1, h => by
    have h1 := wn_run r a n (fun j hj => h j (by omega))
    rw [show a + (n + 1) = a + n + 1 by omega, wn_f (h n (by omega))]
    omega
theorem wb_ge (r : List Int) : ∀ m k : Nat, k ≤ m → wn r k ≤ wb r m
  | 0, k, h => by
    obtain rfl : k = 0 := by omega
    exact Int.le_refl _
  | m + 1, k, h => by
    unfold wb
    rcases Nat.lt_or_ge k (m + 1) with h1 | h1
    · have := wb_ge r m k (by omega); omega
    · obtain rfl : k = m + 1 := by omega
      omega
theorem gcnt_some (r : List Int) : ∀ n : Nat, 0 < gcnt r n → ∃ j : Nat, j < n ∧ rd r (j : Int) = 1
  | 0, h => by simp [gcnt] at h
  | n + 1, h => by
    by_cases c : rd r (n : Int) = 1
    · exact ⟨n, by omega, c⟩
    · rw [gcnt_f c] at h
      obtain ⟨j, h1, h2⟩ := gcnt_some r n h
      exact ⟨j, by omega, h2⟩
/-- Whoever has a row has green seconds in it. -/
theorem row_green {l : List S50} {p : List S85} {id : Int} (h : hasRow l p id) : ∃ j : Nat, j < (rowV l p id).length ∧ rd (rowV l p id) (j : Int) = 1 := by
  have fb := fp_bound id l
  have fi := fp_id h.2
  obtain ⟨k, hk⟩ : ∃ k : Nat, impl_FindPath.ix id l 0 = (k : Int) := ⟨(impl_FindPath.ix id l 0).toNat, by have := h.2; omega⟩
  rw [hk] at fi
  obtain ⟨m, hm, hid⟩ := in_stage h.1 (k := k) (by omega)
  rw [fi] at hid
  have g := green_ge h.1 hm h hid
  unfold greenV at g
  exact gcnt_some _ _ (by omega)
theorem ng_iff {l : List S50} {p : List S85} {id a : Int} : 0 ≤ ngV (rowV l p id) a ↔ hasRow l p id ∧ 0 ≤ a ∧ a ≤ 100000 := by
  constructor
  · intro h
    have hr : 0 ≤ a ∧ a ≤ 100000 := Classical.byContradiction fun c => by rw [ngV_f c] at h; omega
    refine ⟨Classical.byContradiction fun c => ?_, hr⟩
    rw [rowV_f c, ngV_t hr] at h
    exact absurd h (by decide : ¬ (0 : Int) ≤ -1)
  · rintro ⟨h, hr⟩
    rw [ngV_t hr]
    have rl := rowV_len h
    obtain ⟨j, hj, gj⟩ := row_green h
    have hn : (0 : Int) < ((rowV l p id).length : Int) := by omega
    have b1 := Int.emod_nonneg ((j : Int) - a) (show ((rowV l p id).length : Int) ≠ 0 by omega)
    have b2 := Int.emod_lt_of_pos ((j : Int) - a) hn
    refine ngI_finds _ a hr.1 _ 0 (((j : Int) - a) % ((rowV l p id).length : Int)).toNat (by omega) (by omega) ?_
    rw [Int.toNat_of_nonneg b1, Int.tmod_eq_emod_of_nonneg (by omega), Int.add_emod_emod, show a + ((j : Int) - a) = (j : Int) by omega, Int.emod_eq_of_lt (by omega) (by omega)]
    exact gj
theorem ng_wait {l : List S50} {p : List S85} {id a : Int} (h : 0 ≤ ngV (rowV l p id) a) : a ≤ ngV (rowV l p id) a ∧ ngV (rowV l p id) a - a ≤ waitV (rowV l p id) ∧ laV l p (ngV (rowV l p id) a) id = 1 := by
  obtain ⟨hr, h0, h1⟩ := ng_iff.1 h
  have rl := rowV_len hr
  rw [ngV_t ⟨h0, h1⟩] at h ⊢
  rcases ngI_first (rowV l p id) a (rowV l p id).length 0 with c | ⟨m, _, h3, h4, h5, h6⟩
  · rw [c] at h; omega
  · rw [h4]
    have hn : (0 : Int) < ((rowV l p id).length : Int) := by omega
    have b1 := Int.emod_nonneg a (show ((rowV l p id).length : Int) ≠ 0 by omega)
    have b2 := Int.emod_lt_of_pos a hn
    refine ⟨by omega, ?_, ?_⟩
    · have run := wn_run (rowV l p id) (a % ((rowV l p id).length : Int)).toNat m (fun j hj => by
        have := h6 j (by omega) hj
        rw [Int.tmod_eq_emod_of_nonneg (by omega)] at this ⊢
        rw [Int.natCast_add, Int.toNat_of_nonneg b1, Int.emod_add_emod]
        exact this)
      have w1 := wb_ge (rowV l p id) (2 * (rowV l p id).length) ((a % ((rowV l p id).length : Int)).toNat + m) (by omega)
      unfold waitV
      omega
    · rw [← rowV_rd hr (by omega) (by omega)]
      exact h5
theorem wwN_ge (l : List S50) (p : List S85) : ∀ n k : Nat, k < n → waitV (rowV l p (rd_T50 l (k : Int)).f0) ≤ wwN l p n
  | 0, k, h => by omega
  | n + 1, k, h => by
    unfold wwN
    rcases Nat.lt_or_ge k n with h1 | h1
    · have := wwN_ge l p n k h1; omega
    · obtain rfl : k = n := by omega
      omega
/-- All of the first i calls are served. -/
noncomputable def al (l : List S50) (p : List S85) (c : List S114) : Nat → Bool
  | 0 => true
  | i + 1 => if al l p c i = true then decide (sv l p c i ≥ 0) else false
theorem al_iff (l : List S50) (p : List S85) (c : List S114) : ∀ n : Nat, al l p c n = true ↔ ∀ j : Nat, j < n → 0 ≤ sv l p c j
  | 0 => by simp [al]
  | n + 1 => by
    have ih := al_iff l p c n
    unfold al
    by_cases h : al l p c n = true
    · rw [if_pos h, decide_eq_true_iff]
      constructor
      · intro h1 j hj
        rcases Nat.lt_or_ge j n with h2 | h2
        · exact ih.1 h j h2
        · obtain rfl : j = n := by omega
          exact h1
      · exact fun h1 => h1 n (by omega)
    · rw [if_neg h]
      exact ⟨fun hh => absurd hh (by decide), fun h1 => absurd (ih.2 (fun j hj => h1 j (by omega))) h⟩
theorem al_in {l : List S50} {p : List S85} (c : List S114) : al l p c c.length = inV l p c (wwN l p l.length) := by
  rw [Bool.eq_iff_iff, al_iff]
  unfold inV
  rw [Bool.and_true, bo_iff]
  constructor
  · intro h i hi
    have h1 := h i hi
    have h2 : 0 ≤ ngV (rowV l p (rd_T114 c (i : Int)).f0) (rd_T114 c (i : Int)).f1 := h1
    obtain ⟨q1, q2, _⟩ := ng_wait h2
    obtain ⟨hr, r1, r2⟩ := ng_iff.1 h2
    have fb := fp_bound (rd_T114 c (i : Int)).f0 l
    have fi := fp_id hr.2
    obtain ⟨k, hk⟩ : ∃ k : Nat, impl_FindPath.ix (rd_T114 c (i : Int)).f0 l 0 = (k : Int) := ⟨(impl_FindPath.ix (rd_T114 c (i : Int)).f0 l 0).toNat, by have := hr.2; omega⟩
    rw [hk] at fi
    have g := wwN_ge l p l.length k (by omega)
    rw [fi] at g
    have sb := sv_bound l p c i
    have e : sv l p c i = ngV (rowV l p (rd_T114 c (i : Int)).f0) (rd_T114 c (i : Int)).f1 := rfl
    refine ⟨h1, ?_⟩
    rw [w64 (n := sv l p c i - _) (by omega) (by omega)]
    omega
  · exact fun h j hj => (h j hj).1
theorem calls_ex (b : List Int) (i h : Int) (h0 : 0 ≤ i) (hl : b.length ≤ 1048576) : ∃ c i' h', Ev (fun k => spec_l13Calls.f k b i h) (c, i', h') ∧ c.length ≤ 6 ∧ 0 ≤ i' := by
  have run : ∀ d : Nat, ∀ (x : List S114) (i h : Int), x.length + d ≤ 6 → 0 ≤ i → ∃ c i' h', Ev (fun k => spec_l13Calls.l0 k x (d : Int) b i h) (c, i', h') ∧ c.length ≤ 6 ∧ 0 ≤ i' := by
    intro d
    induction d with
    | zero =>
      intro x i h hx hi
      by_cases n : (x.length : Int) > 0
      · obtain ⟨t, i1, h1, e1, j1⟩ := l1Once_ex b i h 8 hi hl (by decide) (by decide)
        cases t with
        | true =>
          obtain ⟨v, i2, h2, e2, _, j2⟩ := l1Int_ex b i1 h1 [(-1), 100000, 100001] j1 hl (by decide) (by decide)
          refine ⟨_, i2, h2, Ev.step (fun k => by rw [spec_l13Calls.l0]) (ev_f (by omega) (ev_t n (ev_call e1 (ev_t rfl (ev_call e2 (ev_t (show 0 < (x.length : Int) from n) (Ev.now _))))))), ?_, j2⟩
          rw [List.length_set]; omega
        | false => exact ⟨x, i1, h1, Ev.step (fun k => by rw [spec_l13Calls.l0]) (ev_f (by omega) (ev_t n (ev_call e1 (ev_f (fun hh => Bool.noConfusion hh) (Ev.now _))))), by omega, j1⟩
      · exact ⟨x, i, h, Ev.step (fun k => by rw [spec_l13Calls.l0]) (ev_f (by omega) (ev_f n (Ev.now _))), by omega, hi⟩
    | succ d ih =>
      intro x i h hx hi
      obtain ⟨v, i1, h1, e1, _, _, j1⟩ := l1Below_ex b i h 7 hi hl (by decide) (by decide)
      obtain ⟨u, i2, h2, e2, _, _, j2⟩ := l1Below_ex b i1 h1 80 j1 hl (by decide) (by decide)
      obtain ⟨c, i3, h3, e3, r1, r2⟩ := ih (x ++ [⟨wrap64 (1 + v), u⟩]) i2 h2 (by simp; omega) j2
      refine ⟨c, i3, h3, Ev.step (fun k => by rw [spec_l13Calls.l0]) ?_, r1, r2⟩
      refine ev_t (by omega) (ev_call e1 (ev_call e2 (ev_t (by omega) ?_)))
      rw [show wrap64 (((d + 1 : Nat) : Int) - 1) = (d : Int) by rw [w64 (by omega) (by omega)]; omega]
      exact e3
  unfold spec_l13Calls.f
  obtain ⟨x, i1, h1, e1, x0, x1, j1⟩ := l1Below_ex b i h 6 h0 hl (by decide) (by decide)
  obtain ⟨m, rfl⟩ := Int.eq_ofNat_of_zero_le x0
  obtain ⟨c, i2, h2, e2, r1, r2⟩ := run m [] i1 h1 (by simp; omega) j1
  exact ⟨c, i2, h2, ev_call e1 e2, r1, r2⟩
theorem drawServedAt_ex (b : List Int) (hl : b.length ≤ 1048576) : ∃ l p c, Ev (fun k => spec_DrawServedAt.f k b) (l, p, c) ∧ l.length ≤ 7 ∧ pSh9 p ∧ c.length ≤ 6 := by
  unfold spec_DrawServedAt.f
  obtain ⟨h, e0⟩ := l1New_ex b hl
  obtain ⟨l, p, i1, h1, e1, r1, r2, j1⟩ := l8Any_ex b 0 h (by decide) hl
  obtain ⟨c, i2, h2, e2, r3, _⟩ := calls_ex b i1 h1 j1 hl
  exact ⟨l, p, c, Ev.bind e0 (Ev.bind e1 (Ev.bind e2 (Ev.now _))), r1, r2, r3⟩
theorem drawWaitingAt_ex (b : List Int) (hl : b.length ≤ 1048576) : ∃ l p c s, Ev (fun k => spec_DrawWaitingAt.f k b) (l, p, c, s) ∧ l.length ≤ 7 ∧ pSh9 p ∧ c.length ≤ 6 ∧ 0 ≤ s := by
  unfold spec_DrawWaitingAt.f
  obtain ⟨l, p, c, e, r1, r2, r3⟩ := drawServedAt_ex b hl
  obtain ⟨h, e0⟩ := l1New_ex b hl
  obtain ⟨s, i2, h2, e2, s0, _, _⟩ := l1Below_ex b 0 h 90 (by decide) hl (by decide) (by decide)
  exact ⟨l, p, c, s, Ev.bind e (Ev.bind e0 (ev_call e2 (Ev.now _))), r1, r2, r3, s0⟩
theorem drawNextGreen_ex (b : List Int) (hl : b.length ≤ 1048576) : ∃ l p id f, Ev (fun k => spec_DrawNextGreen.f k b) (l, p, id, f) ∧ l.length ≤ 7 ∧ pSh9 p := by
  obtain ⟨h, e0⟩ := l1New_ex b hl
  obtain ⟨l, p, i1, h1, e1, r1, r2, j1⟩ := l8Any_ex b 0 h (by decide) hl
  obtain ⟨x, i2, h2, e2, _, _, j2⟩ := l1Below_ex b i1 h1 9 j1 hl (by decide) (by decide)
  obtain ⟨y, i3, h3, e3, _, j3⟩ := l1Int_ex b i2 h2 [0, 7, 50, 100000, 100001, (-1)] j2 hl (by decide) (by decide)
  obtain ⟨z, i4, h4, e4, _, j4⟩ := l1Int_ex b i3 h3 [0, 10, 60, 1000, 1001, (-1)] j3 hl (by decide) (by decide)
  refine ⟨l, p, x, y, ?_, r1, r2⟩
  unfold spec_DrawNextGreen.f spec_DrawOpenIn.f
  exact Ev.bind (Ev.bind e0 (Ev.bind e1 (ev_call e2 (ev_call e3 (ev_call e4 (Ev.now _)))))) (Ev.now _)
theorem wSet_id (l : List S50) (p : List S85) (c : List S114) (s : Int) (hs : 0 ≤ s) (z : Int) : ∀ n, z ∈ wSet l p c s n → 0 ≤ impl_FindPath.ix z l 0
  | 0, h => by simp [wSet] at h
  | n + 1, h => by
    by_cases c1 : wcon l p c s n
    · rw [wSet_t c1, mem_iput] at h
      rcases h with h | h
      · rw [h]
        have h2 := c1.2
        exact (ng_iff.1 (show 0 ≤ ngV (rowV l p (rd_T114 c (n : Int)).f0) (rd_T114 c (n : Int)).f1 from Int.le_trans hs (Int.le_of_lt h2))).1.2
      · exact wSet_id l p c s hs z n h
    · rw [wSet_f c1] at h
      exact wSet_id l p c s hs z n h
theorem FnServed : ∀ (x0 : List Int), (okL okU) x0 → ∃ k, laws_FnServed.f k x0 = some true := by
  intro c _
  refine ev_rounds ?_
  unfold laws_FnServed.f
  by_cases hbig : (c.length : Int) > 1048576
  · exact ev_call (show laws_big.f c = some true from congrArg some (decide_eq_true hbig)) (ev_t rfl (Ev.now _))
  refine ev_call (show laws_big.f c = some false from congrArg some (decide_eq_false hbig)) (ev_f (by decide) ?_)
  obtain ⟨l, p, id, f, e1, hl, hp⟩ := drawNextGreen_ex c (by omega)
  obtain ⟨a, q, ca, e2, ha, hq, hca⟩ := drawServedAt_ex c (by omega)
  obtain ⟨u, v, cu, s, e3, hu, hv, hcu, hs⟩ := drawWaitingAt_ex c (by omega)
  have w1 : PW l p := hp.pw (by omega)
  have w2 : PW a q := hq.pw (by omega)
  have w3 : PW u v := hv.pw (by omega)
  have tail3 : Ev (fun k => laws_FnServed.j3 k c false) true := by
    have asc := wSet_asc u v cu s cu.length
    have len := wSet_len u v cu s cu.length
    have mem := fun z => wSet_id u v cu s hs z cu.length
    refine Ev.step (fun k => by rw [laws_FnServed.j3]) (ev_f (by decide) (Ev.bind e3 (Ev.bind (impl_waitingAt w3 cu (by omega) s) ?_)))
    generalize wSet u v cu s cu.length = x at asc len mem
    refine ev_for0 (F := fun k i => laws_FnServed.l1 k u x (i : Int)) x.length (fun i hi ih => ?_) ?_
    · have hm := mem (rd x (i : Int)) (by rw [rd_at x i hi]; exact List.getElem_mem hi)
      refine Ev.step (fun k => by rw [laws_FnServed.l1]) (ev_t (by omega) (ev_t (by omega) (ev_call (impl_findPath u _) ?_)))
      refine ev_f (by omega) ?_
      rw [w_succ hi (by omega)]
      exact ih
    · refine Ev.step (fun k => by rw [laws_FnServed.l1]) (ev_f (by omega) ?_)
      exact Ev.bind (laws_ascends_eq x (by omega) (fun i hi => asc i (i + 1) (by omega) hi)) (Ev.now _)
  have tail1 : Ev (fun k => laws_FnServed.j1 k c false) true := by
    have sl := svN_len a q ca ca.length
    refine Ev.step (fun k => by rw [laws_FnServed.j1]) (ev_f (by decide) (Ev.bind e2 (Ev.bind (impl_servedAt w2 ca (by omega)) ?_)))
    refine ev_for0 (F := fun k i => laws_FnServed.l0 k c a q ca (svN a q ca ca.length) (al a q ca i) (i : Int)) ca.length (fun i hi ih => ?_) ?_
    · refine Ev.step (fun k => by rw [laws_FnServed.l0]) (ev_t (by omega) ?_)
      rw [w_succ hi (by omega)]
      unfold al at ih
      by_cases t : al a q ca i = true
      · rw [if_pos t] at ih
        refine ev_t t (ev_t (by omega) (ev_t (by omega) ?_))
        rw [svN_rd a q ca ca.length i hi]
        exact ih
      · rw [if_neg t] at ih
        exact ev_f t ih
    · refine Ev.step (fun k => by rw [laws_FnServed.l0]) (ev_f (by omega) (ev_t (by omega) (Ev.bind (impl_worstWait w2) (Ev.bind (impl_isWithin w2 ca (by omega) _) ?_))))
      rw [al_in ca, show (inV a q ca (wwN a q a.length) != inV a q ca (wwN a q a.length)) = false by simp]
      exact tail3
  have tail0 : Ev (fun k => laws_FnServed.j0 k c l p id f (ngV (rowV l p id) f) false) true := by
    have iff_ := @ng_iff l p id f
    refine Ev.step (fun k => by rw [laws_FnServed.j0]) (ev_f (by decide) (Ev.bind (impl_isPlan l p w1.hl w1.hp w1.hx) ?_))
    by_cases h : 0 ≤ ngV (rowV l p id) f
    · obtain ⟨hr, f0, f1⟩ := iff_.1 h
      refine ev_t hr.1 (ev_call (impl_findPath l id) (ev_t hr.2 (ev_t f0 ?_)))
      rw [decide_eq_true (show ngV (rowV l p id) f ≥ 0 from h), decide_eq_true f1]
      exact tail1
    · rw [decide_eq_false (show ¬ ngV (rowV l p id) f ≥ 0 from h)]
      refine ev_ite (fun c1 => ev_call (impl_findPath l id) (ev_ite (fun c2 => ev_ite (fun c3 => ?_) (fun _ => tail1)) (fun _ => tail1))) (fun _ => tail1)
      rw [decide_eq_false (fun c4 => h (iff_.2 ⟨⟨c1, c2⟩, c3, c4⟩))]
      exact tail1
  refine Ev.bind e1 (Ev.bind (impl_nextGreen w1 id f) ?_)
  by_cases h : ngV (rowV l p id) f ≥ 0
  · obtain ⟨q1, q2, q3⟩ := ng_wait h
    have nb := ngV_bound (rowV l p id) f (rowV_le l p id)
    have fb := (ng_iff.1 h).2
    refine ev_t h (ev_f (show ¬ ngV (rowV l p id) f < f by omega) (Ev.bind (impl_waitOf w1 id) ?_))
    rw [w64 (n := ngV (rowV l p id) f - f) (by omega) (by omega)]
    refine ev_f (show ¬ (ngV (rowV l p id) f - f > waitV (rowV l p id)) by omega) ?_
    refine Ev.bind (impl_lightAt w1 _ id) ?_
    rw [q3]
    exact tail0
  · exact ev_f h tail0
end Go.Proofs.Ytjgonpcajedkjaa.U
