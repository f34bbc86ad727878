/- Green seconds of a cycle, how long one waits between them, and lights that are safe. -/
import Derived.Test.YtjgonpcajedkjaaFX00
import Derived.Test.YtjgonpcajedkjaaFX00b
import Derived.Test.YtjgonpcajedkjaaFX00d
import Derived.Test.YtjgonpcajedkjaaUTimes
import Derived.Test.YtjgonpcajedkjaaUNext
import Derived.Test.YtjgonpcajedkjaaUSafe
import Derived.Test.YtjgonpcajedkjaaUStage
import Derived.Test.YtjgonpcajedkjaaUHelp
set_option linter.unusedVariables false
set_option linter.unusedSimpArgs false
namespace Go.Proofs.Ytjgonpcajedkjaa.U
open Go.RowKit Go.Proofs.YtjgonpcajedkjaaW.PrintWords Go.Proofs.YtjgonpcajedkjaaW.PrintLast Go.Proofs.Ytjgonpcajedkjaa.P
/-- How many of the first k seconds, cycle after cycle, are green. -/
def gs (r : List Int) : Nat → Int
  | 0 => 0
  | k + 1 => if rd r (Int.tmod (k : Int) (r.length : Int)) = 1 then gs r k + 1 else gs r k
theorem gs_t {r : List Int} {k : Nat} (h : rd r (Int.tmod (k : Int) (r.length : Int)) = 1) : gs r (k + 1) = gs r k + 1 := by rw [gs, if_pos h]
theorem gs_f {r : List Int} {k : Nat} (h : ¬ rd r (Int.tmod (k : Int) (r.length : Int)) = 1) : gs r (k + 1) = gs r k := by rw [gs, if_neg h]
theorem gs_mono (r : List Int) (k : Nat) : ∀ d : Nat, gs r k ≤ gs r (k + d) ∧ gs r (k + d) ≤ gs r k + d
  | 0 => by simp
  | d + 1 => by
    have h1 := gs_mono r k d
    rw [show k + (d + 1) = k + d + 1 by omega]
    by_cases c : rd r (Int.tmod ((k + d : Nat) : Int) (r.length : Int)) = 1
    · rw [gs_t c]; omega
    · rw [gs_f c]; omega
theorem gs_first (r : List Int) : ∀ k, k ≤ r.length → gs r k = gcnt r k
  | 0, _ => rfl
  | k + 1, h => by
    have e : Int.tmod (k : Int) (r.length : Int) = (k : Int) := Int.tmod_eq_of_lt (by omega) (by omega)
    have h1 := gs_first r k (by omega)
    by_cases c : rd r (k : Int) = 1
    · rw [gs_t (by rw [e]; exact c), gcnt_t c, h1]
    · rw [gs_f (by rw [e]; exact c), gcnt_f c, h1]
theorem gs_per (r : List Int) : ∀ k, gs r (k + r.length) = gs r k + gcnt r r.length
  | 0 => by rw [Nat.zero_add, gs_first r r.length (Nat.le_refl _)]; simp [gs]
  | k + 1 => by
    have h1 := gs_per r k
    have e : Int.tmod ((k + r.length : Nat) : Int) (r.length : Int) = Int.tmod (k : Int) (r.length : Int) := by
      rw [Int.tmod_eq_emod_of_nonneg (by omega), Int.tmod_eq_emod_of_nonneg (by omega), Int.natCast_add, Int.add_emod_right]
    rw [show k + 1 + r.length = k + r.length + 1 by omega]
    by_cases c : rd r (Int.tmod (k : Int) (r.length : Int)) = 1
    · rw [gs_t (by rw [e]; exact c), gs_t c, h1]; omega
    · rw [gs_f (by rw [e]; exact c), gs_f c, h1]
theorem wn_gs (r : List Int) : ∀ k, gs r k = gs r (k - (wn r k).toNat)
  | 0 => rfl
  | k + 1 => by
    have h1 := wn_gs r k
    have h2 := wn_bound r k
    by_cases c : rd r (Int.tmod (k : Int) (r.length : Int)) = 1
    · rw [wn_t c]; rfl
    · rw [wn_f c, gs_f c, show k + 1 - (wn r k + 1).toNat = k - (wn r k).toNat by omega]; exact h1
theorem wn_le (r : List Int) (hg : 0 < gcnt r r.length) (k : Nat) : wn r k ≤ (r.length : Int) - gcnt r r.length := by
  have h1 := wn_gs r k
  have h2 := wn_bound r k
  have h3 := gs_per r (k - (wn r k).toNat)
  rcases Nat.lt_or_ge k (k - (wn r k).toNat + r.length) with h | h
  · have h4 := (gs_mono r k (k - (wn r k).toNat + r.length - k)).2
    rw [show k + (k - (wn r k).toNat + r.length - k) = k - (wn r k).toNat + r.length by omega] at h4
    omega
  · have h4 := (gs_mono r (k - (wn r k).toNat + r.length) (k - (k - (wn r k).toNat + r.length))).1
    rw [show k - (wn r k).toNat + r.length + (k - (k - (wn r k).toNat + r.length)) = k by omega] at h4
    omega
theorem waitV_le (r : List Int) (hg : 0 < gcnt r r.length) : waitV r ≤ (r.length : Int) - gcnt r r.length := by
  have gb := gcnt_bound r r.length
  have all : ∀ i, wb r i ≤ (r.length : Int) - gcnt r r.length := by
    intro i
    induction i with
    | zero => unfold wb; omega
    | succ i ih => have := wn_le r hg (i + 1); unfold wb; omega
  have := all (2 * r.length)
  unfold waitV; omega
theorem gcnt_ge (r : List Int) (a : Nat) : ∀ n : Nat, (∀ i : Nat, a ≤ i → i < a + n → rd r (i : Int) = 1) → gcnt r a + n ≤ gcnt r (a + n)
  | 0, _ => by simp
  | n + 1, h => by
    have h1 := gcnt_ge r a n (fun i h2 h3 => h i h2 (by omega))
    have h4 := h (a + n) (by omega) (by omega)
    rw [show a + (n + 1) = a + n + 1 by omega, gcnt_t h4]; omega
theorem gcnt_mono (r : List Int) (a : Nat) : ∀ n : Nat, gcnt r a ≤ gcnt r (a + n)
  | 0 => Int.le_refl _
  | n + 1 => by
    have h1 := gcnt_mono r a n
    rw [show a + (n + 1) = a + n + 1 by omega]
    by_cases c : rd r ((a + n : Nat) : Int) = 1
    · rw [gcnt_t c]; omega
    · rw [gcnt_f c]; exact h1
/-- The ids among the first n paths that show green. -/
def gids (l : List S50) (x : List Int) : Nat → List Int
  | 0 => []
  | i + 1 => if rd x (i : Int) = 1 then gids l x i ++ [(rd_T50 l (i : Int)).f0] else gids l x i
theorem gids_t {l : List S50} {x : List Int} {i : Nat} (h : rd x (i : Int) = 1) : gids l x (i + 1) = gids l x i ++ [(rd_T50 l (i : Int)).f0] := by rw [gids, if_pos h]
theorem gids_f {l : List S50} {x : List Int} {i : Nat} (h : ¬ rd x (i : Int) = 1) : gids l x (i + 1) = gids l x i := by rw [gids, if_neg h]
theorem gids_len (l : List S50) (x : List Int) : ∀ i, (gids l x i).length ≤ i
  | 0 => by simp [gids]
  | i + 1 => by
    have := gids_len l x i
    by_cases c : rd x (i : Int) = 1
    · rw [gids_t c, List.length_append]; simp; omega
    · rw [gids_f c]; omega
theorem gids_mem (l : List S50) (x : List Int) (z : Int) : ∀ n : Nat, z ∈ gids l x n ↔ ∃ i : Nat, i < n ∧ rd x (i : Int) = 1 ∧ (rd_T50 l (i : Int)).f0 = z
  | 0 => by simp [gids]
  | n + 1 => by
    have ih := gids_mem l x z n
    by_cases c : rd x (n : Int) = 1
    · rw [gids_t c, List.mem_append, ih, List.mem_singleton]
      constructor
      · rintro (⟨i, h1, h2⟩ | h)
        · exact ⟨i, by omega, h2⟩
        · exact ⟨n, by omega, c, h.symm⟩
      · rintro ⟨i, h1, h2, h3⟩
        rcases Nat.lt_or_ge i n with h4 | h4
        · exact .inl ⟨i, h4, h2, h3⟩
        · obtain rfl : i = n := by omega
          exact .inr h3.symm
    · rw [gids_f c, ih]
      constructor
      · rintro ⟨i, h1, h2⟩
        exact ⟨i, by omega, h2⟩
      · rintro ⟨i, h1, h2, h3⟩
        rcases Nat.lt_or_ge i n with h4 | h4
        · exact ⟨i, h4, h2, h3⟩
        · obtain rfl : i = n := by omega
          exact absurd h2 c
theorem laws_greens_val (l : List S50) (x : List Int) (h : x.length = l.length) (hl : l.length ≤ 1048576) : Ev (fun k => laws_greens.f k l x) (gids l x l.length) := by
  unfold laws_greens.f
  refine ev_for0 (F := fun k i => laws_greens.l0 k l x (gids l x i) (i : Int)) l.length (fun i hi ih => ?_) ?_
  · have h1 := gids_len l x i
    refine Ev.step (fun k => by rw [laws_greens.l0]) (ev_t (by omega) ?_)
    rw [decide_eq_true (show (i : Int) < (x.length : Int) by omega)]
    refine Ev.step (fun k => by rw [laws_greens.j1]) (ev_t rfl (ev_t (by omega) (ev_t (by omega) ?_)))
    rw [w_succ hi (by omega)]
    by_cases c : rd x (i : Int) = 1
    · rw [gids_t c] at ih
      exact ev_t c (ev_t (by omega) (ev_t (by omega) ih))
    · rw [gids_f c] at ih
      exact ev_f c ih
  · refine Ev.step (fun k => by rw [laws_greens.l0]) (ev_f (by omega) ?_)
    exact Ev.step (fun k => by rw [laws_greens.j1]) (ev_f (by decide) (Ev.now _))
theorem laws_within_val (a b : List Int) (ha : a.length ≤ 1048576) (hb : b.length ≤ 1048576) (h : ∀ z ∈ a, z ∈ b) : Ev (fun k => laws_within.f k a b) true := by
  unfold laws_within.f
  refine ev_for0 (F := fun k i => laws_within.l0 k a b (i : Int)) a.length (fun i hi ih => ?_) ?_
  · have hm : rd a (i : Int) ∈ b := h _ (by rw [rd_at a i hi]; exact List.getElem_mem hi)
    refine Ev.step (fun k => by rw [laws_within.l0]) (ev_t (by omega) (ev_t (by omega) (Ev.bind (laws_contains_eq b (rd a (i : Int)) (by omega)) (ev_dt hm ?_))))
    rw [w_succ hi (by omega)]
    exact ih
  · refine Ev.step (fun k => by rw [laws_within.l0]) ?_
    exact ev_f (by omega) (Ev.now _)
theorem laws_same_val (a : List Int) (ha : a.length ≤ 1048576) : Ev (fun k => laws_sameInts.f k a a) true := by
  unfold laws_sameInts.f
  refine ev_t rfl ?_
  refine ev_for0 (F := fun k i => laws_sameInts.l0 k a a (i : Int)) a.length (fun i hi ih => ?_) ?_
  · refine Ev.step (fun k => by rw [laws_sameInts.l0]) (ev_t (by omega) (ev_t (by omega) (ev_t (by omega) (ev_t rfl ?_))))
    rw [w_succ hi (by omega)]
    exact ih
  · refine Ev.step (fun k => by rw [laws_sameInts.l0]) ?_
    exact ev_f (by omega) (Ev.now _)
theorem ids_lt {l : List S50} (h : areP l = true) {i j : Nat} (hij : i < j) (hj : j < l.length) : (rd_T50 l (i : Int)).f0 < (rd_T50 l (j : Int)).f0 := by
  have far : ∀ d i : Nat, i + d + 1 < l.length → (rd_T50 l (i : Int)).f0 < (rd_T50 l ((i + d + 1 : Nat) : Int)).f0 := by
    have step : ∀ i : Nat, i + 1 < l.length → (rd_T50 l (i : Int)).f0 < (rd_T50 l ((i + 1 : Nat) : Int)).f0 := fun i hi => by
      have h3 := (areP_at h (i + 1) hi).2 (by omega)
      rw [show ((i + 1 : Nat) : Int) - 1 = (i : Int) by omega] at h3
      exact h3
    intro d
    induction d with
    | zero => exact fun i hi => step i hi
    | succ d ih => exact fun i hi => Int.lt_trans (ih i (by omega)) (step (i + d + 1) (by omega))
  have h2 := far (j - i - 1) i (by omega)
  rw [show i + (j - i - 1) + 1 = j by omega] at h2
  exact h2
theorem ix_self {l : List S50} (h : areP l = true) {i : Nat} (hi : i < l.length) : impl_FindPath.ix (rd_T50 l (i : Int)).f0 l 0 = (i : Int) := by
  rcases fp_cases (rd_T50 l (i : Int)).f0 l with ⟨m, h1, h2, _, e⟩ | ⟨h2, _⟩
  · rcases Nat.lt_trichotomy m i with c | c | c
    · have := ids_lt h c hi; omega
    · rw [e, c]
    · have := ids_lt h c h1; omega
  · exact absurd rfl (h2 i hi)
theorem pAt_self {l : List S50} (h : areP l = true) {i : Nat} (hi : i < l.length) : pAt l (rd_T50 l (i : Int)).f0 = rd_T50 l (i : Int) := by
  unfold pAt
  rw [ix_self h hi]
theorem tog_conf {l : List S50} {st : List Int} (h : togeth l st = true) {a b : Int} (ha : a ∈ st) (hb : b ∈ st) (hab : b < a) : conf (pAt l a) (pAt l b) = false := by
  have asc := asc_of h
  obtain ⟨i, hi, rfl⟩ := mem_rd.1 ha
  obtain ⟨j, hj, rfl⟩ := mem_rd.1 hb
  unfold togeth at h
  rw [Bool.and_eq_true] at h
  rcases Nat.lt_trichotomy j i with c | c | c
  · exact (bo_iff.1 h.1 i hi).2 j c
  · subst c; omega
  · have := asc i j c hj; omega
theorem lights_rd (l : List S50) (p : List S85) (a : Int) (n i : Nat) (h : i < n) : rd (lightsV l p a n) (i : Int) = laV l p a (rd_T50 l (i : Int)).f0 := by
  rw [rd_at _ i (by rw [lightsV_len]; exact h)]
  simp [lightsV]
theorem paV_part {l : List S50} {p : List S85} {a id id' : Int} (h : laV l p a id ≠ 0) (h' : laV l p a id' ≠ 0) : ∃ m : Nat, m < p.length ∧ plan l p = true ∧ id ∈ (rd_T85 p (m : Int)).f0 ∧ id' ∈ (rd_T85 p (m : Int)).f0 := by
  by_cases c : impl_FindPath.ix id l 0 < 0 ∨ (paV l p a).1 < 0
  · exact absurd (laV_0 c) h
  by_cases c' : impl_FindPath.ix id' l 0 < 0 ∨ (paV l p a).1 < 0
  · exact absurd (laV_0 c') h'
  rw [laV_1 c] at h
  rw [laV_1 c'] at h'
  have hin : inT l p a := Classical.byContradiction fun hh => c (.inr (by rw [paV_f hh]; decide))
  obtain ⟨m, y, hm, _, _, _, em⟩ := paV_at hin
  rw [em] at h h'
  exact ⟨m, hm, hin.1, Classical.byContradiction fun hh => h (lv_0 hh), Classical.byContradiction fun hh => h' (lv_0 hh)⟩
theorem lights_safe {l : List S50} {p : List S85} (hp : plan l p = true) (hP : areP l = true) (a : Int) : safeL l (lightsV l p a l.length) = true := by
  unfold safeL
  rw [if_pos ⟨hP, lightsV_len _ _ _ _⟩]
  refine bo_t (fun i hi => ⟨?_, fun j hj => ?_⟩)
  · unfold gIn
    rw [lights_rd _ _ _ _ _ hi]
    exact laV_bound _ _ _ _
  · unfold gFree
    rw [lights_rd _ _ _ _ _ hi, lights_rd _ _ _ _ _ (Nat.lt_trans hj hi)]
    by_cases z : laV l p a (rd_T50 l (i : Int)).f0 = 0
    · exact .inl z
    by_cases z' : laV l p a (rd_T50 l (j : Int)).f0 = 0
    · exact .inr (.inl z')
    obtain ⟨m, hm, _, h1, h2⟩ := paV_part z z'
    have t := (plan_at hp hm).2.1
    have c := tog_conf t h1 h2 (ids_lt hP hj hi)
    rw [pAt_self hP hi, pAt_self hP (Nat.lt_trans hj hi)] at c
    exact .inr (.inr c)
/-- The places of the lights that are not red. -/
def opn (y : List Int) (n : Nat) : List Nat := (List.range n).filter (fun k : Nat => decide (rd y (k : Int) ≠ 0))
def opens (l : List S50) (y : List Int) (n : Nat) : List Int := (opn y n).map (fun k : Nat => (rd_T50 l (k : Int)).f0)
theorem opens_f {l : List S50} {y : List Int} {n : Nat} (h : rd y (n : Int) = 0) : opens l y (n + 1) = opens l y n := by
  unfold opens opn
  rw [List.range_succ, List.filter_append]
  simp [h]
theorem opens_t {l : List S50} {y : List Int} {n : Nat} (h : ¬ rd y (n : Int) = 0) : opens l y (n + 1) = opens l y n ++ [(rd_T50 l (n : Int)).f0] := by
  unfold opens opn
  rw [List.range_succ, List.filter_append]
  simp [h]
theorem opens_len (l : List S50) (y : List Int) (n : Nat) : (opens l y n).length ≤ n := by
  unfold opens opn
  rw [List.length_map]
  exact Nat.le_trans (List.length_filter_le _ _) (by simp)
theorem opens_tog {l : List S50} {y : List Int} (h : safeL l y = true) : togeth l (opens l y l.length) = true := by
  unfold safeL at h
  by_cases c : areP l = true ∧ y.length = l.length
  · rw [if_pos c] at h
    have hs := bo_iff.1 h
    have hk : ∀ i (hi : i < (opn y l.length).length), (opn y l.length)[i] < l.length ∧ rd y (((opn y l.length)[i] : Nat) : Int) ≠ 0 := fun i hi => by
      have hm := List.getElem_mem hi
      unfold opn at hm
      rw [List.mem_filter, List.mem_range, decide_eq_true_eq] at hm
      exact hm
    have hlt : ∀ i j (hi : i < (opn y l.length).length) (hj : j < (opn y l.length).length), i < j → (opn y l.length)[i] < (opn y l.length)[j] := fun i j hi hj hij => by
      have hpw : (opn y l.length).Pairwise (· < ·) := List.Pairwise.filter _ List.pairwise_lt_range
      exact List.pairwise_iff_getElem.1 hpw i j hi hj hij
    have hl : (opens l y l.length).length = (opn y l.length).length := List.length_map ..
    have hr : ∀ i (hi : i < (opn y l.length).length), rd (opens l y l.length) (i : Int) = (rd_T50 l (((opn y l.length)[i] : Nat) : Int)).f0 := fun i hi => by
      rw [rd_at _ i (by rw [hl]; exact hi)]
      simp [opens]
    unfold togeth
    rw [c.1, Bool.and_true]
    refine bo_t (fun i hi => ⟨⟨?_, fun h0 => ?_⟩, fun j hj => ?_⟩)
    · rw [hl] at hi
      rw [hr i hi, ix_self c.1 (hk i hi).1]; omega
    · rw [hl] at hi
      rw [show (i : Int) - 1 = ((i - 1 : Nat) : Int) by omega, hr i hi, hr (i - 1) (by omega)]
      exact ids_lt c.1 (hlt (i - 1) i (by omega) hi (by omega)) (hk i hi).1
    · rw [hl] at hi
      unfold tFree
      rw [hr i hi, hr j (by omega), pAt_self c.1 (hk i hi).1, pAt_self c.1 (hk j (by omega)).1]
      rcases (hs _ (hk i hi).1).2 _ (hlt j i (by omega) hi hj) with z | z | z
      · exact absurd z (hk i hi).2
      · exact absurd z (hk j (by omega)).2
      · exact z
  · rw [if_neg c] at h
    exact absurd h (by decide)
theorem green_ge {l : List S50} {p : List S85} (hp : plan l p = true) {m : Nat} (hm : m < p.length) {id : Int} (hr : hasRow l p id) (hid : id ∈ (rd_T85 p (m : Int)).f0) : 5 ≤ greenV l p id := by
  have rl := rowV_len hr
  have pb := part_bound hp hm
  have cb := cyc_bound hp m (by omega)
  have cm := cyc_mono hp (p.length - (m + 1)) (m + 1) (by omega)
  rw [show m + 1 + (p.length - (m + 1)) = p.length by omega, cyc_succ] at cm
  have ce : longV l p (m : Int) = (rd_T85 p (m : Int)).f1 + clN l p (m : Int) := rfl
  have c0 : 0 ≤ clN l p (m : Int) := (clearB_bound l _ _).1
  have g1 := gcnt_ge (rowV l p id) (cyc l p m).toNat 5 (fun i h1 h2 => by
    have e : (i : Int) = cyc l p m + ((i : Int) - cyc l p m) := by omega
    rw [e, rowV_t hr, rowN_rd hp id (by omega) (by omega) p.length hm (Nat.le_refl _)]
    exact lv_1 hid (.inl (by omega)))
  have g2 := gcnt_mono (rowV l p id) ((cyc l p m).toNat + 5) ((rowV l p id).length - ((cyc l p m).toNat + 5))
  rw [show (cyc l p m).toNat + 5 + ((rowV l p id).length - ((cyc l p m).toNat + 5)) = (rowV l p id).length by omega] at g2
  have g3 := (gcnt_bound (rowV l p id) (cyc l p m).toNat).1
  unfold greenV
  omega
theorem in_stage {l : List S50} {p : List S85} (hp : plan l p = true) {k : Nat} (hk : k < l.length) : ∃ m : Nat, m < p.length ∧ (rd_T50 l (k : Int)).f0 ∈ (rd_T85 p (m : Int)).f0 := by
  have pl := plan_len hp
  rw [plan_t (by omega), Bool.and_eq_true] at hp
  have h2 := hp.2
  unfold cov at h2
  simp only [Bool.and_eq_true] at h2
  have h3 := bo_iff.1 h2.2.1 k hk
  unfold cvC at h3
  obtain ⟨j, h4, h5⟩ := (cf_iff _ _ _).1 h3
  rw [stgs_len] at h4
  rw [stgs_rd p j h4] at h5
  exact ⟨j, h4, h5⟩
theorem laV_next {l : List S50} {p : List S85} (hp : plan l p = true) {s : Int} (h0 : 0 ≤ s) (h1 : s + cyc l p p.length ≤ 1000000) : paV l p (s + cyc l p p.length) = paV l p s := by
  have pl := plan_len hp
  have cb := cyc_bound hp p.length (by omega)
  rw [paV_t (a := s) ⟨hp, h0, by omega⟩, paV_t (a := s + cyc l p p.length) ⟨hp, by omega, h1⟩]
  rw [Int.tmod_eq_emod_of_nonneg h0, Int.tmod_eq_emod_of_nonneg (by omega), Int.add_emod_right]
end Go.Proofs.Ytjgonpcajedkjaa.U
