/- Do the stages cover the paths: the program's way and the reference's. -/
import Derived.Test.YtdkmmefmhfbgkaaFX00b
import Derived.Test.YtdkmmefmhfbgkaaFX00c
import Derived.Test.YtdkmmefmhfbgkaaUTogether
import Derived.Test.YtdkmmefmhfbgkaaUHas
set_option linter.unusedVariables false
set_option linter.unusedSimpArgs false
namespace Go.Proofs.Ytdkmmefmhfbgkaa.U
open Go.RowKit Go.Proofs.YtdkmmefmhfbgkaaW.PrintWords Go.Proofs.YtdkmmefmhfbgkaaW.PrintLast Go.Proofs.Ytdkmmefmhfbgkaa.P
/-- Some one of the first n stages has the path. -/
def cf (st : List (List Int)) (id : Int) : Nat → Bool
  | 0 => false
  | j + 1 => cf st id j || decide (id ∈ rd_L2 st (j : Int))
theorem cf_t {st : List (List Int)} {id : Int} {j : Nat} (h : cf st id j = true) : cf st id (j + 1) = true := by rw [cf, h, Bool.true_or]
theorem cf_f {st : List (List Int)} {id : Int} {j : Nat} (h : ¬ cf st id j = true) : cf st id (j + 1) = decide (id ∈ rd_L2 st (j : Int)) := by
  rw [cf, Bool.eq_false_iff.2 h, Bool.false_or]
theorem cf_iff (st : List (List Int)) (id : Int) : ∀ n, cf st id n = true ↔ ∃ j, j < n ∧ id ∈ rd_L2 st (j : Int)
  | 0 => by simp [cf]
  | n + 1 => by
    rw [cf, Bool.or_eq_true, cf_iff st id n, decide_eq_true_eq]
    constructor
    · rintro (⟨j, h1, h2⟩ | h)
      · exact ⟨j, by omega, h2⟩
      · exact ⟨n, by omega, h⟩
    · rintro ⟨j, h1, h2⟩
      by_cases e : j = n
      · exact .inr (e ▸ h2)
      · exact .inl ⟨j, by omega, h2⟩
theorem impl_isCovered_eq (st : List (List Int)) (id : Int) : impl_isCovered.f st id = some (cf st id st.length) := by
  unfold impl_isCovered.f
  congr 1
  by_cases h : ∃ j, j < st.length ∧ id ∈ rd_L2 st (j : Int)
  · rw [(cf_iff st id st.length).2 h]
    have hn : ¬ ∀ j, j < st.length → ¬ id ∈ rd_L2 st (j : Int) := fun hh => by
      obtain ⟨j, h1, h2⟩ := h
      exact hh j h1 h2
    obtain ⟨m, hm, h1, h2⟩ := first_fail st.length hn
    have h1 := Classical.not_not.1 h1
    rw [impl_isCovered.ix_hit id st 0 m hm (fun j hj => by
      have := h2 j hj
      rw [impl_isCovered.rd_ st j (by omega)] at this
      exact decide_eq_false this) (by
      rw [impl_isCovered.rd_ st m hm] at h1
      exact decide_eq_true h1)]
    exact decide_eq_true (by omega)
  · rw [Bool.eq_false_iff.2 (fun hh => h ((cf_iff st id st.length).1 hh))]
    rw [impl_isCovered.ix_miss id st 0 (fun j hj => decide_eq_false (fun hh => h ⟨j, hj, by rw [impl_isCovered.rd_ st j hj]; exact hh⟩))]
    exact decide_eq_false (by omega)
def cvT (l : List S89) (st : List (List Int)) (i : Nat) : Prop := togeth l (rd_L2 st (i : Int)) = true
def cvC (l : List S89) (st : List (List Int)) (i : Nat) : Prop := cf st (rd_T89 l (i : Int)).f0 st.length = true
noncomputable def cov (l : List S89) (st : List (List Int)) : Bool := bo (∀ i, i < st.length → cvT l st i) && (bo (∀ i, i < l.length → cvC l st i) && areP l)
theorem spec_covers (l : List S89) (st : List (List Int)) (h : l.length ≤ 1048576) (hs : st.length ≤ 1048576) (hx : ∀ i : Nat, i < st.length → (rd_L2 st (i : Int)).length ≤ 1048576) : Ev (fun k => spec_Covers.f k l st) (cov l st) := by
  unfold spec_Covers.f cov
  have hin : ∀ i : Nat, i < l.length → ∀ r, (cvC l st i → Ev (fun k => spec_Covers.l1 k l st ((i + 1 : Nat) : Int)) r) → (¬ cvC l st i → r = false) → Ev (fun k => spec_Covers.l1 k l st (i : Int)) r := by
    intro i hi r c1 c2
    refine Ev.step (fun k => by rw [spec_Covers.l1]) (ev_t (by omega) ?_)
    refine ev_for0 (F := fun k j => spec_Covers.l2 k l st (i : Int) (cf st (rd_T89 l (i : Int)).f0 j) (j : Int)) st.length (fun j hj ih => ?_) ?_
    · have hxj := hx j hj
      refine Ev.step (fun k => by rw [spec_Covers.l2]) (ev_t (by omega) ?_)
      rw [w_succ hj (by omega)]
      by_cases c : cf st (rd_T89 l (i : Int)).f0 j = true
      · rw [cf_t c] at ih
        exact ev_t c ih
      · rw [cf_f c] at ih
        refine ev_f c (ev_t (by omega) (ev_t (by omega) (ev_t (by omega) ?_)))
        exact Ev.bind (spec_has _ _ (by omega)) ih
    · refine Ev.step (fun k => by rw [spec_Covers.l2]) (ev_f (by omega) ?_)
      rw [w_succ hi (by omega)]
      by_cases c : cf st (rd_T89 l (i : Int)).f0 st.length = true
      · exact ev_t c (c1 c)
      · rw [c2 c]
        exact ev_f c (Ev.now _)
  refine ev_all (F := fun k i => spec_Covers.l0 k l st (i : Int)) (cvT l st) st.length (fun i hi hp r ih => ?_) (fun i hi hp => ?_) (fun _ => ?_)
  · have hxi := hx i hi
    refine Ev.step (fun k => by rw [spec_Covers.l0]) (ev_t (by omega) (ev_t (by omega) (Ev.bind (spec_isTogether l _ (by omega) (by omega)) ?_)))
    refine ev_t (show togeth l (rd_L2 st (i : Int)) = true from hp) ?_
    rw [w_succ hi (by omega)]
    exact ih
  · have hxi := hx i hi
    refine Ev.step (fun k => by rw [spec_Covers.l0]) (ev_t (by omega) (ev_t (by omega) (Ev.bind (spec_isTogether l _ (by omega) (by omega)) ?_)))
    exact ev_f hp (Ev.now _)
  · refine Ev.step (fun k => by rw [spec_Covers.l0]) (ev_f (by omega) ?_)
    refine ev_all (F := fun k i => spec_Covers.l1 k l st (i : Int)) (cvC l st) l.length (fun i hi hp r ih => hin i hi r (fun _ => ih) (fun hn => absurd hp hn)) (fun i hi hp => hin i hi false (fun hc => absurd hc hp) (fun _ => rfl)) (fun _ => ?_)
    refine Ev.step (fun k => by rw [spec_Covers.l1]) (ev_f (by omega) ?_)
    exact Ev.bind (spec_arePaths l (by omega)) (Ev.now _)
theorem impl_covers (l : List S89) (st : List (List Int)) (h : l.length ≤ 1048576) (hs : st.length ≤ 1048576) (hx : ∀ i : Nat, i < st.length → (rd_L2 st (i : Int)).length ≤ 1048576) : Ev (fun k => impl_Covers.f k l st) (cov l st) := by
  unfold impl_Covers.f
  refine Ev.bind (impl_arePaths l (by omega)) ?_
  cases hpp : areP l with
  | false => exact ev_f (by decide) (ev_now (by unfold cov; rw [hpp, Bool.and_false, Bool.and_false]))
  | true =>
  refine ev_t rfl ?_
  unfold cov
  rw [hpp]
  refine ev_all (F := fun k i => impl_Covers.l0 k l st st (st.length : Int) (i : Int)) (cvT l st) st.length (fun i hi hp r ih => ?_) (fun i hi hp => ?_) (fun _ => ?_)
  · have hxi := hx i hi
    refine Ev.step (fun k => by rw [impl_Covers.l0]) (ev_t (by omega) (ev_t (by omega) (ev_t (by omega) (Ev.bind (impl_isTogether l _ (by omega) (by omega)) ?_))))
    refine ev_t (show togeth l (rd_L2 st (i : Int)) = true from hp) ?_
    rw [w_succ hi (by omega)]
    exact ih
  · have hxi := hx i hi
    refine Ev.step (fun k => by rw [impl_Covers.l0]) (ev_t (by omega) (ev_t (by omega) (ev_t (by omega) (Ev.bind (impl_isTogether l _ (by omega) (by omega)) ?_))))
    exact ev_f hp (Ev.now _)
  · refine Ev.step (fun k => by rw [impl_Covers.l0]) (ev_f (by omega) ?_)
    refine ev_all (F := fun k i => impl_Covers.l1 k st l (l.length : Int) (i : Int)) (cvC l st) l.length (fun i hi hp r ih => ?_) (fun i hi hp => ?_) (fun _ => ?_)
    · refine Ev.step (fun k => by rw [impl_Covers.l1]) (ev_t (by omega) (ev_t (by omega) (ev_t (by omega) (ev_call (impl_isCovered_eq st _) ?_))))
      refine ev_t (show cf st (rd_T89 l (i : Int)).f0 st.length = true from hp) ?_
      rw [w_succ hi (by omega)]
      exact ih
    · refine Ev.step (fun k => by rw [impl_Covers.l1]) (ev_t (by omega) (ev_t (by omega) (ev_t (by omega) (ev_call (impl_isCovered_eq st _) ?_))))
      exact ev_f hp (Ev.now _)
    · refine Ev.step (fun k => by rw [impl_Covers.l1]) ?_
      exact ev_f (by omega) (Ev.now _)
end Go.Proofs.Ytdkmmefmhfbgkaa.U
