/- The plan for paths: the program's way and the reference's. -/
import Derived.Test.YtjgonpcajedkjaaFX00
import Derived.Test.YtjgonpcajedkjaaFX00c
import Derived.Test.YtjgonpcajedkjaaFX00d
import Derived.Test.YtjgonpcajedkjaaUStage
import Derived.Test.YtjgonpcajedkjaaUCovers
import Derived.Test.YtjgonpcajedkjaaUPlan
set_option linter.unusedVariables false
set_option linter.unusedSimpArgs false
namespace Go.Proofs.Ytjgonpcajedkjaa.U
open Go.RowKit Go.Proofs.YtjgonpcajedkjaaW.PrintWords Go.Proofs.YtjgonpcajedkjaaW.PrintLast Go.Proofs.Ytjgonpcajedkjaa.P
theorem ipos_drop (a : Int) (s : List Int) (x : Int) : x ∈ iins a s ↔ x = a ∨ x ∈ s := by
  unfold iins
  rw [List.mem_append, List.mem_append, List.mem_singleton]
  have h := List.take_append_drop (ipos a s) s
  constructor
  · rintro ((h1 | h1) | h1)
    · exact .inr (List.mem_of_mem_take h1)
    · exact .inl h1
    · exact .inr (List.mem_of_mem_drop h1)
  · rintro (h1 | h1)
    · exact .inl (.inr h1)
    · rw [← h, List.mem_append] at h1
      rcases h1 with h1 | h1
      · exact .inl (.inl h1)
      · exact .inr h1
theorem mem_pv (a : Int) (s : List Int) (x : Int) : x ∈ pv a s ↔ x = a ∨ x ∈ s := by
  unfold pv
  split
  · rename_i h
    have h1 : a ∈ s := mem_rd.2 ⟨_, h.1, h.2⟩
    exact ⟨fun h2 => .inr h2, fun h2 => h2.elim (fun e => e ▸ h1) id⟩
  · exact ipos_drop a s x
def covd (st : List (List Int)) (x : Int) : Prop := ∃ s ∈ st, x ∈ s
/-- The cover behind the first i paths. -/
noncomputable def cvs (l : List S50) : Nat → List (List Int)
  | 0 => []
  | i + 1 => if bo (covd (cvs l i) (rd_T50 l (i : Int)).f0) = true then cvs l i else cvs l i ++ [addV l [(rd_T50 l (i : Int)).f0]]
theorem cvs_t {l : List S50} {i : Nat} (h : covd (cvs l i) (rd_T50 l (i : Int)).f0) : cvs l (i + 1) = cvs l i := by rw [cvs, if_pos (bo_t h)]
theorem cvs_f {l : List S50} {i : Nat} (h : ¬ covd (cvs l i) (rd_T50 l (i : Int)).f0) : cvs l (i + 1) = cvs l i ++ [addV l [(rd_T50 l (i : Int)).f0]] := by rw [cvs, if_neg (by rw [bo_f h]; decide)]
theorem cvs_len (l : List S50) : ∀ i, (cvs l i).length ≤ i ∧ ∀ s ∈ cvs l i, s.length ≤ l.length + 1
  | 0 => by simp [cvs]
  | i + 1 => by
    obtain ⟨h1, h2⟩ := cvs_len l i
    by_cases c : covd (cvs l i) (rd_T50 l (i : Int)).f0
    · rw [cvs_t c]
      exact ⟨by omega, h2⟩
    · rw [cvs_f c]
      refine ⟨by simp; omega, fun s hs => ?_⟩
      rcases List.mem_append.1 hs with h3 | h3
      · exact h2 s h3
      · rw [List.mem_singleton.1 h3]
        have h4 := addV_len l [(rd_T50 l (i : Int)).f0]
        rw [List.length_singleton] at h4
        omega
theorem covd_snoc (st : List (List Int)) (s : List Int) (x : Int) : covd (st ++ [s]) x ↔ covd st x ∨ x ∈ s := by
  unfold covd
  constructor
  · rintro ⟨t, h1, h2⟩
    rcases List.mem_append.1 h1 with h3 | h3
    · exact .inl ⟨t, h3, h2⟩
    · rw [List.mem_singleton.1 h3] at h2
      exact .inr h2
  · rintro (⟨t, h1, h2⟩ | h)
    · exact ⟨t, List.mem_append.2 (.inl h1), h2⟩
    · exact ⟨s, List.mem_append.2 (.inr (List.mem_singleton.2 rfl)), h⟩
noncomputable def covV (l : List S50) : List (List Int) := if areP l = true then cvs l l.length else []
theorem covV_len (l : List S50) : (covV l).length ≤ 12 ∧ ∀ s ∈ covV l, s.length ≤ 13 := by
  unfold covV
  split
  · rename_i h
    have h1 := areP_len h
    obtain ⟨h2, h3⟩ := cvs_len l l.length
    exact ⟨by omega, fun s hs => by have := h3 s hs; omega⟩
  · simp
theorem spec_coverOf (l : List S50) (h : l.length ≤ 1048576) : Ev (fun k => spec_CoverOf.f k l) (covV l) := by
  unfold spec_CoverOf.f
  have stop : ∀ x d i, Ev (fun k => spec_CoverOf.j1 k l x d i false) x := fun x d i => Ev.step (fun k => by rw [spec_CoverOf.j1]) (ev_f (by decide) (Ev.now _))
  have ap := spec_arePaths l (by omega)
  unfold covV
  cases ha : areP l with
  | false =>
    rw [ha] at ap
    rw [if_neg (by decide)]
    exact Ev.step (fun k => by rw [spec_CoverOf.l0]) (ev_ite (fun _ => Ev.bind ap (stop _ _ _)) (fun _ => stop _ _ _))
  | true =>
    rw [ha] at ap
    rw [if_pos rfl]
    have h12 := areP_len ha
    have inner : ∀ (s : List Int) (x : List (List Int)) (i : Int) (v : List (List Int)), s.length ≤ 13 → ∀ e n : Nat, n + e = s.length → ∀ d : List Int, d.length + e ≤ 4000 → (∀ d' : List Int, d'.length ≤ d.length + e → (∀ y, y ∈ d' ↔ y ∈ d ∨ y ∈ s.drop n) → Ev (fun k => spec_CoverOf.l0 k l x d' (wrap64 (i + 1))) v) → Ev (fun k => spec_CoverOf.l1 k l x d i s (n : Int)) v := by
      intro s x i v hs e
      induction e with
      | zero =>
        intro n hn d hd hk
        exact Ev.step (fun k => by rw [spec_CoverOf.l1]) (ev_f (by omega) (hk d (by omega) (fun y => by rw [List.drop_of_length_le (by omega)]; simp)))
      | succ e ih =>
        intro n hn d hd hk
        have hp := pv_len (rd s (n : Int)) d
        refine Ev.step (fun k => by rw [spec_CoverOf.l1]) (ev_t (by omega) (ev_t (by omega) (Ev.bind (spec_put0 d _ (by omega)) ?_)))
        rw [w_succ (n := s.length) (by omega) (by omega)]
        refine ih (n + 1) (by omega) _ (by omega) (fun d' h1 h2 => hk d' (by omega) (fun y => ?_))
        rw [h2 y, mem_pv, List.drop_eq_getElem_cons (show n < s.length by omega), List.mem_cons, rd_at s n (by omega)]
        constructor
        · rintro ((h3 | h3) | h3)
          · exact .inr (.inl h3)
          · exact .inl h3
          · exact .inr (.inr h3)
        · rintro (h3 | h3 | h3)
          · exact .inl (.inr h3)
          · exact .inl (.inl h3)
          · exact .inr h3
    have run : ∀ e i : Nat, i + e = l.length → ∀ d : List Int, d.length ≤ i * 13 → (∀ y, y ∈ d ↔ covd (cvs l i) y) → Ev (fun k => spec_CoverOf.l0 k l (cvs l i) d (i : Int)) (cvs l l.length) := by
      intro e
      induction e with
      | zero =>
        intro i hi d hd hm
        obtain rfl : i = l.length := by omega
        exact Ev.step (fun k => by rw [spec_CoverOf.l0]) (ev_f (by omega) (stop _ _ _))
      | succ e ih =>
        intro i hi d hd hm
        obtain ⟨hl1, hl2⟩ := cvs_len l i
        refine Ev.step (fun k => by rw [spec_CoverOf.l0]) (ev_t (by omega) (Ev.bind ap ?_))
        refine Ev.step (fun k => by rw [spec_CoverOf.j1]) (ev_t rfl (ev_t (by omega) (ev_t (by omega) (Ev.bind (spec_has d _ (by omega)) ?_))))
        by_cases c : (rd_T50 l (i : Int)).f0 ∈ d
        · refine ev_dt c ?_
          rw [w_succ (i := i) (n := l.length) (by omega) (by omega)]
          have h1 := ih (i + 1) (by omega) d (by omega)
          rw [cvs_t ((hm _).1 c)] at h1
          exact h1 hm
        · refine ev_df c (Ev.bind (spec_addTo l [(rd_T50 l (i : Int)).f0] (by omega) (by simp)) ?_)
          have hl3 := addV_len l [(rd_T50 l (i : Int)).f0]
          rw [List.length_singleton] at hl3
          refine ev_t (by omega) ?_
          refine inner (addV l [(rd_T50 l (i : Int)).f0]) _ (i : Int) _ (by omega) (addV l [(rd_T50 l (i : Int)).f0]).length 0 (by omega) d (by omega) (fun d' h1 h2 => ?_)
          rw [w_succ (i := i) (n := l.length) (by omega) (by omega)]
          have h3 := ih (i + 1) (by omega) d' (by omega)
          rw [cvs_f (fun hc => c ((hm _).2 hc))] at h3
          exact h3 (fun y => by rw [h2 y, covd_snoc, hm y, List.drop_zero])
    exact run l.length 0 (by omega) [] (by simp) (fun y => by simp [covd, cvs])
theorem cf_covd (st : List (List Int)) (x : Int) : cf st x st.length = true ↔ covd st x := by
  rw [cf_iff]
  unfold covd
  constructor
  · rintro ⟨j, h1, h2⟩
    rw [impl_isCovered.rd_ st j h1] at h2
    exact ⟨st[j], List.getElem_mem h1, h2⟩
  · rintro ⟨s, h1, h2⟩
    obtain ⟨j, h3, rfl⟩ := List.getElem_of_mem h1
    exact ⟨j, h3, by rw [impl_isCovered.rd_ st j h3]; exact h2⟩
theorem impl_coverOf (l : List S50) (h : l.length ≤ 1048576) : Ev (fun k => impl_CoverOf.f k l) (covV l) := by
  unfold impl_CoverOf.f
  refine ev_call rfl (Ev.bind (impl_arePaths l (by omega)) ?_)
  unfold covV
  cases ha : areP l with
  | false => exact ev_f (by decide) (ev_now (if_neg (by decide)).symm)
  | true =>
    refine ev_t rfl ?_
    rw [if_pos rfl]
    have h12 := areP_len ha
    refine ev_for0 (F := fun k i => impl_CoverOf.l0 k l (cvs l i) l (l.length : Int) (i : Int)) l.length (fun i hi ih => ?_) (Ev.step (fun k => by rw [impl_CoverOf.l0]) (ev_f (by omega) (Ev.now _)))
    obtain ⟨hl1, hl2⟩ := cvs_len l i
    refine Ev.step (fun k => by rw [impl_CoverOf.l0]) (ev_t (by omega) (ev_t (by omega) (ev_t (by omega) (ev_call (impl_isCovered_eq (cvs l i) _) ?_))))
    rw [w_succ hi (by omega)]
    by_cases c : covd (cvs l i) (rd_T50 l (i : Int)).f0
    · rw [cvs_t c] at ih
      exact ev_t ((cf_covd _ _).2 c) ih
    · rw [cvs_f c] at ih
      refine ev_f (fun hc => c ((cf_covd _ _).1 hc)) (Ev.bind (impl_addTo l [(rd_T50 l (i : Int)).f0] (by omega) (by simp)) ?_)
      exact ev_t (by omega) ih
noncomputable def prt (l : List S50) (s : List Int) : S85 := ⟨s, leastG l s⟩
noncomputable def planV (l : List S50) : List S85 := if plan l ((covV l).map (prt l)) = true then (covV l).map (prt l) else []
theorem planV_len (l : List S50) : (planV l).length ≤ 12 ∧ ∀ x ∈ planV l, x.f0.length ≤ 13 := by
  obtain ⟨h1, h2⟩ := covV_len l
  unfold planV
  split
  · refine ⟨by rw [List.length_map]; exact h1, fun x hx => ?_⟩
    obtain ⟨s, hs, rfl⟩ := List.mem_map.1 hx
    exact h2 s hs
  · simp
theorem parts_len (l : List S50) : ∀ i : Nat, i < ((covV l).map (prt l)).length → (rd_T85 ((covV l).map (prt l)) (i : Int)).f0.length ≤ 1048576 := by
  intro i hi
  obtain ⟨h1, h2⟩ := covV_len l
  rw [rd85 _ i hi, List.getElem_map]
  have h3 := h2 _ (List.getElem_mem (show i < (covV l).length by rw [List.length_map] at hi; exact hi))
  show ((covV l)[i]'(by rw [List.length_map] at hi; exact hi)).length ≤ 1048576
  omega
theorem cov_rd (st : List (List Int)) (i : Nat) (h : i < st.length) : rd_L4 st (i : Int) = st[i] := by
  unfold rd_L4; simp [List.getD_eq_getElem?_getD, List.getElem?_eq_getElem h]
theorem take_prt (l : List S50) (st : List (List Int)) (i : Nat) (h : i < st.length) : (st.take (i + 1)).map (prt l) = (st.take i).map (prt l) ++ [⟨rd_L4 st (i : Int), leastG l (rd_L4 st (i : Int))⟩] := by
  rw [List.take_succ_eq_append_getElem h, List.map_append, cov_rd st i h]
  rfl
theorem spec_planFor (l : List S50) (h : l.length ≤ 1048576) : Ev (fun k => spec_PlanFor.f k l) (planV l) := by
  unfold spec_PlanFor.f
  obtain ⟨h1, h2⟩ := covV_len l
  refine Ev.bind (spec_coverOf l h) ?_
  have ip := spec_isPlan l ((covV l).map (prt l)) h (by rw [List.length_map]; omega) (parts_len l)
  unfold planV
  have pl := parts_len l
  generalize covV l = st at h1 h2 ip pl ⊢
  refine ev_for0 (F := fun k i => spec_PlanFor.l0 k l ((st.take i).map (prt l)) st (i : Int)) st.length (fun i hi ih => ?_) ?_
  · have h3 : (rd_L4 st (i : Int)).length ≤ 13 := by rw [cov_rd st i hi]; exact h2 _ (List.getElem_mem hi)
    have h4 : ((st.take i).map (prt l)).length ≤ 12 := by rw [List.length_map, List.length_take]; omega
    refine Ev.step (fun k => by rw [spec_PlanFor.l0]) (ev_t (by omega) (ev_t (by omega) (Ev.bind (spec_leastGreen l (rd_L4 st (i : Int)) (by omega) (by omega)) ?_)))
    refine ev_t (by omega) ?_
    rw [w_succ hi (by omega), ← take_prt l st i hi]
    exact ih
  · refine Ev.step (fun k => by rw [spec_PlanFor.l0]) (ev_f (by omega) ?_)
    rw [List.take_length]
    refine Ev.bind ip ?_
    by_cases c : plan l (st.map (prt l)) = true
    · exact ev_t c (ev_now (if_pos c).symm)
    · exact ev_f c (ev_now (if_neg c).symm)
theorem impl_planFor (l : List S50) (h : l.length ≤ 1048576) : Ev (fun k => impl_PlanFor.f k l) (planV l) := by
  unfold impl_PlanFor.f
  obtain ⟨h1, h2⟩ := covV_len l
  refine Ev.bind (impl_coverOf l h) ?_
  have ip := impl_isPlan l ((covV l).map (prt l)) h (by rw [List.length_map]; omega) (parts_len l)
  unfold planV
  generalize covV l = st at h1 h2 ip ⊢
  refine ev_for0 (F := fun k i => impl_PlanFor.l0 k l ((st.take i).map (prt l)) st (st.length : Int) (i : Int)) st.length (fun i hi ih => ?_) ?_
  · have h3 : (rd_L4 st (i : Int)).length ≤ 13 := by rw [cov_rd st i hi]; exact h2 _ (List.getElem_mem hi)
    have h4 : ((st.take i).map (prt l)).length ≤ 12 := by rw [List.length_map, List.length_take]; omega
    refine Ev.step (fun k => by rw [impl_PlanFor.l0]) (ev_t (by omega) (ev_t (by omega) (ev_t (by omega) (Ev.bind (impl_leastGreen l (rd_L4 st (i : Int)) (by omega)) ?_))))
    refine ev_t (by omega) ?_
    rw [w_succ hi (by omega), ← take_prt l st i hi]
    exact ih
  · refine Ev.step (fun k => by rw [impl_PlanFor.l0]) (ev_f (by omega) ?_)
    rw [List.take_length]
    refine Ev.bind ip ?_
    by_cases c : plan l (st.map (prt l)) = true
    · exact ev_t c (ev_now (if_pos c).symm)
    · exact ev_f c (ev_now (if_neg c).symm)
end Go.Proofs.Ytjgonpcajedkjaa.U
