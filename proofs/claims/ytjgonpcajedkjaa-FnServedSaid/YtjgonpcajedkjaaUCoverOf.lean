/- Stages that cover all paths: the reference's come to an end. -/
import Derived.Test.YtjgonpcajedkjaaFX00b
import Derived.Test.YtjgonpcajedkjaaUStage
import Derived.Test.YtjgonpcajedkjaaUDraw
set_option linter.unusedVariables false
set_option linter.unusedSimpArgs false
namespace Go.Proofs.Ytjgonpcajedkjaa.U
open Go.RowKit Go.Proofs.YtjgonpcajedkjaaW.PrintWords Go.Proofs.YtjgonpcajedkjaaW.PrintLast Go.Proofs.Ytjgonpcajedkjaa.P
theorem coverOf_ex (l : List S50) (h : l.length ≤ 12) : ∃ v : List (List Int), (v.length ≤ l.length ∧ ∀ s ∈ v, s.length ≤ l.length + 1) ∧ Ev (fun k => spec_CoverOf.f k l) v := by
  unfold spec_CoverOf.f
  have stop : ∀ x d i, Ev (fun k => spec_CoverOf.j1 k l x d i false) x := fun x d i => Ev.step (fun k => by rw [spec_CoverOf.j1]) (ev_f (by decide) (Ev.now _))
  have ap := spec_arePaths l (by omega)
  have inner : ∀ (s : List Int) (x : List (List Int)) (i : Int), s.length ≤ 13 → ∀ e n : Nat, n + e = s.length → ∀ d : List Int, d.length + e ≤ 4000 → (∀ d' : List Int, d'.length ≤ d.length + e → ∃ v : List (List Int), (v.length ≤ l.length ∧ ∀ s ∈ v, s.length ≤ l.length + 1) ∧ Ev (fun k => spec_CoverOf.l0 k l x d' (wrap64 (i + 1))) v) → ∃ v : List (List Int), (v.length ≤ l.length ∧ ∀ s ∈ v, s.length ≤ l.length + 1) ∧ Ev (fun k => spec_CoverOf.l1 k l x d i s (n : Int)) v := by
    intro s x i hs e
    induction e with
    | zero =>
      intro n hn d hd hk
      obtain ⟨v, hv, e1⟩ := hk d (by omega)
      exact ⟨v, hv, Ev.step (fun k => by rw [spec_CoverOf.l1]) (ev_f (by omega) e1)⟩
    | succ e ih =>
      intro n hn d hd hk
      have hp := pv_len (rd s (n : Int)) d
      obtain ⟨v, hv, e1⟩ := ih (n + 1) (by omega) (pv (rd s (n : Int)) d) (by omega) (fun d' hd' => hk d' (by omega))
      refine ⟨v, hv, Ev.step (fun k => by rw [spec_CoverOf.l1]) (ev_t (by omega) (ev_t (by omega) (Ev.bind (spec_put0 d _ (by omega)) ?_)))⟩
      rw [w_succ (n := s.length) (by omega) (by omega)]
      exact e1
  have run : ∀ e i : Nat, i + e = l.length → ∀ (x : List (List Int)) (d : List Int), (∀ s ∈ x, s.length ≤ l.length + 1) → x.length ≤ i → d.length ≤ i * 13 → ∃ v : List (List Int), (v.length ≤ l.length ∧ ∀ s ∈ v, s.length ≤ l.length + 1) ∧ Ev (fun k => spec_CoverOf.l0 k l x d (i : Int)) v := by
    intro e
    induction e with
    | zero =>
      intro i hi x d hx hl hd
      exact ⟨x, ⟨by omega, hx⟩, Ev.step (fun k => by rw [spec_CoverOf.l0]) (ev_f (by omega) (stop _ _ _))⟩
    | succ e ih =>
      intro i hi x d hx hl hd
      cases ha : areP l with
      | false =>
        rw [ha] at ap
        exact ⟨x, ⟨by omega, hx⟩, Ev.step (fun k => by rw [spec_CoverOf.l0]) (ev_t (by omega) (Ev.bind ap (stop _ _ _)))⟩
      | true =>
        rw [ha] at ap
        by_cases hm : (rd_T50 l (i : Int)).f0 ∈ d
        · obtain ⟨v, hv, e1⟩ := ih (i + 1) (by omega) x d hx (by omega) (by omega)
          refine ⟨v, hv, Ev.step (fun k => by rw [spec_CoverOf.l0]) (ev_t (by omega) (Ev.bind ap ?_))⟩
          refine Ev.step (fun k => by rw [spec_CoverOf.j1]) (ev_t rfl (ev_t (by omega) (ev_t (by omega) (Ev.bind (spec_has d _ (by omega)) (ev_dt hm ?_)))))
          rw [w_succ (i := i) (n := l.length) (by omega) (by omega)]
          exact e1
        · have hl2 := addV_len l [(rd_T50 l (i : Int)).f0]
          rw [List.length_singleton] at hl2
          obtain ⟨v, hv, e1⟩ := inner (addV l [(rd_T50 l (i : Int)).f0]) (x ++ [addV l [(rd_T50 l (i : Int)).f0]]) (i : Int) (by omega) (addV l [(rd_T50 l (i : Int)).f0]).length 0 (by omega) d (by omega) (fun d' hd' => by
            rw [w_succ (i := i) (n := l.length) (by omega) (by omega)]
            refine ih (i + 1) (by omega) _ d' (fun s hs => ?_) (by simp; omega) (by omega)
            rcases List.mem_append.1 hs with h1 | h1
            · exact hx s h1
            · rw [List.mem_singleton.1 h1]
              omega)
          refine ⟨v, hv, Ev.step (fun k => by rw [spec_CoverOf.l0]) (ev_t (by omega) (Ev.bind ap ?_))⟩
          refine Ev.step (fun k => by rw [spec_CoverOf.j1]) (ev_t rfl (ev_t (by omega) (ev_t (by omega) (Ev.bind (spec_has d _ (by omega)) (ev_df hm (Ev.bind (spec_addTo l [(rd_T50 l (i : Int)).f0] (by omega) (by simp)) ?_))))))
          exact ev_t (by omega) e1
  exact run l.length 0 (by omega) [] [] (by simp) (by simp) (by simp)
end Go.Proofs.Ytjgonpcajedkjaa.U
