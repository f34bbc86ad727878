/- A drawn plan: the reference's draws of paths and a plan come to an end. -/
import Derived.Test.YtjgonpcajedkjaaFX00b
import Derived.Test.YtjgonpcajedkjaaUCoverOf
import Derived.Test.YtjgonpcajedkjaaUPlan
import Derived.Test.YtjgonpcajedkjaaULong
set_option linter.unusedVariables false
set_option linter.unusedSimpArgs false
namespace Go.Proofs.Ytjgonpcajedkjaa.U
open Go.RowKit Go.Proofs.YtjgonpcajedkjaaW.PrintWords Go.Proofs.YtjgonpcajedkjaaW.PrintLast Go.Proofs.Ytjgonpcajedkjaa.P
/-- A plan's parts have short stages, none of them empty. -/
def pSh (p : List S85) : Prop := p.length ≤ 12 ∧ ∀ i : Nat, i < p.length → 1 ≤ (rd_T85 p (i : Int)).f0.length ∧ (rd_T85 p (i : Int)).f0.length ≤ 13
theorem planFor_ex (l : List S50) (h : l.length ≤ 12) : ∃ v : List S85, pSh v ∧ Ev (fun k => spec_PlanFor.f k l) v := by
  obtain ⟨s, ⟨hs, hl⟩, e⟩ := coverOf_ex l h
  unfold spec_PlanFor.f
  have run : ∀ d n : Nat, n + d = s.length → ∀ x : List S85, x.length = n → (∀ i : Nat, i < n → (rd_T85 x (i : Int)).f0.length ≤ 13) → ∃ v : List S85, pSh v ∧ Ev (fun k => spec_PlanFor.l0 k l x s (n : Int)) v := by
    intro d
    induction d with
    | zero =>
      intro n hn x hx hb
      have ip := spec_isPlan l x (by omega) (by omega) (fun i hi => by have := hb i (by omega); omega)
      cases hp : plan l x with
      | false =>
        rw [hp] at ip
        exact ⟨[], ⟨by simp, fun i hi => absurd hi (by simp)⟩, Ev.step (fun k => by rw [spec_PlanFor.l0]) (ev_f (by omega) (Ev.bind ip (ev_f (show ¬ false = true by decide) (Ev.now _))))⟩
      | true =>
        rw [hp] at ip
        refine ⟨x, ⟨by omega, fun i hi => ⟨?_, hb i (by omega)⟩⟩, Ev.step (fun k => by rw [spec_PlanFor.l0]) (ev_f (by omega) (Ev.bind ip (ev_t rfl (Ev.now _))))⟩
        have h1 := (plan_at hp hi).1
        omega
    | succ d ih =>
      intro n hn x hx hb
      have h1 : (rd_L3 s (n : Int)).length ≤ 13 := by
        have h2 : rd_L3 s (n : Int) = s[n]'(by omega) := by unfold rd_L3; simp [List.getD_eq_getElem?_getD, List.getElem?_eq_getElem (show n < s.length by omega)]
        rw [h2]
        have h3 := hl _ (List.getElem_mem (show n < s.length by omega))
        omega
      have lg := spec_leastGreen l (rd_L3 s (n : Int)) (by omega) (by omega)
      obtain ⟨v, hv, e1⟩ := ih (n + 1) (by omega) (x ++ [⟨rd_L3 s (n : Int), leastG l (rd_L3 s (n : Int))⟩]) (by simp; omega) (fun i hi => by
        rw [rd85 _ i (by simp; omega)]
        rcases Nat.lt_or_ge i n with h4 | h4
        · rw [List.getElem_append_left (by omega), ← rd85 x i (by omega)]
          exact hb i h4
        · rw [List.getElem_append_right (by omega)]
          simp only [List.getElem_singleton]
          exact h1)
      refine ⟨v, hv, Ev.step (fun k => by rw [spec_PlanFor.l0]) (ev_t (by omega) (ev_t (by omega) (Ev.bind lg ?_)))⟩
      refine ev_t (by omega) ?_
      rw [w_succ (n := s.length) (by omega) (by omega)]
      exact e1
  obtain ⟨v, hv, e1⟩ := run s.length 0 (by omega) [] rfl (fun i hi => absurd hi (by omega))
  exact ⟨v, hv, Ev.bind e e1⟩
theorem pSh_set {p : List S85} (h : pSh p) (i : Nat) (g : Int) : pSh (p.set i ⟨(rd_T85 p (i : Int)).f0, g⟩) := by
  refine ⟨by rw [List.length_set]; exact h.1, fun j hj => ?_⟩
  rw [List.length_set] at hj
  rw [rd85 _ j (by rw [List.length_set]; exact hj), List.getElem_set]
  split
  · rename_i e
    subst e
    exact h.2 i hj
  · rw [← rd85 p j hj]
    exact h.2 j hj
theorem l8Draw_ex (b : List Int) (i h : Int) (h0 : 0 ≤ i) (hl : b.length ≤ 1048576) : ∃ l p i' h', Ev (fun k => spec_l8Draw.f k b i h) (l, p, i', h') ∧ l.length ≤ 7 ∧ pSh p ∧ 0 ≤ i' := by
  unfold spec_l8Draw.f
  have green : ∀ (l : List S50), ∀ d n : Nat, ∀ (p : List S85) (i h : Int), n + d = p.length → pSh p → 0 ≤ i → ∃ q i' h', Ev (fun k => spec_l8Draw.l1 k l p (n : Int) b i h) (l, q, i', h') ∧ pSh q ∧ 0 ≤ i' := by
    intro l d
    induction d with
    | zero =>
      intro n p i h hn hp hi
      exact ⟨p, i, h, Ev.step (fun k => by rw [spec_l8Draw.l1]) (ev_f (by omega) (Ev.now _)), hp, hi⟩
    | succ d ih =>
      intro n p i h hn hp hi
      obtain ⟨x, i1, h1, e1, _, _, j1⟩ := l1Below_ex b i h 12 hi hl (by decide) (by decide)
      obtain ⟨q, i2, h2, e2, r1, r2⟩ := ih (n + 1) (p.set n ⟨(rd_T85 p (n : Int)).f0, wrap64 (((rd_T85 p (n : Int)).f1) + x)⟩) i1 h1 (by rw [List.length_set]; omega) (pSh_set hp n _) j1
      refine ⟨q, i2, h2, Ev.step (fun k => by rw [spec_l8Draw.l1]) (ev_t (by omega) (ev_t (by omega) (ev_call e1 ?_))), r1, r2⟩
      rw [w_succ (i := n) (n := p.length) (by omega) (by have := hp.1; omega)]
      exact e2
  have jf : ∀ (l : List S50) (p : List S85) (n i h : Int) r, Ev (fun k => spec_l8Draw.l1 k l p 0 b i h) r → Ev (fun k => spec_l8Draw.j1 k l p n false b i h) r := fun l p n i h r e =>
    Ev.step (fun k => by rw [spec_l8Draw.j1]) (ev_f (by decide) e)
  have again : ∀ d n : Nat, n + d = 4 → ∀ (l : List S50) (p : List S85) (i h : Int), l.length ≤ 7 → pSh p → 0 ≤ i → ∃ l' q i' h', Ev (fun k => spec_l8Draw.l0 k l p (n : Int) b i h) (l', q, i', h') ∧ l'.length ≤ 7 ∧ pSh q ∧ 0 ≤ i' := by
    intro d
    induction d with
    | zero =>
      intro n hn l p i h hL hp hi
      obtain ⟨q, i', h', e, r1, r2⟩ := green l p.length 0 p i h (by omega) hp hi
      exact ⟨l, q, i', h', Ev.step (fun k => by rw [spec_l8Draw.l0]) (ev_f (by omega) (jf _ _ _ _ _ _ e)), hL, r1, r2⟩
    | succ d ih =>
      intro n hn l p i h hL hp hi
      by_cases c : (p.length : Int) = 0
      · have cb : ((p.length : Int) == 0) = true := beq_iff_eq.mpr c
        obtain ⟨l1, i1, h1, e1, _, r1, j1⟩ := l5Draw_ex b i h hi hl
        obtain ⟨p1, r2, e2⟩ := planFor_ex l1 (by omega)
        obtain ⟨l2, p2, i2, h2, e3, r3, r4, j2⟩ := ih (n + 1) (by omega) l1 p1 i1 h1 r1 r2 j1
        refine ⟨l2, p2, i2, h2, Ev.step (fun k => by rw [spec_l8Draw.l0]) (ev_t (by omega) (Ev.step (fun k => by rw [spec_l8Draw.j1]) (ev_t cb (Ev.bind e1 (Ev.bind e2 ?_))))), r3, r4, j2⟩
        rw [w_succ (i := n) (n := 4) (by omega) (by omega)]
        exact e3
      · have cb : ((p.length : Int) == 0) = false := beq_eq_false_iff_ne.mpr c
        obtain ⟨q, i', h', e, r1, r2⟩ := green l p.length 0 p i h (by omega) hp hi
        exact ⟨l, q, i', h', Ev.step (fun k => by rw [spec_l8Draw.l0, cb]) (ev_t (by omega) (jf _ _ _ _ _ _ e)), hL, r1, r2⟩
  obtain ⟨l1, i1, h1, e1, _, r1, j1⟩ := l5Draw_ex b i h h0 hl
  obtain ⟨p1, r2, e2⟩ := planFor_ex l1 (by omega)
  obtain ⟨l2, p2, i2, h2, e3, r3, r4, j2⟩ := again 4 0 (by omega) l1 p1 i1 h1 r1 r2 j1
  exact ⟨l2, p2, i2, h2, Ev.bind e1 (Ev.bind e2 e3), r3, r4, j2⟩
theorem l8Any_ex (b : List Int) (i h : Int) (h0 : 0 ≤ i) (hl : b.length ≤ 1048576) : ∃ l p i' h', Ev (fun k => spec_l8Any.f k b i h) (l, p, i', h') ∧ l.length ≤ 7 ∧ (p.length ≤ 12 ∧ ∀ i : Nat, i < p.length → (rd_T85 p (i : Int)).f0.length ≤ 13) ∧ 0 ≤ i' := by
  unfold spec_l8Any.f
  obtain ⟨l, p, i1, h1, e1, r1, r2, j1⟩ := l8Draw_ex b i h h0 hl
  have up : ∀ q : List S85, pSh q → q.length ≤ 12 ∧ ∀ i : Nat, i < q.length → (rd_T85 q (i : Int)).f0.length ≤ 13 := fun q hq => ⟨hq.1, fun i hi => (hq.2 i hi).2⟩
  by_cases c : (p.length : Int) = 0
  · exact ⟨l, p, i1, h1, Ev.bind e1 (ev_t c (Ev.now _)), r1, up p r2, j1⟩
  · obtain ⟨x, i2, h2, e2, x0, x1, j2⟩ := l1Below_ex b i1 h1 (p.length : Int) j1 hl (by omega) (by have := r2.1; omega)
    obtain ⟨m, rfl⟩ := Int.eq_ofNat_of_zero_le x0
    have hm : m < p.length := by omega
    obtain ⟨y, i3, h3, e3, _, _, j3⟩ := l1Below_ex b i2 h2 10 j2 hl (by decide) (by decide)
    obtain ⟨z, i4, h4, e4, _, j4⟩ := l1Int_ex b i3 h3 [4, 60, 61, 9223372036854775807] j3 hl (by decide) (by decide)
    obtain ⟨l5, i5, h5, e5, _, r5, j5⟩ := l5Any_ex b i3 h3 j3 hl
    have f0 := r2.2 m hm
    by_cases c0 : y = 0
    · refine ⟨l, _, i4, h4, Ev.bind e1 (ev_f c (ev_call e2 (ev_call e3 (ev_t c0 (ev_call e4 (ev_t x0 (ev_t x1 (Ev.now _)))))))), r1, ?_, j4⟩
      exact up _ (pSh_set r2 m z)
    · by_cases c1 : y = 1
      · refine ⟨l, _, i3, h3, Ev.bind e1 (ev_f c (ev_call e2 (ev_call e3 (ev_f c0 (ev_t c1 (ev_t x0 (ev_t x1 (ev_t (by show (1 : Int) ≤ ((rd_T85 p (m : Int)).f0.length : Int); omega) (Ev.now _))))))))), r1, ⟨by rw [List.length_set]; exact r2.1, fun j hj => ?_⟩, j3⟩
        rw [List.length_set] at hj
        rw [rd85 _ j (by rw [List.length_set]; exact hj), List.getElem_set]
        split
        · show ((rd_T85 p (m : Int)).f0.drop 1).length ≤ 13
          rw [List.length_drop]
          omega
        · rw [← rd85 p j hj]
          exact (r2.2 j hj).2
      · by_cases c2 : y = 2
        · exact ⟨l5, p, i5, h5, Ev.bind e1 (ev_f c (ev_call e2 (ev_call e3 (ev_f c0 (ev_f c1 (ev_t c2 (Ev.bind e5 (Ev.now _)))))))), r5, up p r2, j5⟩
        · by_cases c3 : y = 3
          · refine ⟨l, p.drop 1, i3, h3, Ev.bind e1 (ev_f c (ev_call e2 (ev_call e3 (ev_f c0 (ev_f c1 (ev_f c2 (ev_t c3 (ev_t (by show (1 : Int) ≤ (p.length : Int); omega) (Ev.now _))))))))), r1, ⟨by rw [List.length_drop]; have := r2.1; omega, fun j hj => ?_⟩, j3⟩
            rw [List.length_drop] at hj
            rw [rd85 _ j (by rw [List.length_drop]; exact hj), List.getElem_drop, ← rd85 p (1 + j) (by omega)]
            exact (r2.2 (1 + j) (by omega)).2
          · exact ⟨l, p, i3, h3, Ev.bind e1 (ev_f c (ev_call e2 (ev_call e3 (ev_f c0 (ev_f c1 (ev_f c2 (ev_f c3 (Ev.now _)))))))), r1, up p r2, j3⟩
end Go.Proofs.Ytjgonpcajedkjaa.U
