/- FnQueues, the pure side: no queue is negative, and a path that is always open has the shortest one. -/
import Derived.Test.YtjgonpcajedkjaaFX00
import Derived.Test.YtjgonpcajedkjaaFX00b
import Derived.Test.YtjgonpcajedkjaaFX00d
import Derived.Test.YtjgonpcajedkjaaFX00e
import Derived.Test.YtjgonpcajedkjaaUDraw8
import Derived.Test.YtjgonpcajedkjaaUQueueRun
import Derived.Test.YtjgonpcajedkjaaUTotalWait
import Derived.Test.YtjgonpcajedkjaaUOpen
import Derived.Test.YtjgonpcajedkjaaArgs
set_option linter.unusedVariables false
set_option linter.unusedSimpArgs false
namespace Go.Proofs.Ytjgonpcajedkjaa.U
open Go.RowKit Go.Proofs.YtjgonpcajedkjaaW.PrintWords Go.Proofs.YtjgonpcajedkjaaW.PrintLast Go.Proofs.Ytjgonpcajedkjaa.P Go.Proofs.Ytjgonpcajedkjaa.Open
theorem arrivals_ex (b : List Int) (i h : Int) (m : Nat) (h0 : 0 ≤ i) (hl : b.length ≤ 1048576) (hm : m ≤ 100) : ∃ a i' h', Ev (fun k => spec_l12Arrivals.f k b i h (m : Int)) (a, i', h') ∧ a.length = m ∧ 0 ≤ i' := by
  unfold spec_l12Arrivals.f
  have run : ∀ d n : Nat, n + d = m → ∀ (x : List Int) (i h : Int), x.length = n → 0 ≤ i → ∃ a i' h', Ev (fun k => spec_l12Arrivals.l0 k (m : Int) x (n : Int) b i h) (a, i', h') ∧ a.length = m ∧ 0 ≤ i' := by
    intro d
    induction d with
    | zero =>
      intro n hn x i h hx hi
      exact ⟨x, i, h, Ev.step (fun k => by rw [spec_l12Arrivals.l0]) (ev_f (by omega) (Ev.now _)), by omega, hi⟩
    | succ d ih =>
      intro n hn x i h hx hi
      obtain ⟨y, i1, h1, e1, _, j1⟩ := l1Int_ex b i h [0, 0, 0, 1, 1, 2] hi hl (by decide) (by decide)
      obtain ⟨a, i2, h2, e2, r1, r2⟩ := ih (n + 1) (by omega) (x ++ [y]) i1 h1 (by simp; omega) j1
      refine ⟨a, i2, h2, Ev.step (fun k => by rw [spec_l12Arrivals.l0]) (ev_t (by omega) (ev_call e1 ?_)), r1, r2⟩
      refine ev_t (by omega) ?_
      rw [w_succ (i := n) (n := m) (by omega) (by omega)]
      exact e2
  exact run m 0 (by omega) [] i h rfl h0
theorem drawQueueRun_ex (b : List Int) (hl : b.length ≤ 1048576) : ∃ a o, Ev (fun k => spec_DrawQueueRun.f k b) (a, o) ∧ a.length ≤ 20 ∧ o.length ≤ 20 := by
  obtain ⟨h, e0⟩ := l1New_ex b hl
  obtain ⟨x, i1, h1, e1, x0, x1, j1⟩ := l1Below_ex b 0 h 20 (by decide) hl (by decide) (by decide)
  obtain ⟨m, rfl⟩ := Int.eq_ofNat_of_zero_le x0
  obtain ⟨a, i2, h2, e2, ra, j2⟩ := arrivals_ex b i1 h1 m j1 hl (by omega)
  unfold spec_DrawQueueRun.f
  have run : ∀ d n : Nat, n + d = m → ∀ (o : List Bool) (i h : Int), o.length = n → 0 ≤ i → ∃ a' o', Ev (fun k => spec_DrawQueueRun.l0 k (m : Int) a o (n : Int) b i h) (a', o') ∧ a'.length ≤ 20 ∧ o'.length ≤ 20 := by
    intro d
    induction d with
    | zero =>
      intro n hn o i h hx hi
      obtain ⟨y, i3, h3, e3, _, _, j3⟩ := l1Below_ex b i h 9 hi hl (by decide) (by decide)
      obtain ⟨z, i4, h4, e4, _, j4⟩ := l1Int_ex b i3 h3 [(-1), 10000, 10001] j3 hl (by decide) (by decide)
      have st : ¬ (n : Int) < (m : Int) := by omega
      by_cases c0 : y = 0
      · exact ⟨a ++ [1], o, Ev.step (fun k => by rw [spec_DrawQueueRun.l0]) (ev_f st (ev_call e3 (ev_t c0 (ev_t (show a.length < 17592186044416 by omega) (Ev.now _))))), by simp; omega, by omega⟩
      · by_cases c1 : y = 1
        · by_cases c2 : (m : Int) > 0
          · refine ⟨a.set (0 : Int).toNat z, o, Ev.step (fun k => by rw [spec_DrawQueueRun.l0]) (ev_f st (ev_call e3 (ev_f c0 (ev_t c1 (ev_t c2 (ev_call e4 (ev_t (show (0 : Int) < (a.length : Int) by omega) (Ev.now _)))))))), ?_, by omega⟩
            rw [List.length_set]
            omega
          · exact ⟨a, o, Ev.step (fun k => by rw [spec_DrawQueueRun.l0]) (ev_f st (ev_call e3 (ev_f c0 (ev_t c1 (ev_f c2 (Ev.now _)))))), by omega, by omega⟩
        · exact ⟨a, o, Ev.step (fun k => by rw [spec_DrawQueueRun.l0]) (ev_f st (ev_call e3 (ev_f c0 (ev_f c1 (Ev.now _))))), by omega, by omega⟩
    | succ d ih =>
      intro n hn o i h hx hi
      obtain ⟨y, i3, h3, e3, j3⟩ := l1Once_ex b i h 3 hi hl (by decide) (by decide)
      obtain ⟨a', o', e4, r1, r2⟩ := ih (n + 1) (by omega) (o ++ [!y]) i3 h3 (by simp; omega) j3
      refine ⟨a', o', Ev.step (fun k => by rw [spec_DrawQueueRun.l0]) (ev_t (by omega) (ev_call e3 ?_)), r1, r2⟩
      refine ev_t (by omega) ?_
      rw [w_succ (i := n) (n := m) (by omega) (by omega)]
      exact e4
  obtain ⟨a', o', e3, r1, r2⟩ := run m 0 (by omega) [] i2 h2 rfl j2
  exact ⟨a', o', Ev.bind e0 (ev_call e1 (Ev.bind e2 e3)), r1, r2⟩
theorem drawOpenIn_ex (b : List Int) (hl : b.length ≤ 1048576) : ∃ l p id f n, Ev (fun k => spec_DrawOpenIn.f k b) (l, p, id, f, n) ∧ PW l p := by
  obtain ⟨h, e0⟩ := l1New_ex b hl
  obtain ⟨l, p, i1, h1, e1, r1, r2, j1⟩ := l8Any_ex b 0 h (by decide) hl
  obtain ⟨x, i2, h2, e2, _, _, j2⟩ := l1Below_ex b i1 h1 9 j1 hl (by decide) (by decide)
  obtain ⟨y, i3, h3, e3, _, j3⟩ := l1Int_ex b i2 h2 [0, 7, 50, 100000, 100001, (-1)] j2 hl (by decide) (by decide)
  obtain ⟨z, i4, h4, e4, _, j4⟩ := l1Int_ex b i3 h3 [0, 10, 60, 1000, 1001, (-1)] j3 hl (by decide) (by decide)
  refine ⟨l, p, x, y, z, ?_, ⟨by omega, by omega, fun i hi => by have := r2.2 i hi; omega⟩⟩
  unfold spec_DrawOpenIn.f
  exact Ev.bind e0 (Ev.bind e1 (ev_call e2 (ev_call e3 (ev_call e4 (Ev.now _)))))
theorem queueStep_bound (a b : Int) (o : Bool) : 0 ≤ queueStep a b o ∧ queueStep a b o ≤ 10000 := by
  unfold queueStep
  split <;> omega
theorem queueStep_mono {a a' b : Int} (o : Bool) (h0 : 0 ≤ a) (h1 : a ≤ a') (h2 : a' ≤ 10000) : queueStep a b true ≤ queueStep a' b o := by
  by_cases hb : 0 ≤ b ∧ b ≤ 10000
  · rw [queueStep_in ⟨h0, by omega⟩ hb, queueStep_in ⟨by omega, h2⟩ hb]
    cases o <;> simp <;> omega
  · rw [queueStep_out (fun h => hb h.2), queueStep_out (fun h => hb h.2)]
    exact Int.le_refl _
theorem qs_bound (a : List Int) (o : List Bool) : ∀ n, 0 ≤ qs a o n ∧ qs a o n ≤ 10000
  | 0 => by simp [qs]
  | n + 1 => queueStep_bound _ _ _
theorem qs_mono (a : List Int) (o : List Bool) (m : Nat) : ∀ n, n ≤ m → qs a (List.replicate m true) n ≤ qs a o n
  | 0, _ => Int.le_refl _
  | n + 1, h => by
    have e : rdOf false (List.replicate m true) (n : Int) = true := by
      rw [rdOf_at false _ n (by rw [List.length_replicate]; omega), List.getElem_replicate]
    show queueStep (qs a (List.replicate m true) n) (rd a (n : Int)) (rdOf false (List.replicate m true) (n : Int)) ≤ queueStep (qs a o n) (rd a (n : Int)) (rdOf false o (n : Int))
    rw [e]
    exact queueStep_mono _ (qs_bound _ _ n).1 (qs_mono a o m n (by omega)) (qs_bound _ _ n).2
theorem ql_rd (a : List Int) (o : List Bool) (n i : Nat) (h : i < n) : rd (ql a o n) (i : Int) = qs a o (i + 1) := by
  rw [rd_at _ i (by rw [ql_len]; exact h)]
  simp [ql]
theorem clamp_mono {c x y : Int} (h : x ≤ y) : clamp c x ≤ clamp c y := by
  unfold clamp
  omega
theorem psum_mono (f : Int → Int) (x y : List Int) (hl : x.length = y.length) (h : ∀ i : Nat, i < x.length → f (rd x (i : Int)) ≤ f (rd y (i : Int))) : ∀ n, n ≤ x.length → psum f x n ≤ psum f y n
  | 0, _ => by rw [psum_zero, psum_zero]; exact Int.le_refl _
  | n + 1, hn => by
    have ih := psum_mono f x y hl h n (by omega)
    have h1 := h n (by omega)
    rw [rd_at x n (by omega), rd_at y n (by omega)] at h1
    rw [psum_succ f x n (by omega), psum_succ f y n (by omega)]
    omega
/-- What is told of the two queues. -/
structure QQ (a : List Int) (o : List Bool) (q r : List Int) : Prop where
  hl : q.length = r.length
  hq : q.length ≤ 1000
  ha : q.length ≤ a.length
  ho : q.length ≤ o.length
  at_ : ∀ i : Nat, i < q.length → 0 ≤ rd q (i : Int) ∧ rd q (i : Int) ≤ 10000 ∧ rd r (i : Int) ≤ rd q (i : Int) ∧ rd q (i : Int) = queueStep (if i = 0 then 0 else rd q ((i : Int) - 1)) (rd a (i : Int)) (rdOf false o (i : Int))
theorem qq (a : List Int) (o : List Bool) : QQ a o (queueRun a o) (queueRun a (List.replicate o.length true)) := by
  by_cases h : a.length = o.length ∧ a.length ≤ 1000 ∧ ∀ i, i < a.length → qOk a i
  · rw [queueRun_t h, queueRun_t ⟨by rw [List.length_replicate]; exact h.1, h.2⟩]
    refine ⟨by rw [ql_len, ql_len], by rw [ql_len]; exact h.2.1, by rw [ql_len]; exact Nat.le_refl _, by rw [ql_len]; omega, fun i hi => ?_⟩
    rw [ql_len] at hi
    rw [ql_rd a o _ i hi, ql_rd a _ _ i hi]
    refine ⟨(qs_bound a o _).1, (qs_bound a o _).2, qs_mono a o o.length (i + 1) (by omega), ?_⟩
    by_cases h0 : i = 0
    · subst h0
      rfl
    · rw [if_neg h0]
      have e : ((i : Int) - 1) = ((i - 1 : Nat) : Int) := by omega
      rw [e, ql_rd a o _ (i - 1) (by omega), show i - 1 + 1 = i by omega]
      rfl
  · rw [queueRun_f h, queueRun_f (fun hh => h ⟨by have := hh.1; rw [List.length_replicate] at this; exact this, hh.2⟩)]
    exact ⟨rfl, by simp, by simp, by simp, fun i hi => absurd hi (by simp)⟩
theorem openIn_end (l : List S50) (p : List S85) (w : PW l p) (id f n : Int) : Ev (fun k => laws_FnQueues.l2 k l p id f n (opV (rowV l p id) f n) 0) true := by
  have ol := opV_len (rowV l p id) f n
  have stop : ∀ i : Int, Ev (fun k => laws_FnQueues.j4 k l p id f n (opV (rowV l p id) f n) i false) true := by
    intro i
    refine Ev.step (fun k => by rw [laws_FnQueues.j4]) (ev_f (by decide) ?_)
    by_cases c : ((opV (rowV l p id) f n).length : Int) = 0
    · exact ev_t c (Ev.now _)
    · refine ev_f c (ev_now ?_)
      have hr : ¬ ((rowV l p id).length : Int) = 0 := fun h => c (by rw [opV_0 h]; rfl)
      have ho : opP (rowV l p id) f n := Classical.byContradiction fun h => c (by rw [opV_2 hr h]; rfl)
      rw [opV_1 hr ho, opN_len, Int.toNat_of_nonneg ho.2.1]
      simp
  have go : ∀ i : Nat, i < (opV (rowV l p id) f n).length → Ev (fun k => laws_FnQueues.l2 k l p id f n (opV (rowV l p id) f n) ((i + 1 : Nat) : Int)) true → Ev (fun k => laws_FnQueues.l2 k l p id f n (opV (rowV l p id) f n) (i : Int)) true := by
    intro i hi ih
    refine Ev.step (fun k => by rw [laws_FnQueues.l2]) (ev_t (by omega) ?_)
    by_cases c : (i : Int) < 100
    · rw [decide_eq_true c]
      have hr : ¬ ((rowV l p id).length : Int) = 0 := fun h => by rw [opV_0 h] at hi; exact absurd hi (by simp)
      have ho : opP (rowV l p id) f n := Classical.byContradiction fun h => by rw [opV_2 hr h] at hi; exact absurd hi (by simp)
      have hh : hasRow l p id := rowV_pos (by omega)
      have hn : i < n.toNat := by rw [opV_1 hr ho, opN_len] at hi; exact hi
      have hf := ho.1
      have hn2 := ho.2
      refine Ev.step (fun k => by rw [laws_FnQueues.j4]) (ev_t rfl (ev_t (by omega) (ev_t (by omega) (Ev.bind (impl_lightAt w _ id) ?_))))
      rw [w_succ hi (by omega), w64 (n := f + (i : Int)) (by omega) (by omega)]
      refine ev_f ?_ ih
      have e : rdOf false (opV (rowV l p id) f n) (i : Int) = decide (laV l p (f + (i : Int)) id = 1) := by
        rw [opV_1 hr ho, rdOf_at false _ i (by rw [opN_len]; exact hn)]
        rw [← rowV_rd hh (a := f + (i : Int)) (by omega) (by omega)]
        simp [opN]
      rw [e, beq1]
      simp
    · rw [decide_eq_false c]
      exact stop _
  exact ev_for0 (F := fun k i => laws_FnQueues.l2 k l p id f n (opV (rowV l p id) f n) (i : Int)) (opV (rowV l p id) f n).length (fun i hi ih => go i hi ih) (Ev.step (fun k => by rw [laws_FnQueues.l2]) (ev_f (by omega) (stop _)))
theorem served_eq (q : List Int) (h : q.length ≤ 1048576) : impl_IsServed.f q = some (if (q.length : Int) = 0 then true else (rd q (wrap64 ((q.length : Int) - 1)) == 0)) := by
  unfold impl_IsServed.f
  by_cases c : (q.length : Int) = 0
  · rw [if_pos c, if_pos c]
  · have e : wrap64 ((q.length : Int) - 1) = (q.length : Int) - 1 := w64 (by omega) (by omega)
    rw [if_neg c, if_neg c, e, if_pos (by omega), if_pos (by omega)]
theorem FnQueues : ∀ (x0 : List Int), (okL okU) x0 → ∃ k, laws_FnQueues.f k x0 = some true := by
  intro c _
  refine ev_rounds ?_
  unfold laws_FnQueues.f
  by_cases hbig : (c.length : Int) > 1048576
  · exact ev_call (show laws_big.f c = some true from congrArg some (decide_eq_true hbig)) (ev_t rfl (Ev.now _))
  · refine ev_call (show laws_big.f c = some false from congrArg some (decide_eq_false hbig)) (ev_f (by decide) ?_)
    obtain ⟨a, o, e1, ra, ro⟩ := drawQueueRun_ex c (by omega)
    obtain ⟨l, p, id, f, n, e2, w⟩ := drawOpenIn_ex c (by omega)
    have s1 := impl_queueRun a o (by omega)
    have s2 := impl_queueRun a (List.replicate o.length true) (by omega)
    have Q := qq a o
    refine Ev.bind e1 (Ev.bind s1 ?_)
    generalize queueRun a o = q at s1 Q ⊢
    generalize hr : queueRun a (List.replicate o.length true) = r at s2 Q
    have tail : Ev (fun k => laws_FnQueues.j2 k c false) true :=
      Ev.step (fun k => by rw [laws_FnQueues.j2]) (ev_f (by decide) (Ev.bind e2 (Ev.bind (impl_openIn w id f n) (openIn_end l p w id f n))))
    have hq := Q.hq
    have hlr := Q.hl
    -- all paths open
    have open_ : ∀ i : Nat, i ≤ o.length → List.replicate (i + 1) true = List.replicate i true ++ [true] := fun i _ => by rw [List.replicate_succ']
    refine ev_for0 (F := fun k i => laws_FnQueues.l0 k c a o q (List.replicate i true) (i : Int)) o.length (fun i hi ih => ?_) ?_
    · refine Ev.step (fun k => by rw [laws_FnQueues.l0]) (ev_t (by omega) (ev_t (by rw [List.length_replicate]; omega) ?_))
      rw [w_succ hi (by omega), ← open_ i (by omega)]
      exact ih
    · refine Ev.step (fun k => by rw [laws_FnQueues.l0]) (ev_f (by omega) (Ev.bind s2 (ev_t (show (q.length : Int) = (r.length : Int) by omega) ?_)))
      refine ev_for0 (F := fun k i => laws_FnQueues.l1 k c a o q r (i : Int)) q.length (fun i hi ih => ?_) ?_
      · obtain ⟨h1, h2, h3, h4⟩ := Q.at_ i hi
        have ha := Q.ha
        have ho := Q.ho
        refine Ev.step (fun k => by rw [laws_FnQueues.l1]) (ev_t (by omega) ?_)
        rw [w_succ hi (by omega)]
        have qs1 := impl_queueStep (if i = 0 then 0 else rd q ((i : Int) - 1)) (rd a (i : Int)) (rdOf false o (i : Int))
        rw [← h4] at qs1
        by_cases c0 : i = 0
        · rw [if_pos c0] at qs1
          refine ev_f (show ¬ (i : Int) > 0 by omega) (ev_t (by omega) (ev_f (show ¬ rd q (i : Int) < 0 by omega) (ev_f (show ¬ rd q (i : Int) > 10000 by omega) (ev_t (show (i : Int) < (r.length : Int) by omega) (ev_f (show ¬ rd r (i : Int) > rd q (i : Int) by omega) ?_)))))
          exact ev_t (by omega) (ev_t (by omega) (Ev.bind qs1 (ev_t rfl ih)))
        · rw [if_neg c0] at qs1
          have e : wrap64 ((i : Int) - 1) = (i : Int) - 1 := w64 (by omega) (by omega)
          refine ev_t (show (i : Int) > 0 by omega) ?_
          rw [e]
          refine ev_t (by omega) (ev_t (by omega) (ev_t (by omega) (ev_f (show ¬ rd q (i : Int) < 0 by omega) (ev_f (show ¬ rd q (i : Int) > 10000 by omega) (ev_t (show (i : Int) < (r.length : Int) by omega) (ev_f (show ¬ rd r (i : Int) > rd q (i : Int) by omega) ?_))))))
          exact ev_t (by omega) (ev_t (by omega) (Ev.bind qs1 (ev_t rfl ih)))
      · have tw : totalWait r ≤ totalWait q := by
          unfold totalWait
          rw [hlr]
          exact psum_mono _ r q (by omega) (fun i hi => clamp_mono (Q.at_ i (by omega)).2.2.1) r.length (Nat.le_refl _)
        refine Ev.step (fun k => by rw [laws_FnQueues.l1]) (ev_f (by omega) (Ev.bind (impl_totalWait r (by omega)) (Ev.bind (impl_totalWait q (by omega)) (ev_f (show ¬ totalWait r > totalWait q by omega) (ev_call (served_eq q (by omega)) ?_)))))
        by_cases z : (q.length : Int) = 0
        · refine ev_t z ?_
          rw [if_pos z]
          exact tail
        · have e : wrap64 ((q.length : Int) - 1) = (q.length : Int) - 1 := w64 (by omega) (by omega)
          refine ev_f z ?_
          rw [if_neg z, e]
          refine ev_t (by omega) (ev_t (by omega) ?_)
          rw [show ((rd q ((q.length : Int) - 1) == 0) != (rd q ((q.length : Int) - 1) == 0)) = false by simp]
          exact tail
end Go.Proofs.Ytjgonpcajedkjaa.U
