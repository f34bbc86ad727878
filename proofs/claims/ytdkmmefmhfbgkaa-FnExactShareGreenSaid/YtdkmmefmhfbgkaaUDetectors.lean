/- A list of detectors in form: the program's way and the reference's. -/
import Derived.Test.YtdkmmefmhfbgkaaFX00b
import Derived.Test.YtdkmmefmhfbgkaaFX00c
import Derived.Test.YtdkmmefmhfbgkaaFX00d
import Derived.Test.YtdkmmefmhfbgkaaUPaths
import Derived.Test.YtdkmmefmhfbgkaaUFind
import Derived.Test.YtdkmmefmhfbgkaaURd
set_option linter.unusedVariables false
set_option linter.unusedSimpArgs false
namespace Go.Proofs.Ytdkmmefmhfbgkaa.U
open Go.RowKit Go.Proofs.YtdkmmefmhfbgkaaW.PrintWords Go.Proofs.YtdkmmefmhfbgkaaW.PrintLast Go.Proofs.Ytdkmmefmhfbgkaa.P
def dOk (l : List S89) (x : S128) : Prop := 0 ≤ impl_FindPath.ix x.f0 l 0 ∧ (0 ≤ x.f1 ∧ x.f1 ≤ 1000) ∧ (0 ≤ x.f2 ∧ x.f2 ≤ 100000)
instance (l : List S89) (x : S128) : Decidable (dOk l x) := by unfold dOk; infer_instance
def dNew (d : List S128) (i : Nat) : Prop := ∀ j : Nat, j < i → (rd_T128 d (j : Int)).f0 ≠ (rd_T128 d (i : Int)).f0
def dStep (l : List S89) (d : List S128) (i : Nat) : Prop := dOk l (rd_T128 d (i : Int)) ∧ dNew d i
noncomputable def areD (l : List S89) (d : List S128) : Bool := bo (∀ i, i < d.length → dStep l d i) && (areP l && decide ((d.length : Int) ≤ 12))
theorem rd_take128 (d : List S128) (i j : Nat) (h : j < i) (hi : i ≤ d.length) : rd_T128 (d.take i) (j : Int) = rd_T128 d (j : Int) := by
  rw [rd128 _ j (by rw [List.length_take]; omega), rd128 _ j (by omega), List.getElem_take]
theorem spec_areDetectors (l : List S89) (d : List S128) (h : l.length ≤ 1048576) (hd : d.length ≤ 1048576) : Ev (fun k => spec_AreDetectors.f k l d) (areD l d) := by
  unfold spec_AreDetectors.f areD
  have hin : ∀ i : Nat, i < d.length → ∀ r, (dNew d i → Ev (fun k => spec_AreDetectors.l0 k l d ((i + 1 : Nat) : Int)) r) → (¬ dNew d i → r = false) → Ev (fun k => spec_AreDetectors.l1 k l d (i : Int) 0) r := by
    intro i hi r h1 h2
    by_cases hn : dNew d i
    · refine ev_for0 (F := fun k j => spec_AreDetectors.l1 k l d (i : Int) (j : Int)) i (fun j hj ih => ?_) ?_
      · have := hn j hj
        refine Ev.step (fun k => by rw [spec_AreDetectors.l1]) (ev_t (by omega) (ev_t (by omega) (ev_t (by omega) (ev_t (by omega) (ev_t (by omega) (ev_f this ?_))))))
        rw [w_succ (n := d.length) (by omega) (by omega)]
        exact ih
      · refine Ev.step (fun k => by rw [spec_AreDetectors.l1]) (ev_f (by omega) ?_)
        rw [w_succ hi (by omega)]
        exact h1 hn
    · rw [h2 hn]
      obtain ⟨m, hm, m1, m2⟩ := first_fail i hn
      refine ev_for0 (F := fun k j => spec_AreDetectors.l1 k l d (i : Int) (j : Int)) m (fun j hj ih => ?_) ?_
      · have := m2 j hj
        refine Ev.step (fun k => by rw [spec_AreDetectors.l1]) (ev_t (by omega) (ev_t (by omega) (ev_t (by omega) (ev_t (by omega) (ev_t (by omega) (ev_f this ?_))))))
        rw [w_succ (n := d.length) (by omega) (by omega)]
        exact ih
      · refine Ev.step (fun k => by rw [spec_AreDetectors.l1]) ?_
        exact ev_t (by omega) (ev_t (by omega) (ev_t (by omega) (ev_t (by omega) (ev_t (by omega) (ev_t (Classical.not_not.1 m1) (Ev.now _))))))
  have hout : ∀ i : Nat, i < d.length → ∀ r, (dOk l (rd_T128 d (i : Int)) → Ev (fun k => spec_AreDetectors.l1 k l d (i : Int) 0) r) → (¬ dOk l (rd_T128 d (i : Int)) → r = false) → Ev (fun k => spec_AreDetectors.l0 k l d (i : Int)) r := by
    intro i hi r h1 h2
    refine Ev.step (fun k => by rw [spec_AreDetectors.l0]) (ev_t (by omega) (ev_t (by omega) (Ev.bind (spec_findPath l _ (by omega)) ?_)))
    have bad : ¬ dOk l (rd_T128 d (i : Int)) → Ev (fun k => spec_AreDetectors.j1 k l d (i : Int) true) r := fun hb => by
      rw [h2 hb]
      exact Ev.step (fun k => by rw [spec_AreDetectors.j1]) (ev_t rfl (Ev.now _))
    refine ev_ite (fun c1 => bad (fun hh => absurd hh.1 (by omega))) (fun c1 => ev_call (spec_l1In_eq _ _ _) (ev_ite (fun c2 => ev_call (spec_l1In_eq _ _ _) ?_) (fun c2 => bad (fun hh => c2 (decide_eq_true hh.2.1)))))
    have c2 := of_decide_eq_true c2
    by_cases c3 : 0 ≤ (rd_T128 d (i : Int)).f2 ∧ (rd_T128 d (i : Int)).f2 ≤ 100000
    · rw [decide_eq_true c3]
      exact Ev.step (fun k => by rw [spec_AreDetectors.j1]) (ev_f (by decide) (h1 ⟨by omega, c2, c3⟩))
    · rw [decide_eq_false c3]
      exact bad (fun hh => c3 hh.2.2)
  refine ev_all (F := fun k i => spec_AreDetectors.l0 k l d (i : Int)) (dStep l d) d.length (fun i hi hp r ih => ?_) (fun i hi hp => ?_) (fun _ => ?_)
  · exact hout i hi r (fun _ => hin i hi r (fun _ => ih) (fun hn => absurd hp.2 hn)) (fun hn => absurd hp.1 hn)
  · exact hout i hi false (fun ho => hin i hi false (fun hn => absurd ⟨ho, hn⟩ hp) (fun _ => rfl)) (fun _ => rfl)
  · refine Ev.step (fun k => by rw [spec_AreDetectors.l0]) (ev_f (by omega) (Ev.bind (spec_arePaths l (by omega)) ?_))
    cases areP l with
    | true => exact ev_t rfl (Ev.now _)
    | false => exact ev_f (by decide) (Ev.now _)
theorem impl_areDetectors (l : List S89) (d : List S128) (h : l.length ≤ 1048576) (hd : d.length ≤ 1048576) : Ev (fun k => impl_AreDetectors.f k l d) (areD l d) := by
  unfold impl_AreDetectors.f
  refine Ev.bind (impl_arePaths l (by omega)) ?_
  have jt : Ev (fun k => impl_AreDetectors.j0 k l d true) false := Ev.step (fun k => by rw [impl_AreDetectors.j0]) (ev_t rfl (Ev.now _))
  cases hp : areP l with
  | false =>
    have e : areD l d = false := by unfold areD; rw [hp, Bool.false_and, Bool.and_false]
    rw [e]
    exact ev_f (by decide) jt
  | true =>
  refine ev_t rfl ?_
  by_cases hl : (d.length : Int) > 12
  · have e : areD l d = false := by unfold areD; rw [decide_eq_false (show ¬ (d.length : Int) ≤ 12 by omega), Bool.and_false, Bool.and_false]
    rw [e, decide_eq_true hl]
    exact jt
  rw [decide_eq_false hl]
  refine Ev.step (fun k => by rw [impl_AreDetectors.j0]) (ev_f (by decide) ?_)
  have e : areD l d = (bo (∀ i, i < d.length → dStep l d i) && true) := by unfold areD; rw [hp, decide_eq_true (show (d.length : Int) ≤ 12 by omega), Bool.true_and]
  rw [e]
  have hin : ∀ (i : Nat) (a b c : Int) (e : Bool), i < d.length → a = (rd_T128 d (i : Int)).f0 → ∀ r, (dNew d i → Ev (fun k => impl_AreDetectors.l0 k l d d (d.length : Int) ((i + 1 : Nat) : Int)) r) → (¬ dNew d i → r = false) → Ev (fun k => impl_AreDetectors.l1 k l d d (d.length : Int) (i : Int) (d.take i) ((d.take i).length : Int) 0 a b c e) r := by
    intro i a b c e hi ha r h1 h2
    have hlen : (d.take i).length = i := by rw [List.length_take]; omega
    rw [hlen]
    by_cases hn : dNew d i
    · refine ev_for0 (F := fun k j => impl_AreDetectors.l1 k l d d (d.length : Int) (i : Int) (d.take i) (i : Int) (j : Int) a b c e) i (fun j hj ih => ?_) ?_
      · have := hn j hj
        refine Ev.step (fun k => by rw [impl_AreDetectors.l1]) (ev_t (by omega) (ev_t (by omega) (ev_t (by rw [hlen]; omega) (ev_f (by rw [rd_take128 d i j hj (by omega), ha]; exact fun e => this e.symm) ?_))))
        rw [w_succ (n := d.length) (by omega) (by omega)]
        exact ih
      · refine Ev.step (fun k => by rw [impl_AreDetectors.l1]) (ev_f (by omega) ?_)
        rw [w_succ hi (by omega)]
        exact h1 hn
    · rw [h2 hn]
      obtain ⟨m, hm, m1, m2⟩ := first_fail i hn
      refine ev_for0 (F := fun k j => impl_AreDetectors.l1 k l d d (d.length : Int) (i : Int) (d.take i) (i : Int) (j : Int) a b c e) m (fun j hj ih => ?_) ?_
      · have := m2 j hj
        refine Ev.step (fun k => by rw [impl_AreDetectors.l1]) (ev_t (by omega) (ev_t (by omega) (ev_t (by rw [hlen]; omega) (ev_f (by rw [rd_take128 d i j (by omega) (by omega), ha]; exact fun e => this e.symm) ?_))))
        rw [w_succ (n := d.length) (by omega) (by omega)]
        exact ih
      · refine Ev.step (fun k => by rw [impl_AreDetectors.l1]) ?_
        exact ev_t (by omega) (ev_t (by omega) (ev_t (by rw [hlen]; omega) (ev_t (by rw [rd_take128 d i m hm (by omega), ha]; exact (Classical.not_not.1 m1).symm) (Ev.now _))))
  have hout : ∀ i : Nat, i < d.length → ∀ r, (dOk l (rd_T128 d (i : Int)) → (dNew d i → Ev (fun k => impl_AreDetectors.l0 k l d d (d.length : Int) ((i + 1 : Nat) : Int)) r) ∧ (¬ dNew d i → r = false)) → (¬ dOk l (rd_T128 d (i : Int)) → r = false) → Ev (fun k => impl_AreDetectors.l0 k l d d (d.length : Int) (i : Int)) r := by
    intro i hi r h1 h2
    refine Ev.step (fun k => by rw [impl_AreDetectors.l0]) (ev_t (by omega) (ev_t (by omega) (ev_t (by omega) (ev_call (impl_findPath l _) ?_))))
    have bad : ∀ a b c e, ¬ dOk l (rd_T128 d (i : Int)) → Ev (fun k => impl_AreDetectors.j2 k l d (i : Int) d (d.length : Int) (i : Int) true a b c e) r := fun a b c e hb => by
      rw [h2 hb]
      exact Ev.step (fun k => by rw [impl_AreDetectors.j2]) (ev_t rfl (Ev.now _))
    refine ev_ite (fun c1 => bad _ _ _ _ (fun hh => absurd hh.1 (by omega))) (fun c1 => ev_call (impl_InRange_eq _ _ _) (ev_ite (fun c2 => ev_call (impl_InRange_eq _ _ _) ?_) (fun c2 => bad _ _ _ _ (fun hh => c2 (decide_eq_true hh.2.1)))))
    have c2 := of_decide_eq_true c2
    by_cases c3 : 0 ≤ (rd_T128 d (i : Int)).f2 ∧ (rd_T128 d (i : Int)).f2 ≤ 100000
    · rw [decide_eq_true c3]
      obtain ⟨h3, h4⟩ := h1 ⟨by omega, c2, c3⟩
      refine Ev.step (fun k => by rw [impl_AreDetectors.j2]) (ev_f (by decide) (ev_t (by omega) (ev_t (by omega) (ev_some ?_))))
      rw [Int.toNat_natCast]
      exact hin i _ _ _ _ hi rfl r h3 h4
    · rw [decide_eq_false c3]
      exact bad _ _ _ _ (fun hh => c3 hh.2.2)
  refine ev_all (F := fun k i => impl_AreDetectors.l0 k l d d (d.length : Int) (i : Int)) (dStep l d) d.length (fun i hi hp r ih => ?_) (fun i hi hp => ?_) (fun _ => ?_)
  · exact hout i hi r (fun _ => ⟨fun _ => ih, fun hn => absurd hp.2 hn⟩) (fun hn => absurd hp.1 hn)
  · exact hout i hi false (fun ho => ⟨fun hn => absurd ⟨ho, hn⟩ hp, fun _ => rfl⟩) (fun _ => rfl)
  · refine Ev.step (fun k => by rw [impl_AreDetectors.l0]) ?_
    exact ev_f (by omega) (Ev.now _)
end Go.Proofs.Ytdkmmefmhfbgkaa.U
