/- The light of a path at a time of the plan: the program's way and the reference's come to one answer. -/
import Derived.Test.YtbpnbflfpgakmaaFI09
import Derived.Test.YtbpnbflfpgakmaaFS09
import Derived.Test.YtbpnbflfpgakmaaUPart
namespace Go.Proofs.Ytbpnbflfpgakmaa.U
open Go.RowKit Go.Proofs.YtbpnbflfpgakmaaW.PrintWords Go.Proofs.YtbpnbflfpgakmaaW.PrintLast Go.Proofs.Ytbpnbflfpgakmaa.P
/-- The light of path id in part i, x seconds after it began. -/
noncomputable def lv (l : List S58) (p : List S51) (i x id : Int) : Int :=
  if id ∈ (rd_T51 p i).f0 then (if x < (rd_T51 p i).f1 ∨ id ∈ (rd_T51 p (nx p i)).f0 then 1 else if x < wrap64 ((rd_T51 p i).f1 + clr (pAt l id)) then 2 else 0) else 0
theorem lv_0 {l : List S58} {p : List S51} {i x id : Int} (h : ¬ id ∈ (rd_T51 p i).f0) : lv l p i x id = 0 := if_neg h
theorem lv_1 {l : List S58} {p : List S51} {i x id : Int} (h : id ∈ (rd_T51 p i).f0) (h1 : x < (rd_T51 p i).f1 ∨ id ∈ (rd_T51 p (nx p i)).f0) : lv l p i x id = 1 := by rw [lv, if_pos h, if_pos h1]
theorem lv_2 {l : List S58} {p : List S51} {i x id : Int} (h : id ∈ (rd_T51 p i).f0) (h1 : ¬ (x < (rd_T51 p i).f1 ∨ id ∈ (rd_T51 p (nx p i)).f0)) : lv l p i x id = if x < wrap64 ((rd_T51 p i).f1 + clr (pAt l id)) then 2 else 0 := by rw [lv, if_pos h, if_neg h1]
theorem lv_bound (l : List S58) (p : List S51) (i x id : Int) : 0 ≤ lv l p i x id ∧ lv l p i x id ≤ 2 := by
  unfold lv
  split
  · split
    · omega
    · split <;> omega
  · omega
theorem lv_iff {l : List S58} {p : List S51} {i x id : Int} : lv l p i x id = 1 ↔ id ∈ (rd_T51 p i).f0 ∧ (x < (rd_T51 p i).f1 ∨ id ∈ (rd_T51 p (nx p i)).f0) := by
  by_cases h : id ∈ (rd_T51 p i).f0
  · by_cases h1 : x < (rd_T51 p i).f1 ∨ id ∈ (rd_T51 p (nx p i)).f0
    · exact ⟨fun _ => ⟨h, h1⟩, fun _ => lv_1 h h1⟩
    · refine ⟨fun e => ?_, fun hh => absurd hh.2 h1⟩
      rw [lv_2 h h1] at e
      split at e <;> omega
  · refine ⟨fun e => ?_, fun hh => absurd hh.1 h⟩
    rw [lv_0 h] at e; omega
theorem fp_id {l : List S58} {id : Int} (h : 0 ≤ impl_FindPath.ix id l 0) : (rd_T58 l (impl_FindPath.ix id l 0)).f0 = id := by
  rcases fp_cases id l with ⟨m, _, h2, _, e⟩ | ⟨_, e⟩
  · rw [e]; exact h2
  · omega
/-- What both ask once the part is known. -/
theorem light_val {l : List S58} {p : List S51} (w : PW l p) {i : Nat} (hi : i < p.length) (x id : Int) (hf : 0 ≤ impl_FindPath.ix id l 0) (y : S58) (hy : y = rd_T58 l (impl_FindPath.ix id l 0)) (hid : y.f0 = id) :
    Ev (fun k => spec_l9Light.f k l p (i : Int) x id) (lv l p (i : Int) x id) ∧ Ev (fun k => (slices_Contains_int_int.f k (rd_T51 p (i : Int)).f0 y.f0).bind fun t => impl_shown.j0 k p (i : Int) x (!t) y.f0 y.f1 y.f2 y.f3) (lv l p (i : Int) x id) := by
  have hp := w.hp
  have hl := w.hl
  have b := nx_bound hi
  have fb := fp_bound id l
  have hxi := w.hx i hi
  have h2 := w.hx (nx p (i : Int)).toNat (by omega)
  rw [Int.toNat_of_nonneg b.1] at h2
  have e1 : wrap64 ((i : Int) + 1) = (i : Int) + 1 := w64 (by omega) (by omega)
  have s0 := spec_has (rd_T51 p (i : Int)).f0 id (by omega)
  have s1 := spec_has (rd_T51 p (nx p (i : Int))).f0 id (by omega)
  have c0 := slices_contains (rd_T51 p (i : Int)).f0 y.f0 (by omega)
  have c1 := slices_contains (rd_T51 p (nx p (i : Int))).f0 y.f0 (by omega)
  rw [hid] at c0 c1
  have hn : impl_nextStage.f p (i : Int) = some (rd_T51 p (nx p (i : Int))).f0 := by
    unfold impl_nextStage.f
    rw [e1, if_neg (by omega), if_pos (show 0 ≤ Int.tmod ((i : Int) + 1) (p.length : Int) from b.1), if_pos (show Int.tmod ((i : Int) + 1) (p.length : Int) < (p.length : Int) from b.2)]
    rfl
  have hpa : y = pAt l id := hy
  have fin : ∀ v : Int, v = (if x < wrap64 ((rd_T51 p (i : Int)).f1 + clr (pAt l id)) then 2 else 0) → Ev (fun k => (spec_FindPath.f k l id).bind fun t545 => (if 0 ≤ t545 then (if t545 < (l.length : Int) then ((spec_ClearOf.f ((rd_T58 l t545).f0) ((rd_T58 l t545).f1) ((rd_T58 l t545).f2) ((rd_T58 l t545).f3)).bind fun t547 => (if x < (wrap64 (((rd_T51 p (i : Int)).f1) + t547)) then (some (2 : Int)) else (some 0))) else (none)) else (none))) v
      ∧ Ev (fun _ => (impl_ClearOf.f y.f0 y.f1 y.f2 y.f3).bind fun t563 => (if x < (wrap64 (((rd_T51 p (i : Int)).f1) + t563)) then (some (2 : Int)) else (some 0))) v := by
    intro v hv
    rw [← hpa] at hv
    by_cases c : x < wrap64 ((rd_T51 p (i : Int)).f1 + clr y)
    · rw [if_pos c] at hv
      subst hv
      refine ⟨Ev.bind (spec_findPath l id (by omega)) (ev_t hf (ev_t fb.2 ?_)), ev_call (impl_clearOf y) (ev_t c (Ev.now _))⟩
      rw [← hy]
      exact ev_call (spec_clearOf y) (ev_t c (Ev.now _))
    · rw [if_neg c] at hv
      subst hv
      refine ⟨Ev.bind (spec_findPath l id (by omega)) (ev_t hf (ev_t fb.2 ?_)), ev_call (impl_clearOf y) (ev_f c (Ev.now _))⟩
      rw [← hy]
      exact ev_call (spec_clearOf y) (ev_f c (Ev.now _))
  unfold spec_l9Light.f
  rw [e1, hid]
  by_cases m0 : id ∈ (rd_T51 p (i : Int)).f0
  · rw [decide_eq_true m0] at s0 c0
    by_cases g : x < (rd_T51 p (i : Int)).f1
    · rw [lv_1 m0 (.inl g)]
      refine ⟨ev_f (by omega) (ev_t b.1 (ev_t b.2 (ev_t (by omega) (ev_t (by omega) (Ev.bind s0 (ev_t rfl (ev_t g ?_))))))), Ev.bind c0 ?_⟩
      · refine Ev.step (fun k => by rw [spec_l9Light.j0]) ?_
        exact ev_t rfl (Ev.now _)
      · refine Ev.step (fun k => by rw [impl_shown.j0]) ?_
        refine ev_f (by decide) (ev_t (by omega) (ev_t (by omega) (ev_t g ?_)))
        refine Ev.step (fun k => by rw [impl_shown.j1]) ?_
        exact ev_t rfl (Ev.now _)
    · by_cases m1 : id ∈ (rd_T51 p (nx p (i : Int))).f0
      · rw [decide_eq_true m1] at s1 c1
        rw [lv_1 m0 (.inr m1)]
        refine ⟨ev_f (by omega) (ev_t b.1 (ev_t b.2 (ev_t (by omega) (ev_t (by omega) (Ev.bind s0 (ev_t rfl (ev_f g (Ev.bind s1 ?_)))))))), Ev.bind c0 ?_⟩
        · refine Ev.step (fun k => by rw [spec_l9Light.j0]) ?_
          exact ev_t rfl (Ev.now _)
        · refine Ev.step (fun k => by rw [impl_shown.j0]) ?_
          refine ev_f (by decide) (ev_t (by omega) (ev_t (by omega) (ev_f g (ev_call hn (Ev.bind c1 ?_)))))
          refine Ev.step (fun k => by rw [impl_shown.j1]) ?_
          exact ev_t rfl (Ev.now _)
      · rw [decide_eq_false m1] at s1 c1
        obtain ⟨f1, f2⟩ := fin _ (lv_2 m0 (fun hh => hh.elim g m1))
        refine ⟨ev_f (by omega) (ev_t b.1 (ev_t b.2 (ev_t (by omega) (ev_t (by omega) (Ev.bind s0 (ev_t rfl (ev_f g (Ev.bind s1 ?_)))))))), Ev.bind c0 ?_⟩
        · refine Ev.step (fun k => by rw [spec_l9Light.j0]) ?_
          exact ev_f (by decide) (ev_t rfl (ev_t (by omega) (ev_t (by omega) f1)))
        · refine Ev.step (fun k => by rw [impl_shown.j0]) ?_
          refine ev_f (by decide) (ev_t (by omega) (ev_t (by omega) (ev_f g (ev_call hn (Ev.bind c1 ?_)))))
          rw [hid] at f2
          refine Ev.step (fun k => by rw [impl_shown.j1]) ?_
          exact ev_f (by decide) (ev_t (by omega) (ev_t (by omega) f2))
  · rw [decide_eq_false m0] at s0 c0
    rw [lv_0 m0]
    refine ⟨ev_f (by omega) (ev_t b.1 (ev_t b.2 (ev_t (by omega) (ev_t (by omega) (Ev.bind s0 (ev_f (by decide) ?_)))))), Ev.bind c0 ?_⟩
    · refine Ev.step (fun k => by rw [spec_l9Light.j0]) ?_
      exact ev_f (by decide) (ev_f (by decide) (Ev.now _))
    · refine Ev.step (fun k => by rw [impl_shown.j0]) ?_
      exact ev_t rfl (Ev.now _)
noncomputable def laV (l : List S58) (p : List S51) (a id : Int) : Int := if impl_FindPath.ix id l 0 < 0 ∨ (paV l p a).1 < 0 then 0 else lv l p (paV l p a).1 (paV l p a).2 id
theorem laV_0 {l : List S58} {p : List S51} {a id : Int} (h : impl_FindPath.ix id l 0 < 0 ∨ (paV l p a).1 < 0) : laV l p a id = 0 := if_pos h
theorem laV_1 {l : List S58} {p : List S51} {a id : Int} (h : ¬ (impl_FindPath.ix id l 0 < 0 ∨ (paV l p a).1 < 0)) : laV l p a id = lv l p (paV l p a).1 (paV l p a).2 id := if_neg h
theorem laV_bound (l : List S58) (p : List S51) (a id : Int) : 0 ≤ laV l p a id ∧ laV l p a id ≤ 2 := by
  unfold laV
  split
  · omega
  · exact lv_bound ..
theorem lightAt_val {l : List S58} {p : List S51} (w : PW l p) (a id : Int) : Ev (fun k => spec_LightAt.f k l p a id) (laV l p a id) ∧ Ev (fun k => impl_LightAt.f k l p a id) (laV l p a id) := by
  have hl := w.hl
  have fb := fp_bound id l
  have sf := spec_findPath l id (by omega)
  obtain ⟨q1, q2⟩ := partAt_val w a
  unfold spec_LightAt.f impl_LightAt.f impl_shown.f
  by_cases hf : impl_FindPath.ix id l 0 < 0
  · rw [laV_0 (.inl hf)]
    exact ⟨Ev.bind q1 (ev_ite (fun _ => Ev.now _) (fun _ => Ev.bind sf (ev_t hf (Ev.now _)))), ev_call (impl_findPath l id) (ev_t hf (Ev.now _))⟩
  · by_cases hr : inT l p a
    · obtain ⟨m, y, hm, h0, h1, _, em⟩ := paV_at hr
      rw [laV_1 (by rw [em]; show ¬ (_ ∨ (m : Int) < 0); omega)]
      rw [em] at q1 q2 ⊢
      obtain ⟨v1, v2⟩ := light_val w hm y id (by omega) (rd_T58 l (impl_FindPath.ix id l 0)) rfl (fp_id (by omega))
      refine ⟨Ev.bind q1 (ev_f (show ¬ (m : Int) < 0 by omega) (Ev.bind sf (ev_f hf (Ev.bind v1 (Ev.now _))))), ev_call (impl_findPath l id) (ev_f hf (ev_t (by omega) (ev_t fb.2 (Ev.bind (Ev.bind q2 (ev_f (show ¬ (m : Int) < 0 by omega) (ev_t (show 0 ≤ (m : Int) by omega) (ev_t (show (m : Int) < (p.length : Int) by omega) v2)))) (Ev.now _)))))⟩
    · rw [paV_f hr] at q1 q2
      rw [laV_0 (by rw [paV_f hr]; exact .inr (by decide))]
      refine ⟨Ev.bind q1 (ev_t (by decide) (Ev.now _)), ev_call (impl_findPath l id) (ev_f hf (ev_t (by omega) (ev_t fb.2 (Ev.bind (Ev.bind q2 (ev_t (by decide) ?_)) (Ev.now _)))))⟩
      refine Ev.step (fun k => by rw [impl_shown.j0]) ?_
      exact ev_t rfl (Ev.now _)
end Go.Proofs.Ytbpnbflfpgakmaa.U
