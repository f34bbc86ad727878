/- The light of a path at a time of the plan: the program's way and the reference's come to one answer. -/
import Derived.Test.YtjgonpcajedkjaaFX00b
import Derived.Test.YtjgonpcajedkjaaFX00c
import Derived.Test.YtjgonpcajedkjaaFX00d
import Derived.Test.YtjgonpcajedkjaaUPart
set_option linter.unusedVariables false
set_option linter.unusedSimpArgs false
namespace Go.Proofs.Ytjgonpcajedkjaa.U
open Go.RowKit Go.Proofs.YtjgonpcajedkjaaW.PrintWords Go.Proofs.YtjgonpcajedkjaaW.PrintLast Go.Proofs.Ytjgonpcajedkjaa.P
/-- The light of path id in part i, x seconds after it began. -/
noncomputable def lv (l : List S50) (p : List S85) (i x id : Int) : Int :=
  if id ∈ (rd_T85 p i).f0 then (if x < (rd_T85 p i).f1 ∨ id ∈ (rd_T85 p (nx p i)).f0 then 1 else if x < wrap64 ((rd_T85 p i).f1 + clr (pAt l id)) then 2 else 0) else 0
theorem lv_0 {l : List S50} {p : List S85} {i x id : Int} (h : ¬ id ∈ (rd_T85 p i).f0) : lv l p i x id = 0 := if_neg h
theorem lv_1 {l : List S50} {p : List S85} {i x id : Int} (h : id ∈ (rd_T85 p i).f0) (h1 : x < (rd_T85 p i).f1 ∨ id ∈ (rd_T85 p (nx p i)).f0) : lv l p i x id = 1 := by rw [lv, if_pos h, if_pos h1]
theorem lv_2 {l : List S50} {p : List S85} {i x id : Int} (h : id ∈ (rd_T85 p i).f0) (h1 : ¬ (x < (rd_T85 p i).f1 ∨ id ∈ (rd_T85 p (nx p i)).f0)) : lv l p i x id = if x < wrap64 ((rd_T85 p i).f1 + clr (pAt l id)) then 2 else 0 := by rw [lv, if_pos h, if_neg h1]
theorem fp_id {l : List S50} {id : Int} (h : 0 ≤ impl_FindPath.ix id l 0) : (rd_T50 l (impl_FindPath.ix id l 0)).f0 = id := by
  rcases fp_cases id l with ⟨m, _, h2, _, e⟩ | ⟨_, e⟩
  · rw [e]; exact h2
  · omega
/-- What the program asks once the part is known. -/
theorem impl_lightV {l : List S50} {p : List S85} (w : PW l p) {i : Nat} (hi : i < p.length) (x id : Int) (hf : 0 ≤ impl_FindPath.ix id l 0) (y : S50) (hy : y = rd_T50 l (impl_FindPath.ix id l 0)) (hid : y.f0 = id) :
    Ev (fun k => (slices_Contains_int_int.f k (rd_T85 p (i : Int)).f0 y.f0).bind fun t => impl_shown.j0 k p (i : Int) x (!t) y.f0 y.f1 y.f2 y.f3) (lv l p (i : Int) x id) := by
  have hp := w.hp
  have hl := w.hl
  have b := nx_bound hi
  have fb := fp_bound id l
  have hxi := w.hx i hi
  have h2 := w.hx (nx p (i : Int)).toNat (by omega)
  rw [Int.toNat_of_nonneg b.1] at h2
  have e1 : wrap64 ((i : Int) + 1) = (i : Int) + 1 := w64 (by omega) (by omega)
  have hpa : y = pAt l id := hy
  have c0 := slices_contains (rd_T85 p (i : Int)).f0 y.f0 (by omega)
  have c1 := slices_contains (rd_T85 p (nx p (i : Int))).f0 y.f0 (by omega)
  rw [hid] at c0 c1
  have hn : impl_nextStage.f p (i : Int) = some (rd_T85 p (nx p (i : Int))).f0 := by
    unfold impl_nextStage.f
    rw [e1, if_neg (by omega), if_pos (show 0 ≤ Int.tmod ((i : Int) + 1) (p.length : Int) from b.1), if_pos (show Int.tmod ((i : Int) + 1) (p.length : Int) < (p.length : Int) from b.2)]
    rfl
  rw [hid]
  refine Ev.bind c0 ?_
  by_cases m0 : id ∈ (rd_T85 p (i : Int)).f0
  · rw [decide_eq_true m0]
    refine Ev.step (fun k => by rw [impl_shown.j0]) ?_
    refine ev_f (by decide) (ev_t (by omega) (ev_t (by omega) ?_))
    by_cases g : x < (rd_T85 p (i : Int)).f1
    · rw [lv_1 m0 (.inl g)]
      refine ev_t g ?_
      exact Ev.step (fun k => by rw [impl_shown.j1]) (ev_t rfl (Ev.now _))
    · refine ev_f g (ev_call hn (Ev.bind c1 ?_))
      by_cases m1 : id ∈ (rd_T85 p (nx p (i : Int))).f0
      · rw [decide_eq_true m1, lv_1 m0 (.inr m1)]
        exact Ev.step (fun k => by rw [impl_shown.j1]) (ev_t rfl (Ev.now _))
      · rw [decide_eq_false m1, lv_2 m0 (fun hh => hh.elim g m1), ← hpa]
        refine Ev.step (fun k => by rw [impl_shown.j1]) ?_
        refine ev_f (by decide) (ev_t (by omega) (ev_t (by omega) ?_))
        rw [← hid]
        refine ev_call (impl_clearOf y) ?_
        by_cases c : x < wrap64 ((rd_T85 p (i : Int)).f1 + clr y)
        · rw [show (if x < wrap64 ((rd_T85 p (i : Int)).f1 + clr y) then (2 : Int) else 0) = 2 from if_pos c]
          exact ev_t c (Ev.now _)
        · rw [show (if x < wrap64 ((rd_T85 p (i : Int)).f1 + clr y) then (2 : Int) else 0) = 0 from if_neg c]
          exact ev_f c (Ev.now _)
  · rw [decide_eq_false m0, lv_0 m0]
    refine Ev.step (fun k => by rw [impl_shown.j0]) ?_
    exact ev_t rfl (Ev.now _)
noncomputable def laV (l : List S50) (p : List S85) (a id : Int) : Int := if impl_FindPath.ix id l 0 < 0 ∨ (paV l p a).1 < 0 then 0 else lv l p (paV l p a).1 (paV l p a).2 id
theorem laV_0 {l : List S50} {p : List S85} {a id : Int} (h : impl_FindPath.ix id l 0 < 0 ∨ (paV l p a).1 < 0) : laV l p a id = 0 := if_pos h
theorem laV_1 {l : List S50} {p : List S85} {a id : Int} (h : ¬ (impl_FindPath.ix id l 0 < 0 ∨ (paV l p a).1 < 0)) : laV l p a id = lv l p (paV l p a).1 (paV l p a).2 id := if_neg h
theorem impl_lightAt {l : List S50} {p : List S85} (w : PW l p) (a id : Int) : Ev (fun k => impl_LightAt.f k l p a id) (laV l p a id) := by
  have hl := w.hl
  have fb := fp_bound id l
  have q2 := impl_partAt w a
  unfold impl_LightAt.f impl_shown.f
  by_cases hf : impl_FindPath.ix id l 0 < 0
  · rw [laV_0 (.inl hf)]
    exact ev_call (impl_findPath l id) (ev_t hf (Ev.now _))
  · by_cases hr : inT l p a
    · obtain ⟨m, y, hm, h0, h1, _, em⟩ := paV_at hr
      rw [laV_1 (by rw [em]; show ¬ (_ ∨ (m : Int) < 0); omega)]
      rw [em] at q2 ⊢
      have v2 := impl_lightV w hm y id (by omega) (rd_T50 l (impl_FindPath.ix id l 0)) rfl (fp_id (by omega))
      exact ev_call (impl_findPath l id) (ev_f hf (ev_t (by omega) (ev_t fb.2 (Ev.bind (Ev.bind q2 (ev_f (show ¬ (m : Int) < 0 by omega) (ev_t (show 0 ≤ (m : Int) by omega) (ev_t (show (m : Int) < (p.length : Int) by omega) v2)))) (Ev.now _)))))
    · rw [paV_f hr] at q2
      rw [laV_0 (by rw [paV_f hr]; exact .inr (by decide))]
      refine ev_call (impl_findPath l id) (ev_f hf (ev_t (by omega) (ev_t fb.2 (Ev.bind (Ev.bind q2 (ev_t (by decide) ?_)) (Ev.now _)))))
      exact Ev.step (fun k => by rw [impl_shown.j0]) (ev_t rfl (Ev.now _))
end Go.Proofs.Ytjgonpcajedkjaa.U
