/- Which part of a plan stands at a second: the program's way and the reference's come to one answer. -/
import Derived.Test.YtjgonpcajedkjaaFX00c
import Derived.Test.YtjgonpcajedkjaaULong
set_option linter.unusedVariables false
set_option linter.unusedSimpArgs false
namespace Go.Proofs.Ytjgonpcajedkjaa.U
open Go.RowKit Go.Proofs.YtjgonpcajedkjaaW.PrintWords Go.Proofs.YtjgonpcajedkjaaW.PrintLast Go.Proofs.Ytjgonpcajedkjaa.P
theorem cyc_succ (l : List S50) (p : List S85) (i : Nat) : cyc l p (i + 1) = cyc l p i + longV l p (i : Int) := rfl
theorem cyc_mono {l : List S50} {p : List S85} (h : plan l p = true) : ∀ d i, i + d ≤ p.length → cyc l p i + 5 * (d : Int) ≤ cyc l p (i + d)
  | 0, i, _ => by simp
  | d + 1, i, hi => by
    have h1 := cyc_mono h d i (by omega)
    have h2 := long_bound h (i := i + d) (by omega)
    have e : cyc l p (i + (d + 1)) = cyc l p (i + d) + longV l p ((i + d : Nat) : Int) := rfl
    omega
theorem part_of {l : List S50} {p : List S85} : ∀ n x, 0 ≤ x → x < cyc l p n → ∃ (m : Nat) (y : Int), m < n ∧ 0 ≤ y ∧ y < longV l p (m : Int) ∧ x = cyc l p m + y
  | 0, x, h0, h1 => by simp [cyc] at h1; omega
  | n + 1, x, h0, h1 => by
    by_cases c : x < cyc l p n
    · obtain ⟨m, y, h2, h3⟩ := part_of n x h0 c
      exact ⟨m, y, by omega, h3⟩
    · rw [cyc_succ] at h1
      exact ⟨n, x - cyc l p n, by omega, by omega, by omega, by omega⟩
/-- The part and how long it has lasted, from part i on. -/
noncomputable def pa (l : List S50) (p : List S85) : Nat → Nat → Int → Int × Int
  | 0, i, x => ((i : Int), x)
  | d + 1, i, x => if x < longV l p (i : Int) then ((i : Int), x) else pa l p d (i + 1) (x - longV l p (i : Int))
theorem pa_t {l : List S50} {p : List S85} {d i : Nat} {x : Int} (h : x < longV l p (i : Int)) : pa l p (d + 1) i x = ((i : Int), x) := by rw [pa, if_pos h]
theorem pa_f {l : List S50} {p : List S85} {d i : Nat} {x : Int} (h : ¬ x < longV l p (i : Int)) : pa l p (d + 1) i x = pa l p d (i + 1) (x - longV l p (i : Int)) := by rw [pa, if_neg h]
theorem pa_at {l : List S50} {p : List S85} (h : plan l p = true) {m : Nat} {y : Int} (h0 : 0 ≤ y) (h1 : y < longV l p (m : Int)) (hm : m < p.length) : ∀ d i, i + d = p.length → i ≤ m → pa l p d i (cyc l p m - cyc l p i + y) = ((m : Int), y)
  | 0, i, hd, hi => by omega
  | d + 1, i, hd, hi => by
    rcases Nat.lt_or_ge i m with hlt | hge
    · have m1 := cyc_mono h (m - (i + 1)) (i + 1) (by omega)
      rw [show i + 1 + (m - (i + 1)) = m by omega, cyc_succ] at m1
      rw [pa_f (by omega), show cyc l p m - cyc l p i + y - longV l p (i : Int) = cyc l p m - cyc l p (i + 1) + y by rw [cyc_succ]; omega]
      exact pa_at h h0 h1 hm d (i + 1) (by omega) hlt
    · have e : i = m := by omega
      subst e
      rw [show cyc l p i - cyc l p i + y = y by omega]
      exact pa_t h1
theorem impl_partRun {l : List S50} {p : List S85} (w : PW l p) (h : plan l p = true) : ∀ d i : Nat, i + d = p.length → ∀ x : Int, 0 ≤ x → x < cyc l p p.length - cyc l p i →
    Ev (fun k => impl_PartAt.l0 k l p x (i : Int)) (pa l p d i x)
  | 0, i, hi, x, h0, h1 => by
    have e : i = p.length := by omega
    subst e
    omega
  | d + 1, i, hi, x, h0, h1 => by
    have hlt : i < p.length := by omega
    have hp := w.hp
    have hn := plan_len h
    have b1 := cyc_bound h p.length (by omega)
    have b3 := cyc_bound h i (by omega)
    have b2 := long_bound h hlt
    refine Ev.step (fun k => by rw [impl_PartAt.l0]) ?_
    by_cases c : x < longV l p (i : Int)
    · rw [pa_t c]
      exact Ev.bind (impl_long w h hlt) (ev_f (show ¬ x ≥ longV l p (i : Int) by omega) (Ev.now _))
    · rw [pa_f c]
      have e : cyc l p (i + 1) = cyc l p i + longV l p (i : Int) := rfl
      have v := impl_partRun w h d (i + 1) (by omega) (x - longV l p (i : Int)) (by omega) (by omega)
      have e1 : wrap64 ((i : Int) + 1) = ((i + 1 : Nat) : Int) := w_succ hlt (by omega)
      have e2 : wrap64 (x - longV l p (i : Int)) = x - longV l p (i : Int) := w64 (by omega) (by omega)
      refine Ev.bind (impl_long w h hlt) (ev_t (show x ≥ longV l p (i : Int) by omega) (Ev.bind (impl_long w h hlt) ?_))
      rw [e1, e2]; exact v
def inT (l : List S50) (p : List S85) (a : Int) : Prop := plan l p = true ∧ 0 ≤ a ∧ a ≤ 1000000
noncomputable def paV (l : List S50) (p : List S85) (a : Int) : Int × Int := if bo (inT l p a) = true then pa l p p.length 0 (Int.tmod a (cyc l p p.length)) else (-1, 0)
theorem paV_t {l : List S50} {p : List S85} {a : Int} (h : inT l p a) : paV l p a = pa l p p.length 0 (Int.tmod a (cyc l p p.length)) := if_pos (bo_t h)
theorem paV_f {l : List S50} {p : List S85} {a : Int} (h : ¬ inT l p a) : paV l p a = (-1, 0) := if_neg (by rw [bo_f h]; decide)
theorem tm_bound {l : List S50} {p : List S85} {a : Int} (h : plan l p = true) (h0 : 0 ≤ a) : 0 ≤ Int.tmod a (cyc l p p.length) ∧ Int.tmod a (cyc l p p.length) < cyc l p p.length := by
  have hn := plan_len h
  have cb := cyc_bound h p.length (by omega)
  exact ⟨Int.tmod_nonneg _ h0, Int.tmod_lt_of_pos _ (by omega)⟩
/-- The part at a time: where it is, and that it is so. -/
theorem paV_at {l : List S50} {p : List S85} {a : Int} (h : inT l p a) : ∃ (m : Nat) (y : Int), m < p.length ∧ 0 ≤ y ∧ y < longV l p (m : Int) ∧ Int.tmod a (cyc l p p.length) = cyc l p m + y ∧ paV l p a = ((m : Int), y) := by
  obtain ⟨t1, t2⟩ := tm_bound h.1 h.2.1
  obtain ⟨m, y, hm, h0, h1, e⟩ := part_of p.length _ t1 t2
  refine ⟨m, y, hm, h0, h1, e, ?_⟩
  rw [paV_t h, e]
  have := pa_at h.1 h0 h1 hm p.length 0 (by omega) (by omega)
  rw [show cyc l p m - cyc l p 0 + y = cyc l p m + y by simp [cyc]] at this
  exact this
theorem impl_partAt {l : List S50} {p : List S85} (w : PW l p) (a : Int) : Ev (fun k => impl_PartAt.f k l p a) (paV l p a) := by
  have hp := w.hp
  have ic := impl_cycle w
  have it : ∀ t, Ev (fun k => impl_PartAt.j0 k l p a t true) (-1, 0) := fun t => Ev.step (fun k => by rw [impl_PartAt.j0]) (ev_t rfl (Ev.now _))
  unfold impl_PartAt.f
  by_cases h : plan l p = true
  · have hn := plan_len h
    have cb := cyc_bound h p.length (by omega)
    have ce := cycV_t h
    have c0 : ¬ cycV l p = 0 := by omega
    have q1 := impl_InRange_eq a 0 1000000
    by_cases hr : 0 ≤ a ∧ a ≤ 1000000
    · rw [decide_eq_true hr] at q1
      obtain ⟨t1, t2⟩ := tm_bound h hr.1
      rw [paV_t ⟨h, hr⟩]
      have v := impl_partRun w h p.length 0 (by omega) (Int.tmod a (cyc l p p.length)) t1 (by rw [show cyc l p 0 = 0 from rfl]; omega)
      rw [← ce] at v ⊢
      refine Ev.bind ic (ev_f c0 (ev_call q1 ?_))
      refine Ev.step (fun k => by rw [impl_PartAt.j0]) ?_
      exact ev_f (by decide) (ev_f c0 v)
    · rw [decide_eq_false hr] at q1
      rw [paV_f (fun hh => hr hh.2)]
      exact Ev.bind ic (ev_f c0 (ev_call q1 (it _)))
  · have ce := cycV_f h
    rw [paV_f (fun hh => h hh.1)]
    exact Ev.bind ic (ev_t ce (it _))
end Go.Proofs.Ytjgonpcajedkjaa.U
