/- Which part of a plan stands at a second: the program's way and the reference's come to one answer. -/
import Derived.Test.YtbpnbflfpgakmaaFX00b
import Derived.Test.YtbpnbflfpgakmaaFX00d
import Derived.Test.YtbpnbflfpgakmaaUGb
import Derived.Test.YtbpnbflfpgakmaaFX00
import Derived.Test.YtbpnbflfpgakmaaFX00c
set_option linter.unusedVariables false
set_option linter.unusedSimpArgs false
namespace Go.Proofs.Ytbpnbflfpgakmaa.U
open Go.RowKit Go.Proofs.YtbpnbflfpgakmaaW.PrintWords Go.Proofs.YtbpnbflfpgakmaaW.PrintLast Go.Proofs.Ytbpnbflfpgakmaa.P
theorem cyc_succ (l : List S58) (p : List S51) (i : Nat) : cyc l p (i + 1) = cyc l p i + longV l p (i : Int) := rfl
theorem cyc_mono {l : List S58} {p : List S51} (h : plan l p = true) : ∀ d i, i + d ≤ p.length → cyc l p i + 5 * (d : Int) ≤ cyc l p (i + d)
  | 0, i, _ => by simp
  | d + 1, i, hi => by
    have h1 := cyc_mono h d i (by omega)
    have h2 := long_bound h (i := i + d) (by omega)
    have e : cyc l p (i + (d + 1)) = cyc l p (i + d) + longV l p ((i + d : Nat) : Int) := rfl
    omega
theorem part_of {l : List S58} {p : List S51} : ∀ n x, 0 ≤ x → x < cyc l p n → ∃ (m : Nat) (y : Int), m < n ∧ 0 ≤ y ∧ y < longV l p (m : Int) ∧ x = cyc l p m + y
  | 0, x, h0, h1 => by simp [cyc] at h1; omega
  | n + 1, x, h0, h1 => by
    by_cases c : x < cyc l p n
    · obtain ⟨m, y, h2, h3⟩ := part_of n x h0 c
      exact ⟨m, y, by omega, h3⟩
    · rw [cyc_succ] at h1
      exact ⟨n, x - cyc l p n, by omega, by omega, by omega, by omega⟩
/-- The part and how long it has lasted, from part i on. -/
noncomputable def pa (l : List S58) (p : List S51) : Nat → Nat → Int → Int × Int
  | 0, i, x => ((i : Int), x)
  | d + 1, i, x => if x < longV l p (i : Int) then ((i : Int), x) else pa l p d (i + 1) (x - longV l p (i : Int))
theorem pa_t {l : List S58} {p : List S51} {d i : Nat} {x : Int} (h : x < longV l p (i : Int)) : pa l p (d + 1) i x = ((i : Int), x) := by rw [pa, if_pos h]
theorem pa_f {l : List S58} {p : List S51} {d i : Nat} {x : Int} (h : ¬ x < longV l p (i : Int)) : pa l p (d + 1) i x = pa l p d (i + 1) (x - longV l p (i : Int)) := by rw [pa, if_neg h]
theorem pa_at {l : List S58} {p : List S51} (h : plan l p = true) {m : Nat} {y : Int} (h0 : 0 ≤ y) (h1 : y < longV l p (m : Int)) (hm : m < p.length) : ∀ d i, i + d = p.length → i ≤ m → pa l p d i (cyc l p m - cyc l p i + y) = ((m : Int), y)
  | 0, i, hd, hi => by omega
  | d + 1, i, hd, hi => by
    rcases Nat.lt_or_ge i m with hlt | hge
    · have m1 := cyc_mono h (m - (i + 1)) (i + 1) (by omega)
      rw [show i + 1 + (m - (i + 1)) = m by omega, cyc_succ] at m1
      rw [pa_f (by omega), show cyc l p m - cyc l p i + y - longV l p (i : Int) = cyc l p m - cyc l p (i + 1) + y by rw [cyc_succ]; omega]
      exact pa_at h h0 h1 hm d (i + 1) (by omega) hlt
    · have e : i = m := by omega
      subst e
      rw [show cyc l p i - cyc l p i + y = y by omega]
      exact pa_t h1
theorem spec_partRun {l : List S58} {p : List S51} (w : PW l p) (h : plan l p = true) : ∀ d i : Nat, i + d = p.length → ∀ x : Int, 0 ≤ x → x < cyc l p p.length - cyc l p i →
    Ev (fun k => spec_PartAt.l0 k l p x (i : Int)) (pa l p d i x)
  | 0, i, hi, x, h0, h1 => by
    have e : i = p.length := by omega
    subst e
    omega
  | d + 1, i, hi, x, h0, h1 => by
    have hlt : i < p.length := by omega
    have hp := w.hp
    have hn := plan_len h
    have b1 := cyc_bound h p.length (by omega)
    have b3 := cyc_bound h i (by omega)
    have b2 := long_bound h hlt
    refine Ev.step (fun k => by rw [spec_PartAt.l0]) ?_
    by_cases c : x < longV l p (i : Int)
    · rw [pa_t c]
      exact Ev.bind (spec_long w h hlt) (ev_t c (Ev.now _))
    · rw [pa_f c]
      have e : cyc l p (i + 1) = cyc l p i + longV l p (i : Int) := rfl
      have v := spec_partRun w h d (i + 1) (by omega) (x - longV l p (i : Int)) (by omega) (by omega)
      have e1 : wrap64 ((i : Int) + 1) = ((i + 1 : Nat) : Int) := w_succ hlt (by omega)
      have e2 : wrap64 (x - longV l p (i : Int)) = x - longV l p (i : Int) := w64 (by omega) (by omega)
      refine Ev.bind (spec_long w h hlt) (ev_f c ?_)
      rw [e1, e2]; exact v
theorem impl_partRun {l : List S58} {p : List S51} (w : PW l p) (h : plan l p = true) : ∀ d i : Nat, i + d = p.length → ∀ x : Int, 0 ≤ x → x < cyc l p p.length - cyc l p i →
    Ev (fun k => impl_PartAt.l0 k l p x (i : Int)) (pa l p d i x)
  | 0, i, hi, x, h0, h1 => by
    have e : i = p.length := by omega
    subst e
    omega
  | d + 1, i, hi, x, h0, h1 => by
    have hlt : i < p.length := by omega
    have hp := w.hp
    have hn := plan_len h
    have b1 := cyc_bound h p.length (by omega)
    have b3 := cyc_bound h i (by omega)
    have b2 := long_bound h hlt
    refine Ev.step (fun k => by rw [impl_PartAt.l0]) ?_
    by_cases c : x < longV l p (i : Int)
    · rw [pa_t c]
      exact Ev.bind (impl_long w h hlt) (ev_f (show ¬ x ≥ longV l p (i : Int) by omega) (Ev.now _))
    · rw [pa_f c]
      have e : cyc l p (i + 1) = cyc l p i + longV l p (i : Int) := rfl
      have v := impl_partRun w h d (i + 1) (by omega) (x - longV l p (i : Int)) (by omega) (by omega)
      have e1 : wrap64 ((i : Int) + 1) = ((i + 1 : Nat) : Int) := w_succ hlt (by omega)
      have e2 : wrap64 (x - longV l p (i : Int)) = x - longV l p (i : Int) := w64 (by omega) (by omega)
      refine Ev.bind (impl_long w h hlt) (ev_t (show x ≥ longV l p (i : Int) by omega) (Ev.bind (impl_long w h hlt) ?_))
      rw [e1, e2]; exact v
def inT (l : List S58) (p : List S51) (a : Int) : Prop := plan l p = true ∧ 0 ≤ a ∧ a ≤ 1000000
noncomputable def paV (l : List S58) (p : List S51) (a : Int) : Int × Int := if bo (inT l p a) = true then pa l p p.length 0 (Int.tmod a (cyc l p p.length)) else (-1, 0)
theorem paV_t {l : List S58} {p : List S51} {a : Int} (h : inT l p a) : paV l p a = pa l p p.length 0 (Int.tmod a (cyc l p p.length)) := if_pos (bo_t h)
theorem paV_f {l : List S58} {p : List S51} {a : Int} (h : ¬ inT l p a) : paV l p a = (-1, 0) := if_neg (by rw [bo_f h]; decide)
theorem tm_bound {l : List S58} {p : List S51} {a : Int} (h : plan l p = true) (h0 : 0 ≤ a) : 0 ≤ Int.tmod a (cyc l p p.length) ∧ Int.tmod a (cyc l p p.length) < cyc l p p.length := by
  have hn := plan_len h
  have cb := cyc_bound h p.length (by omega)
  exact ⟨Int.tmod_nonneg _ h0, Int.tmod_lt_of_pos _ (by omega)⟩
/-- The part at a time: where it is, and that it is so. -/
theorem paV_at {l : List S58} {p : List S51} {a : Int} (h : inT l p a) : ∃ (m : Nat) (y : Int), m < p.length ∧ 0 ≤ y ∧ y < longV l p (m : Int) ∧ Int.tmod a (cyc l p p.length) = cyc l p m + y ∧ paV l p a = ((m : Int), y) := by
  obtain ⟨t1, t2⟩ := tm_bound h.1 h.2.1
  obtain ⟨m, y, hm, h0, h1, e⟩ := part_of p.length _ t1 t2
  refine ⟨m, y, hm, h0, h1, e, ?_⟩
  rw [paV_t h, e]
  have := pa_at h.1 h0 h1 hm p.length 0 (by omega) (by omega)
  rw [show cyc l p m - cyc l p 0 + y = cyc l p m + y by simp [cyc]] at this
  exact this
theorem spec_partAt {l : List S58} {p : List S51} (w : PW l p) (a : Int) : Ev (fun k => spec_PartAt.f k l p a) (paV l p a) := by
  have hp := w.hp
  have sp := spec_isPlan l p w.hl w.hp w.hx
  have sc := spec_cycle w
  have st : Ev (fun k => spec_PartAt.j0 k l p a true) (-1, 0) := Ev.step (fun k => by rw [spec_PartAt.j0]) (ev_t rfl (Ev.now _))
  unfold spec_PartAt.f
  by_cases h : plan l p = true
  · have hn := plan_len h
    have cb := cyc_bound h p.length (by omega)
    have ce := cycV_t h
    have c0 : ¬ cycV l p = 0 := by omega
    have q1 := spec_l1In_eq a 0 1000000
    by_cases hr : 0 ≤ a ∧ a ≤ 1000000
    · rw [decide_eq_true hr] at q1
      obtain ⟨t1, t2⟩ := tm_bound h hr.1
      rw [paV_t ⟨h, hr⟩]
      have v := spec_partRun w h p.length 0 (by omega) (Int.tmod a (cyc l p p.length)) t1 (by rw [show cyc l p 0 = 0 from rfl]; omega)
      rw [← ce] at v ⊢
      refine Ev.bind sp (ev_t h (ev_call q1 ?_))
      refine Ev.step (fun k => by rw [spec_PartAt.j0]) ?_
      exact ev_f (by decide) (Ev.bind sc (ev_f c0 v))
    · rw [decide_eq_false hr] at q1
      rw [paV_f (fun hh => hr hh.2)]
      exact Ev.bind sp (ev_t h (ev_call q1 st))
  · have ce := cycV_f h
    rw [paV_f (fun hh => h hh.1)]
    exact Ev.bind sp (ev_f h st)
theorem impl_partAt {l : List S58} {p : List S51} (w : PW l p) (a : Int) : Ev (fun k => impl_PartAt.f k l p a) (paV l p a) := by
  have hp := w.hp
  have ic := impl_cycle w
  have it : ∀ t, Ev (fun k => impl_PartAt.j0 k l p a t true) (-1, 0) := fun t => Ev.step (fun k => by rw [impl_PartAt.j0]) (ev_t rfl (Ev.now _))
  unfold impl_PartAt.f
  by_cases h : plan l p = true
  · have hn := plan_len h
    have cb := cyc_bound h p.length (by omega)
    have ce := cycV_t h
    have c0 : ¬ cycV l p = 0 := by omega
    have q1 := impl_InRange_eq a 0 1000000
    by_cases hr : 0 ≤ a ∧ a ≤ 1000000
    · rw [decide_eq_true hr] at q1
      obtain ⟨t1, t2⟩ := tm_bound h hr.1
      rw [paV_t ⟨h, hr⟩]
      have v := impl_partRun w h p.length 0 (by omega) (Int.tmod a (cyc l p p.length)) t1 (by rw [show cyc l p 0 = 0 from rfl]; omega)
      rw [← ce] at v ⊢
      refine Ev.bind ic (ev_f c0 (ev_call q1 ?_))
      refine Ev.step (fun k => by rw [impl_PartAt.j0]) ?_
      exact ev_f (by decide) (ev_f c0 v)
    · rw [decide_eq_false hr] at q1
      rw [paV_f (fun hh => hr hh.2)]
      exact Ev.bind ic (ev_f c0 (ev_call q1 (it _)))
  · have ce := cycV_f h
    rw [paV_f (fun hh => h hh.1)]
    exact Ev.bind ic (ev_t ce (it _))
theorem partAt_val {l : List S58} {p : List S51} (w : PW l p) (a : Int) : Ev (fun k => spec_PartAt.f k l p a) (paV l p a) ∧ Ev (fun k => impl_PartAt.f k l p a) (paV l p a) := ⟨spec_partAt w a, impl_partAt w a⟩
end Go.Proofs.Ytbpnbflfpgakmaa.U
/- The light of a path at a time of the plan: the program's way and the reference's come to one answer. -/
set_option linter.unusedVariables false
set_option linter.unusedSimpArgs false
namespace Go.Proofs.Ytbpnbflfpgakmaa.U
open Go.RowKit Go.Proofs.YtbpnbflfpgakmaaW.PrintWords Go.Proofs.YtbpnbflfpgakmaaW.PrintLast Go.Proofs.Ytbpnbflfpgakmaa.P
/-- The light of path id in part i, x seconds after it began. -/
noncomputable def lv (l : List S58) (p : List S51) (i x id : Int) : Int :=
  if id ∈ (rd_T51 p i).f0 then (if x < (rd_T51 p i).f1 ∨ id ∈ (rd_T51 p (nx p i)).f0 then 1 else if x < wrap64 ((rd_T51 p i).f1 + clr (pAt l id)) then 2 else 0) else 0
theorem lv_0 {l : List S58} {p : List S51} {i x id : Int} (h : ¬ id ∈ (rd_T51 p i).f0) : lv l p i x id = 0 := if_neg h
theorem lv_1 {l : List S58} {p : List S51} {i x id : Int} (h : id ∈ (rd_T51 p i).f0) (h1 : x < (rd_T51 p i).f1 ∨ id ∈ (rd_T51 p (nx p i)).f0) : lv l p i x id = 1 := by rw [lv, if_pos h, if_pos h1]
theorem lv_2 {l : List S58} {p : List S51} {i x id : Int} (h : id ∈ (rd_T51 p i).f0) (h1 : ¬ (x < (rd_T51 p i).f1 ∨ id ∈ (rd_T51 p (nx p i)).f0)) : lv l p i x id = if x < wrap64 ((rd_T51 p i).f1 + clr (pAt l id)) then 2 else 0 := by rw [lv, if_pos h, if_neg h1]
theorem lv_bound (l : List S58) (p : List S51) (i x id : Int) : 0 ≤ lv l p i x id ∧ lv l p i x id ≤ 2 := by
  unfold lv
  split
  · split
    · omega
    · split <;> omega
  · omega
theorem lv_iff {l : List S58} {p : List S51} {i x id : Int} : lv l p i x id = 1 ↔ id ∈ (rd_T51 p i).f0 ∧ (x < (rd_T51 p i).f1 ∨ id ∈ (rd_T51 p (nx p i)).f0) := by
  by_cases h : id ∈ (rd_T51 p i).f0
  · by_cases h1 : x < (rd_T51 p i).f1 ∨ id ∈ (rd_T51 p (nx p i)).f0
    · exact ⟨fun _ => ⟨h, h1⟩, fun _ => lv_1 h h1⟩
    · refine ⟨fun e => ?_, fun hh => absurd hh.2 h1⟩
      rw [lv_2 h h1] at e
      split at e <;> omega
  · refine ⟨fun e => ?_, fun hh => absurd hh.1 h⟩
    rw [lv_0 h] at e; omega
theorem fp_id {l : List S58} {id : Int} (h : 0 ≤ impl_FindPath.ix id l 0) : (rd_T58 l (impl_FindPath.ix id l 0)).f0 = id := by
  rcases fp_cases id l with ⟨m, _, h2, _, e⟩ | ⟨_, e⟩
  · rw [e]; exact h2
  · omega
/-- What the reference asks once the part is known. -/
theorem spec_lightV {l : List S58} {p : List S51} (w : PW l p) {i : Nat} (hi : i < p.length) (x id : Int) (hf : 0 ≤ impl_FindPath.ix id l 0) (y : S58) (hy : y = rd_T58 l (impl_FindPath.ix id l 0)) (hid : y.f0 = id) :
    Ev (fun k => spec_l9Light.f k l p (i : Int) x id) (lv l p (i : Int) x id) := by
  have hp := w.hp
  have hl := w.hl
  have b := nx_bound hi
  have fb := fp_bound id l
  have hxi := w.hx i hi
  have h2 := w.hx (nx p (i : Int)).toNat (by omega)
  rw [Int.toNat_of_nonneg b.1] at h2
  have e1 : wrap64 ((i : Int) + 1) = (i : Int) + 1 := w64 (by omega) (by omega)
  have hpa : y = pAt l id := hy
  have s0 := spec_has (rd_T51 p (i : Int)).f0 id (by omega)
  have s1 := spec_has (rd_T51 p (nx p (i : Int))).f0 id (by omega)
  have fin : ∀ v : Int, v = (if x < wrap64 ((rd_T51 p (i : Int)).f1 + clr (pAt l id)) then 2 else 0) → Ev (fun k => (spec_FindPath.f k l id).bind fun t545 => (if 0 ≤ t545 then (if t545 < (l.length : Int) then ((spec_ClearOf.f ((rd_T58 l t545).f0) ((rd_T58 l t545).f1) ((rd_T58 l t545).f2) ((rd_T58 l t545).f3)).bind fun t547 => (if x < (wrap64 (((rd_T51 p (i : Int)).f1) + t547)) then (some (2 : Int)) else (some 0))) else (none)) else (none))) v := by
    intro v hv
    rw [← hpa] at hv
    refine Ev.bind (spec_findPath l id (by omega)) (ev_t hf (ev_t fb.2 ?_))
    rw [← hy]
    refine ev_call (spec_clearOf y) ?_
    by_cases c : x < wrap64 ((rd_T51 p (i : Int)).f1 + clr y)
    · rw [if_pos c] at hv
      subst hv
      exact ev_t c (Ev.now _)
    · rw [if_neg c] at hv
      subst hv
      exact ev_f c (Ev.now _)
  unfold spec_l9Light.f
  rw [e1]
  refine ev_f (by omega) (ev_t b.1 (ev_t b.2 (ev_t (by omega) (ev_t (by omega) (Ev.bind s0 ?_)))))
  by_cases m0 : id ∈ (rd_T51 p (i : Int)).f0
  · rw [decide_eq_true m0]
    refine ev_t rfl ?_
    by_cases g : x < (rd_T51 p (i : Int)).f1
    · rw [lv_1 m0 (.inl g)]
      refine ev_t g ?_
      exact Ev.step (fun k => by rw [spec_l9Light.j0]) (ev_t rfl (Ev.now _))
    · refine ev_f g (Ev.bind s1 ?_)
      by_cases m1 : id ∈ (rd_T51 p (nx p (i : Int))).f0
      · rw [decide_eq_true m1, lv_1 m0 (.inr m1)]
        exact Ev.step (fun k => by rw [spec_l9Light.j0]) (ev_t rfl (Ev.now _))
      · rw [decide_eq_false m1]
        have f1 := fin _ (lv_2 m0 (fun hh => hh.elim g m1))
        refine Ev.step (fun k => by rw [spec_l9Light.j0]) ?_
        exact ev_f (by decide) (ev_t rfl (ev_t (by omega) (ev_t (by omega) f1)))
  · rw [decide_eq_false m0, lv_0 m0]
    refine ev_f (by decide) ?_
    refine Ev.step (fun k => by rw [spec_l9Light.j0]) ?_
    exact ev_f (by decide) (ev_f (by decide) (Ev.now _))
/-- What the program asks once the part is known. -/
theorem impl_lightV {l : List S58} {p : List S51} (w : PW l p) {i : Nat} (hi : i < p.length) (x id : Int) (hf : 0 ≤ impl_FindPath.ix id l 0) (y : S58) (hy : y = rd_T58 l (impl_FindPath.ix id l 0)) (hid : y.f0 = id) :
    Ev (fun k => (slices_Contains_int_int.f k (rd_T51 p (i : Int)).f0 y.f0).bind fun t => impl_shown.j0 k p (i : Int) x (!t) y.f0 y.f1 y.f2 y.f3) (lv l p (i : Int) x id) := by
  have hp := w.hp
  have hl := w.hl
  have b := nx_bound hi
  have fb := fp_bound id l
  have hxi := w.hx i hi
  have h2 := w.hx (nx p (i : Int)).toNat (by omega)
  rw [Int.toNat_of_nonneg b.1] at h2
  have e1 : wrap64 ((i : Int) + 1) = (i : Int) + 1 := w64 (by omega) (by omega)
  have hpa : y = pAt l id := hy
  have c0 := slices_contains (rd_T51 p (i : Int)).f0 y.f0 (by omega)
  have c1 := slices_contains (rd_T51 p (nx p (i : Int))).f0 y.f0 (by omega)
  rw [hid] at c0 c1
  have hn : impl_nextStage.f p (i : Int) = some (rd_T51 p (nx p (i : Int))).f0 := by
    unfold impl_nextStage.f
    rw [e1, if_neg (by omega), if_pos (show 0 ≤ Int.tmod ((i : Int) + 1) (p.length : Int) from b.1), if_pos (show Int.tmod ((i : Int) + 1) (p.length : Int) < (p.length : Int) from b.2)]
    rfl
  rw [hid]
  refine Ev.bind c0 ?_
  by_cases m0 : id ∈ (rd_T51 p (i : Int)).f0
  · rw [decide_eq_true m0]
    refine Ev.step (fun k => by rw [impl_shown.j0]) ?_
    refine ev_f (by decide) (ev_t (by omega) (ev_t (by omega) ?_))
    by_cases g : x < (rd_T51 p (i : Int)).f1
    · rw [lv_1 m0 (.inl g)]
      refine ev_t g ?_
      exact Ev.step (fun k => by rw [impl_shown.j1]) (ev_t rfl (Ev.now _))
    · refine ev_f g (ev_call hn (Ev.bind c1 ?_))
      by_cases m1 : id ∈ (rd_T51 p (nx p (i : Int))).f0
      · rw [decide_eq_true m1, lv_1 m0 (.inr m1)]
        exact Ev.step (fun k => by rw [impl_shown.j1]) (ev_t rfl (Ev.now _))
      · rw [decide_eq_false m1, lv_2 m0 (fun hh => hh.elim g m1), ← hpa]
        refine Ev.step (fun k => by rw [impl_shown.j1]) ?_
        refine ev_f (by decide) (ev_t (by omega) (ev_t (by omega) ?_))
        rw [← hid]
        refine ev_call (impl_clearOf y) ?_
        by_cases c : x < wrap64 ((rd_T51 p (i : Int)).f1 + clr y)
        · rw [show (if x < wrap64 ((rd_T51 p (i : Int)).f1 + clr y) then (2 : Int) else 0) = 2 from if_pos c]
          exact ev_t c (Ev.now _)
        · rw [show (if x < wrap64 ((rd_T51 p (i : Int)).f1 + clr y) then (2 : Int) else 0) = 0 from if_neg c]
          exact ev_f c (Ev.now _)
  · rw [decide_eq_false m0, lv_0 m0]
    refine Ev.step (fun k => by rw [impl_shown.j0]) ?_
    exact ev_t rfl (Ev.now _)
noncomputable def laV (l : List S58) (p : List S51) (a id : Int) : Int := if impl_FindPath.ix id l 0 < 0 ∨ (paV l p a).1 < 0 then 0 else lv l p (paV l p a).1 (paV l p a).2 id
theorem laV_0 {l : List S58} {p : List S51} {a id : Int} (h : impl_FindPath.ix id l 0 < 0 ∨ (paV l p a).1 < 0) : laV l p a id = 0 := if_pos h
theorem laV_1 {l : List S58} {p : List S51} {a id : Int} (h : ¬ (impl_FindPath.ix id l 0 < 0 ∨ (paV l p a).1 < 0)) : laV l p a id = lv l p (paV l p a).1 (paV l p a).2 id := if_neg h
theorem laV_bound (l : List S58) (p : List S51) (a id : Int) : 0 ≤ laV l p a id ∧ laV l p a id ≤ 2 := by
  unfold laV
  split
  · omega
  · exact lv_bound ..
theorem spec_lightAt {l : List S58} {p : List S51} (w : PW l p) (a id : Int) : Ev (fun k => spec_LightAt.f k l p a id) (laV l p a id) := by
  have hl := w.hl
  have fb := fp_bound id l
  have sf := spec_findPath l id (by omega)
  have q1 := spec_partAt w a
  unfold spec_LightAt.f
  by_cases hf : impl_FindPath.ix id l 0 < 0
  · rw [laV_0 (.inl hf)]
    exact Ev.bind q1 (ev_ite (fun _ => Ev.now _) (fun _ => Ev.bind sf (ev_t hf (Ev.now _))))
  · by_cases hr : inT l p a
    · obtain ⟨m, y, hm, h0, h1, _, em⟩ := paV_at hr
      rw [laV_1 (by rw [em]; show ¬ (_ ∨ (m : Int) < 0); omega)]
      rw [em] at q1 ⊢
      exact Ev.bind q1 (ev_f (show ¬ (m : Int) < 0 by omega) (Ev.bind sf (ev_f hf (Ev.bind (spec_lightV w hm y id (by omega) (rd_T58 l (impl_FindPath.ix id l 0)) rfl (fp_id (by omega))) (Ev.now _)))))
    · rw [paV_f hr] at q1
      rw [laV_0 (by rw [paV_f hr]; exact .inr (by decide))]
      exact Ev.bind q1 (ev_t (by decide) (Ev.now _))
theorem impl_lightAt {l : List S58} {p : List S51} (w : PW l p) (a id : Int) : Ev (fun k => impl_LightAt.f k l p a id) (laV l p a id) := by
  have hl := w.hl
  have fb := fp_bound id l
  have q2 := impl_partAt w a
  unfold impl_LightAt.f impl_shown.f
  by_cases hf : impl_FindPath.ix id l 0 < 0
  · rw [laV_0 (.inl hf)]
    exact ev_call (impl_findPath l id) (ev_t hf (Ev.now _))
  · by_cases hr : inT l p a
    · obtain ⟨m, y, hm, h0, h1, _, em⟩ := paV_at hr
      rw [laV_1 (by rw [em]; show ¬ (_ ∨ (m : Int) < 0); omega)]
      rw [em] at q2 ⊢
      have v2 := impl_lightV w hm y id (by omega) (rd_T58 l (impl_FindPath.ix id l 0)) rfl (fp_id (by omega))
      exact ev_call (impl_findPath l id) (ev_f hf (ev_t (by omega) (ev_t fb.2 (Ev.bind (Ev.bind q2 (ev_f (show ¬ (m : Int) < 0 by omega) (ev_t (show 0 ≤ (m : Int) by omega) (ev_t (show (m : Int) < (p.length : Int) by omega) v2)))) (Ev.now _)))))
    · rw [paV_f hr] at q2
      rw [laV_0 (by rw [paV_f hr]; exact .inr (by decide))]
      refine ev_call (impl_findPath l id) (ev_f hf (ev_t (by omega) (ev_t fb.2 (Ev.bind (Ev.bind q2 (ev_t (by decide) ?_)) (Ev.now _)))))
      exact Ev.step (fun k => by rw [impl_shown.j0]) (ev_t rfl (Ev.now _))
theorem lightAt_val {l : List S58} {p : List S51} (w : PW l p) (a id : Int) : Ev (fun k => spec_LightAt.f k l p a id) (laV l p a id) ∧ Ev (fun k => impl_LightAt.f k l p a id) (laV l p a id) := ⟨spec_lightAt w a id, impl_lightAt w a id⟩
end Go.Proofs.Ytbpnbflfpgakmaa.U
/- The row of lights of a path over one cycle. -/
set_option linter.unusedVariables false
set_option linter.unusedSimpArgs false
namespace Go.Proofs.Ytbpnbflfpgakmaa.U
open Go.RowKit Go.Proofs.YtbpnbflfpgakmaaW.PrintWords Go.Proofs.YtbpnbflfpgakmaaW.PrintLast Go.Proofs.Ytbpnbflfpgakmaa.P
noncomputable def seg (l : List S58) (p : List S51) (id : Int) (i n : Nat) : List Int := (List.range n).map (fun s : Nat => lv l p (i : Int) (s : Int) id)
theorem seg_len (l : List S58) (p : List S51) (id : Int) (i n : Nat) : (seg l p id i n).length = n := by simp [seg]
theorem seg_succ (l : List S58) (p : List S51) (id : Int) (i n : Nat) : seg l p id i (n + 1) = seg l p id i n ++ [lv l p (i : Int) (n : Int) id] := by
  unfold seg; rw [List.range_succ, List.map_append]; rfl
noncomputable def rowN (l : List S58) (p : List S51) (id : Int) : Nat → List Int
  | 0 => []
  | i + 1 => rowN l p id i ++ seg l p id i (longV l p (i : Int)).toNat
theorem rowN_len {l : List S58} {p : List S51} (h : plan l p = true) (id : Int) : ∀ i, i ≤ p.length → ((rowN l p id i).length : Int) = cyc l p i
  | 0, _ => by simp [rowN, cyc]
  | i + 1, hi => by
    have h1 := rowN_len h id i (by omega)
    have h2 := long_bound h (i := i) (by omega)
    rw [rowN, List.length_append, seg_len, cyc_succ]
    omega
theorem rd_app_l {a b : List Int} {t : Int} (h0 : 0 ≤ t) (h : t < a.length) : rd (a ++ b) t = rd a t := by
  obtain ⟨n, rfl⟩ : ∃ n : Nat, t = (n : Int) := ⟨t.toNat, by omega⟩
  rw [rd_at _ n (by rw [List.length_append]; omega), rd_at _ n (by omega), List.getElem_append_left]
theorem rd_app_r {a b : List Int} {t : Int} {s : Nat} (ht : t = (a.length : Int) + (s : Int)) (h : s < b.length) : rd (a ++ b) t = rd b (s : Int) := by
  subst ht
  rw [show (a.length : Int) + (s : Int) = ((a.length + s : Nat) : Int) by omega, rd_at _ _ (by rw [List.length_append]; omega), rd_at _ _ h, List.getElem_append_right (by omega)]
  congr 1; omega
theorem seg_rd (l : List S58) (p : List S51) (id : Int) (i n s : Nat) (h : s < n) : rd (seg l p id i n) (s : Int) = lv l p (i : Int) (s : Int) id := by
  rw [rd_at _ s (by rw [seg_len]; exact h)]
  simp [seg]
theorem rowN_rd {l : List S58} {p : List S51} (h : plan l p = true) (id : Int) {m : Nat} {y : Int} (h0 : 0 ≤ y) (h1 : y < longV l p (m : Int)) : ∀ n, m < n → n ≤ p.length → rd (rowN l p id n) (cyc l p m + y) = lv l p (m : Int) y id
  | 0, hm, _ => by omega
  | n + 1, hm, hn => by
    have hl := rowN_len h id n (by omega)
    have cb := cyc_bound h m (by omega)
    rw [rowN]
    rcases Nat.lt_or_ge m n with hlt | hge
    · have m1 := cyc_mono h (n - (m + 1)) (m + 1) (by omega)
      rw [show m + 1 + (n - (m + 1)) = n by omega, cyc_succ] at m1
      rw [rd_app_l (by omega) (by omega)]
      exact rowN_rd h id h0 h1 n hlt (by omega)
    · have e : m = n := by omega
      subst e
      rw [rd_app_r (s := y.toNat) (by omega) (by rw [seg_len]; omega), seg_rd _ _ _ _ _ _ (by omega), Int.toNat_of_nonneg h0]
def hasRow (l : List S58) (p : List S51) (id : Int) : Prop := plan l p = true ∧ 0 ≤ impl_FindPath.ix id l 0
noncomputable def rowV (l : List S58) (p : List S51) (id : Int) : List Int := if bo (hasRow l p id) = true then rowN l p id p.length else []
theorem rowV_t {l : List S58} {p : List S51} {id : Int} (h : hasRow l p id) : rowV l p id = rowN l p id p.length := if_pos (bo_t h)
theorem rowV_f {l : List S58} {p : List S51} {id : Int} (h : ¬ hasRow l p id) : rowV l p id = [] := if_neg (by rw [bo_f h]; decide)
theorem rowV_len {l : List S58} {p : List S51} {id : Int} (h : hasRow l p id) : ((rowV l p id).length : Int) = cyc l p p.length ∧ 5 ≤ (rowV l p id).length ∧ (rowV l p id).length ≤ 390 := by
  have hn := plan_len h.1
  have h1 := rowN_len h.1 id p.length (by omega)
  have h2 := cyc_bound h.1 p.length (by omega)
  rw [rowV_t h]
  omega
theorem rowV_le (l : List S58) (p : List S51) (id : Int) : (rowV l p id).length ≤ 390 := by
  by_cases h : hasRow l p id
  · exact (rowV_len h).2.2
  · rw [rowV_f h]; simp
theorem rowV_pos {l : List S58} {p : List S51} {id : Int} (h : 0 < (rowV l p id).length) : hasRow l p id := Classical.byContradiction fun c => by
  rw [rowV_f c] at h; simp at h
/-- A light of the row is the light at that second. -/
theorem rowV_rd {l : List S58} {p : List S51} {a id : Int} (h : hasRow l p id) (h0 : 0 ≤ a) (h1 : a ≤ 1000000) : rd (rowV l p id) (Int.tmod a ((rowV l p id).length : Int)) = laV l p a id := by
  have hin : inT l p a := ⟨h.1, h0, h1⟩
  obtain ⟨m, y, hm, y0, y1, e, em⟩ := paV_at hin
  rw [(rowV_len h).1, e, rowV_t h, rowN_rd h.1 id y0 y1 p.length hm (Nat.le_refl _), laV_1 (by rw [em]; have := h.2; show ¬ (_ ∨ (m : Int) < 0); omega), em]
theorem rowV_rd' {l : List S58} {p : List S51} {id : Int} (h : hasRow l p id) {i : Nat} (hi : i < (rowV l p id).length) : rd (rowV l p id) (i : Int) = laV l p (i : Int) id := by
  have hl := rowV_len h
  have := rowV_rd (a := (i : Int)) h (by omega) (by omega)
  rw [Int.tmod_eq_of_lt (by omega) (by omega)] at this
  exact this
/-- How many are green among the first i. -/
def gcnt (r : List Int) : Nat → Int
  | 0 => 0
  | i + 1 => if rd r (i : Int) = 1 then gcnt r i + 1 else gcnt r i
theorem gcnt_t {r : List Int} {i : Nat} (h : rd r (i : Int) = 1) : gcnt r (i + 1) = gcnt r i + 1 := by rw [gcnt, if_pos h]
theorem gcnt_f {r : List Int} {i : Nat} (h : ¬ rd r (i : Int) = 1) : gcnt r (i + 1) = gcnt r i := by rw [gcnt, if_neg h]
theorem gcnt_bound (r : List Int) : ∀ i, 0 ≤ gcnt r i ∧ gcnt r i ≤ i
  | 0 => by simp [gcnt]
  | i + 1 => by
    have := gcnt_bound r i
    by_cases h : rd r (i : Int) = 1
    · rw [gcnt_t h]; omega
    · rw [gcnt_f h]; omega
/-- How long it has not been green behind k seconds; the longest of these. -/
def wn (r : List Int) : Nat → Int
  | 0 => 0
  | k + 1 => if rd r (Int.tmod (k : Int) (r.length : Int)) = 1 then 0 else wn r k + 1
theorem wn_t {r : List Int} {k : Nat} (h : rd r (Int.tmod (k : Int) (r.length : Int)) = 1) : wn r (k + 1) = 0 := by rw [wn, if_pos h]
theorem wn_f {r : List Int} {k : Nat} (h : ¬ rd r (Int.tmod (k : Int) (r.length : Int)) = 1) : wn r (k + 1) = wn r k + 1 := by rw [wn, if_neg h]
theorem wn_bound (r : List Int) : ∀ i, 0 ≤ wn r i ∧ wn r i ≤ i
  | 0 => by simp [wn]
  | i + 1 => by
    have := wn_bound r i
    by_cases h : rd r (Int.tmod (i : Int) (r.length : Int)) = 1
    · rw [wn_t h]; omega
    · rw [wn_f h]; omega
def wb (r : List Int) : Nat → Int
  | 0 => 0
  | k + 1 => max (wb r k) (wn r (k + 1))
theorem wb_bound (r : List Int) : ∀ i, 0 ≤ wb r i ∧ wb r i ≤ i
  | 0 => by simp [wb]
  | i + 1 => by
    have h1 := wb_bound r i
    have h2 := wn_bound r (i + 1)
    unfold wb; omega
def waitV (r : List Int) : Int := min (wb r (2 * r.length)) (r.length : Int)
theorem waitV_bound (r : List Int) : 0 ≤ waitV r ∧ waitV r ≤ r.length := by
  have := wb_bound r (2 * r.length)
  unfold waitV; omega
/-- The first green second from 'from' on, of d that are left, k gone. -/
def ngI (r : List Int) (a : Int) : Nat → Nat → Int
  | 0, _ => -1
  | d + 1, i => if rd r (Int.tmod (a + (i : Int)) (r.length : Int)) = 1 then a + (i : Int) else ngI r a d (i + 1)
theorem ngI_t {r : List Int} {a : Int} {d i : Nat} (h : rd r (Int.tmod (a + (i : Int)) (r.length : Int)) = 1) : ngI r a (d + 1) i = a + (i : Int) := by rw [ngI, if_pos h]
theorem ngI_f {r : List Int} {a : Int} {d i : Nat} (h : ¬ rd r (Int.tmod (a + (i : Int)) (r.length : Int)) = 1) : ngI r a (d + 1) i = ngI r a d (i + 1) := by rw [ngI, if_neg h]
def ngV (r : List Int) (a : Int) : Int := if 0 ≤ a ∧ a ≤ 100000 then ngI r a r.length 0 else -1
theorem ngV_t {r : List Int} {a : Int} (h : 0 ≤ a ∧ a ≤ 100000) : ngV r a = ngI r a r.length 0 := if_pos h
theorem ngV_f {r : List Int} {a : Int} (h : ¬ (0 ≤ a ∧ a ≤ 100000)) : ngV r a = -1 := if_neg h
theorem ngI_bound (r : List Int) (a : Int) : ∀ d i, ngI r a d i = -1 ∨ a + (i : Int) ≤ ngI r a d i ∧ ngI r a d i < a + (i : Int) + d
  | 0, i => .inl rfl
  | d + 1, i => by
    by_cases h : rd r (Int.tmod (a + (i : Int)) (r.length : Int)) = 1
    · rw [ngI_t h]; omega
    · rw [ngI_f h]
      have := ngI_bound r a d (i + 1)
      omega
theorem ngV_bound (r : List Int) (a : Int) (h : r.length ≤ 390) : -1 ≤ ngV r a ∧ ngV r a ≤ 100390 := by
  by_cases c : 0 ≤ a ∧ a ≤ 100000
  · rw [ngV_t c]
    have := ngI_bound r a r.length 0
    omega
  · rw [ngV_f c]; omega
/-- The row as the program has it: green or not. -/
def grn (r : List Int) : List Bool := r.map (fun x => decide (x = 1))
theorem grn_len (r : List Int) : (grn r).length = r.length := by simp [grn]
theorem grn_rd (r : List Int) (i : Nat) (h : i < r.length) : rdOf false (grn r) (i : Int) = decide (rd r (i : Int) = 1) := by
  rw [rdOf_at false _ i (by rw [grn_len]; exact h), rd_at r i h]
  simp [grn]
end Go.Proofs.Ytbpnbflfpgakmaa.U
/- The row of lights, how many are green, the longest wait: the program's way and the reference's. -/
set_option linter.unusedVariables false
set_option linter.unusedSimpArgs false
namespace Go.Proofs.Ytbpnbflfpgakmaa.U
open Go.RowKit Go.Proofs.YtbpnbflfpgakmaaW.PrintWords Go.Proofs.YtbpnbflfpgakmaaW.PrintLast Go.Proofs.Ytbpnbflfpgakmaa.P
noncomputable def greenV (l : List S58) (p : List S51) (id : Int) : Int := gcnt (rowV l p id) (rowV l p id).length
theorem tm_in {a n : Int} (h0 : 0 ≤ a) (hn : 0 < n) : 0 ≤ Int.tmod a n ∧ Int.tmod a n < n := ⟨Int.tmod_nonneg _ h0, Int.tmod_lt_of_pos _ hn⟩
theorem grn_rd' (r : List Int) {t : Int} (h0 : 0 ≤ t) (h1 : t < r.length) : rdOf false (grn r) t = decide (rd r t = 1) := by
  obtain ⟨n, rfl⟩ : ∃ n : Nat, t = (n : Int) := ⟨t.toNat, by omega⟩
  exact grn_rd r n (by omega)
end Go.Proofs.Ytbpnbflfpgakmaa.U
/- The next green second, the worst wait, all lights of a second: the program's way and the reference's. -/
set_option linter.unusedVariables false
set_option linter.unusedSimpArgs false
namespace Go.Proofs.Ytbpnbflfpgakmaa.U
open Go.RowKit Go.Proofs.YtbpnbflfpgakmaaW.PrintWords Go.Proofs.YtbpnbflfpgakmaaW.PrintLast Go.Proofs.Ytbpnbflfpgakmaa.P
/-- The longest of the first i paths' waits. -/
noncomputable def wwN (l : List S58) (p : List S51) : Nat → Int
  | 0 => 0
  | i + 1 => max (wwN l p i) (waitV (rowV l p (rd_T58 l (i : Int)).f0))
theorem wwN_none {l : List S58} {p : List S51} (h : ¬ plan l p = true) : ∀ i, wwN l p i = 0
  | 0 => rfl
  | i + 1 => by
    rw [wwN, wwN_none h i, rowV_f (fun c => h c.1)]
    rfl
/-- All lights of a second. -/
noncomputable def lightsV (l : List S58) (p : List S51) (a : Int) (n : Nat) : List Int := (List.range n).map (fun i : Nat => laV l p a (rd_T58 l (i : Int)).f0)
theorem lightsV_len (l : List S58) (p : List S51) (a : Int) (n : Nat) : (lightsV l p a n).length = n := by simp [lightsV]
theorem lightsV_succ (l : List S58) (p : List S51) (a : Int) (n : Nat) : lightsV l p a (n + 1) = lightsV l p a n ++ [laV l p a (rd_T58 l (n : Int)).f0] := by
  unfold lightsV; rw [List.range_succ, List.map_append]; rfl
theorem spec_lightsAt {l : List S58} {p : List S51} (w : PW l p) (a : Int) : Ev (fun k => spec_LightsAt.f k l p a) (lightsV l p a l.length) := by
  have hl := w.hl
  unfold spec_LightsAt.f
  refine ev_for0 (F := fun k i => spec_LightsAt.l0 k l p a (lightsV l p a i) (i : Int)) l.length (fun i hi ih => ?_) ?_
  · refine Ev.step (fun k => by rw [spec_LightsAt.l0]) ?_
    refine ev_t (by omega) (ev_t (by omega) (Ev.bind (spec_lightAt w a _) (ev_t (by rw [lightsV_len]; omega) ?_)))
    rw [w_succ hi (by omega), ← lightsV_succ]
    exact ih
  · refine Ev.step (fun k => by rw [spec_LightsAt.l0]) ?_
    exact ev_f (by omega) (Ev.now _)
theorem impl_lightsAt {l : List S58} {p : List S51} (w : PW l p) (a : Int) : Ev (fun k => impl_LightsAt.f k l p a) (lightsV l p a l.length) := by
  have hl := w.hl
  unfold impl_LightsAt.f
  refine ev_for0 (F := fun k i => impl_LightsAt.l0 k l p a (lightsV l p a i) l (l.length : Int) (i : Int)) l.length (fun i hi ih => ?_) ?_
  · refine Ev.step (fun k => by rw [impl_LightsAt.l0]) ?_
    refine ev_t (by omega) (ev_t (by omega) (ev_t (by omega) (Ev.bind (impl_lightAt w a _) (ev_t (by rw [lightsV_len]; omega) ?_))))
    rw [w_succ hi (by omega), ← lightsV_succ]
    exact ih
  · refine Ev.step (fun k => by rw [impl_LightsAt.l0]) ?_
    exact ev_f (by omega) (Ev.now _)
theorem lightsAt_val {l : List S58} {p : List S51} (w : PW l p) (a : Int) : Ev (fun k => spec_LightsAt.f k l p a) (lightsV l p a l.length) ∧ Ev (fun k => impl_LightsAt.f k l p a) (lightsV l p a l.length) := ⟨spec_lightsAt w a, impl_lightsAt w a⟩
end Go.Proofs.Ytbpnbflfpgakmaa.U
