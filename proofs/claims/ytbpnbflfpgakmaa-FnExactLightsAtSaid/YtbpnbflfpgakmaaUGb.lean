/- The least green of a stage: the program's way and the reference's. -/
import Derived.Test.YtbpnbflfpgakmaaFX00b
import Derived.Test.YtbpnbflfpgakmaaFX00c
import Derived.Test.YtbpnbflfpgakmaaUGa
import Derived.Test.YtbpnbflfpgakmaaFX00d
import Derived.Test.YtbpnbflfpgakmaaURd
set_option linter.unusedVariables false
set_option linter.unusedSimpArgs false
namespace Go.Proofs.Ytbpnbflfpgakmaa.U
open Go.RowKit Go.Proofs.YtbpnbflfpgakmaaW.PrintWords Go.Proofs.YtbpnbflfpgakmaaW.PrintLast Go.Proofs.Ytbpnbflfpgakmaa.P
def isWalk (l : List S58) (id : Int) : Prop := 0 ≤ impl_FindPath.ix id l 0 ∧ (rd_T58 l (impl_FindPath.ix id l 0)).f1 = 2
noncomputable def leastG (l : List S58) (st : List Int) : Int := if bo (∀ i : Nat, i < st.length → ¬ isWalk l (rd st (i : Int))) = true then 5 else 7
theorem leastG_t {l : List S58} {st : List Int} (h : ∀ i : Nat, i < st.length → ¬ isWalk l (rd st (i : Int))) : leastG l st = 5 := if_pos (bo_t h)
theorem leastG_f {l : List S58} {st : List Int} (h : ¬ ∀ i : Nat, i < st.length → ¬ isWalk l (rd st (i : Int))) : leastG l st = 7 := if_neg (by rw [bo_f h]; decide)
theorem spec_leastGreen (l : List S58) (st : List Int) (h : l.length ≤ 9223372036854775807) (hs : st.length ≤ 9223372036854775807) : Ev (fun k => spec_LeastGreen.f k l st) (leastG l st) := by
  unfold spec_LeastGreen.f
  have hmiss : ∀ i : Nat, i < st.length → ¬ isWalk l (rd st (i : Int)) → ∀ r, Ev (fun k => spec_LeastGreen.l0 k l st ((i + 1 : Nat) : Int)) r → Ev (fun k => spec_LeastGreen.l0 k l st (i : Int)) r := by
    intro i hi hn r ih
    obtain ⟨b1, b2⟩ := fp_bound (rd st (i : Int)) l
    refine Ev.step (fun k => by rw [spec_LeastGreen.l0]) (ev_t (by omega) (ev_t (by omega) (Ev.bind (spec_findPath l _ h) ?_)))
    rw [w_succ hi hs]
    by_cases h0 : impl_FindPath.ix (rd st (i : Int)) l 0 ≥ 0
    · exact ev_t h0 (ev_t h0 (ev_t b2 (ev_f (fun e => hn ⟨h0, e⟩) ih)))
    · exact ev_f h0 ih
  by_cases hall : ∀ i : Nat, i < st.length → ¬ isWalk l (rd st (i : Int))
  · rw [leastG_t hall]
    refine ev_for0 (F := fun k i => spec_LeastGreen.l0 k l st (i : Int)) st.length (fun i hi ih => hmiss i hi (hall i hi) _ ih) ?_
    refine Ev.step (fun k => by rw [spec_LeastGreen.l0]) ?_
    exact ev_f (by omega) (Ev.now _)
  · rw [leastG_f hall]
    obtain ⟨m, hm, h1, h2⟩ := first_fail st.length hall
    obtain ⟨w1, w2⟩ := Classical.not_not.1 h1
    obtain ⟨b1, b2⟩ := fp_bound (rd st (m : Int)) l
    refine ev_for0 (F := fun k i => spec_LeastGreen.l0 k l st (i : Int)) m (fun i hi ih => hmiss i (by omega) (h2 i hi) _ ih) ?_
    refine Ev.step (fun k => by rw [spec_LeastGreen.l0]) (ev_t (by omega) (ev_t (by omega) (Ev.bind (spec_findPath l _ h) ?_)))
    exact ev_t w1 (ev_t w1 (ev_t b2 (ev_t w2 (Ev.now _))))
theorem impl_leastGreen (l : List S58) (st : List Int) (hs : st.length ≤ 9223372036854775807) : Ev (fun k => impl_LeastGreen.f k l st) (leastG l st) := by
  unfold impl_LeastGreen.f
  have hmiss : ∀ i : Nat, i < st.length → ¬ isWalk l (rd st (i : Int)) → ∀ r, Ev (fun k => impl_LeastGreen.l0 k l st (st.length : Int) ((i + 1 : Nat) : Int)) r → Ev (fun k => impl_LeastGreen.l0 k l st (st.length : Int) (i : Int)) r := by
    intro i hi hn r ih
    obtain ⟨b1, b2⟩ := fp_bound (rd st (i : Int)) l
    refine Ev.step (fun k => by rw [impl_LeastGreen.l0]) (ev_t (by omega) (ev_t (by omega) (ev_t (by omega) (ev_call (impl_findPath l _) ?_))))
    rw [w_succ hi hs]
    by_cases h0 : impl_FindPath.ix (rd st (i : Int)) l 0 ≥ 0
    · exact ev_t h0 (ev_t h0 (ev_t b2 (ev_f (fun e => hn ⟨h0, e⟩) ih)))
    · exact ev_f h0 ih
  by_cases hall : ∀ i : Nat, i < st.length → ¬ isWalk l (rd st (i : Int))
  · rw [leastG_t hall]
    refine ev_for0 (F := fun k i => impl_LeastGreen.l0 k l st (st.length : Int) (i : Int)) st.length (fun i hi ih => hmiss i hi (hall i hi) _ ih) ?_
    refine Ev.step (fun k => by rw [impl_LeastGreen.l0]) ?_
    exact ev_f (by omega) (Ev.now _)
  · rw [leastG_f hall]
    obtain ⟨m, hm, h1, h2⟩ := first_fail st.length hall
    obtain ⟨w1, w2⟩ := Classical.not_not.1 h1
    obtain ⟨b1, b2⟩ := fp_bound (rd st (m : Int)) l
    refine ev_for0 (F := fun k i => impl_LeastGreen.l0 k l st (st.length : Int) (i : Int)) m (fun i hi ih => hmiss i (by omega) (h2 i hi) _ ih) ?_
    refine Ev.step (fun k => by rw [impl_LeastGreen.l0]) (ev_t (by omega) (ev_t (by omega) (ev_t (by omega) (ev_call (impl_findPath l _) ?_))))
    exact ev_t w1 (ev_t w1 (ev_t b2 (ev_t w2 (Ev.now _))))
end Go.Proofs.Ytbpnbflfpgakmaa.U
/- The clearing time between two stages: the program's way and the reference's. -/
set_option linter.unusedVariables false
set_option linter.unusedSimpArgs false
namespace Go.Proofs.Ytbpnbflfpgakmaa.U
open Go.RowKit Go.Proofs.YtbpnbflfpgakmaaW.PrintWords Go.Proofs.YtbpnbflfpgakmaaW.PrintLast Go.Proofs.Ytbpnbflfpgakmaa.P
/-- Those of the first i of a that are not in b. -/
def cl (a b : List Int) : Nat → List Int
  | 0 => []
  | i + 1 => if rd a (i : Int) ∈ b then cl a b i else cl a b i ++ [rd a (i : Int)]
theorem cl_t {a b : List Int} {i : Nat} (h : rd a (i : Int) ∈ b) : cl a b (i + 1) = cl a b i := by rw [cl, if_pos h]
theorem cl_f {a b : List Int} {i : Nat} (h : ¬ rd a (i : Int) ∈ b) : cl a b (i + 1) = cl a b i ++ [rd a (i : Int)] := by rw [cl, if_neg h]
theorem cl_len (a b : List Int) : ∀ i, (cl a b i).length ≤ i
  | 0 => by simp [cl]
  | i + 1 => by
    have := cl_len a b i
    by_cases h : rd a (i : Int) ∈ b
    · rw [cl_t h]; omega
    · rw [cl_f h, List.length_append]; simp; omega
theorem cl_mem (a b : List Int) (z : Int) : ∀ i, z ∈ cl a b i → ∃ m, m < i ∧ rd a (m : Int) = z
  | 0, h => by simp [cl] at h
  | i + 1, h => by
    by_cases c : rd a (i : Int) ∈ b
    · rw [cl_t c] at h
      obtain ⟨m, h1, h2⟩ := cl_mem a b z i h
      exact ⟨m, by omega, h2⟩
    · rw [cl_f c, List.mem_append] at h
      rcases h with h | h
      · obtain ⟨m, h1, h2⟩ := cl_mem a b z i h
        exact ⟨m, by omega, h2⟩
      · exact ⟨i, by omega, (List.mem_singleton.1 h).symm⟩
def closes (a b : List Int) : List Int := cl a b a.length
theorem closes_len (a b : List Int) : (closes a b).length ≤ a.length := cl_len a b a.length
theorem spec_closes (a b : List Int) (ha : a.length ≤ 1048576) (hb : b.length ≤ 1048576) : Ev (fun k => spec_Closes.f k a b) (closes a b) := by
  unfold spec_Closes.f closes
  refine ev_for0 (F := fun k i => spec_Closes.l0 k a b (cl a b i) (i : Int)) a.length (fun i hi ih => ?_) ?_
  · have h1 := cl_len a b i
    have h2 : (cl a b i).length < 17592186044416 := by omega
    refine Ev.step (fun k => by rw [spec_Closes.l0]) (ev_t (by omega) (ev_t (by omega) (Ev.bind (spec_has b _ (by omega)) ?_)))
    rw [w_succ hi (by omega)]
    by_cases c : rd a (i : Int) ∈ b
    · rw [cl_t c] at ih
      exact ev_dt c ih
    · rw [cl_f c] at ih
      exact ev_df c (ev_t h2 ih)
  · refine Ev.step (fun k => by rw [spec_Closes.l0]) ?_
    exact ev_f (by omega) (Ev.now _)
theorem impl_closes (a b : List Int) (ha : a.length ≤ 1048576) (hb : b.length ≤ 1048576) : Ev (fun k => impl_Closes.f k a b) (closes a b) := by
  unfold impl_Closes.f closes
  have e : Ev (fun k => impl_sieve.f k a b false) (cl a b a.length) := by
    unfold impl_sieve.f
    refine ev_for0 (F := fun k i => impl_sieve.l0 k b false (cl a b i) a (a.length : Int) (i : Int)) a.length (fun i hi ih => ?_) ?_
    · have h1 := cl_len a b i
      have h2 : (cl a b i).length < 17592186044416 := by omega
      refine Ev.step (fun k => by rw [impl_sieve.l0]) (ev_t (by omega) (ev_t (by omega) (ev_t (by omega) (Ev.bind (slices_contains b _ (by omega)) ?_))))
      rw [w_succ hi (by omega)]
      by_cases c : rd a (i : Int) ∈ b
      · rw [cl_t c] at ih
        rw [decide_eq_true c]
        exact ev_f (by decide) ih
      · rw [cl_f c] at ih
        rw [decide_eq_false c]
        exact ev_t rfl (ev_t h2 ih)
    · refine Ev.step (fun k => by rw [impl_sieve.l0]) ?_
      exact ev_f (by omega) (Ev.now _)
  exact Ev.bind e (Ev.now _)
def clr (x : S58) : Int := if isP x = true then (if x.f1 = 1 then 2 else if x.f1 = 3 then 3 else 5) else 0
theorem clr_t {x : S58} (h : isP x = true) : clr x = (if x.f1 = 1 then 2 else if x.f1 = 3 then 3 else 5) := if_pos h
theorem clr_f {x : S58} (h : ¬ isP x = true) : clr x = 0 := if_neg h
theorem spec_clearOf (x : S58) : spec_ClearOf.f x.f0 x.f1 x.f2 x.f3 = some (clr x) := by
  unfold spec_ClearOf.f
  rw [spec_isPath, Option.bind_some]
  by_cases h : isP x = true
  · obtain ⟨_, h1, _⟩ := (isP_iff x).1 h
    rw [if_pos h, clr_t h, Option.bind_some, if_pos (by omega), if_pos (by simp; omega)]
    have : x.f1 = 1 ∨ x.f1 = 2 ∨ x.f1 = 3 := by omega
    rcases this with e | e | e <;> rw [e] <;> rfl
  · rw [if_neg h, clr_f h]
theorem impl_clearOf (x : S58) : impl_ClearOf.f x.f0 x.f1 x.f2 x.f3 = some (clr x) := by
  unfold impl_ClearOf.f
  rw [impl_isPath, Option.bind_some]
  by_cases h : isP x = true
  · obtain ⟨_, h1, _⟩ := (isP_iff x).1 h
    rw [if_pos h, clr_t h]
    have : x.f1 = 1 ∨ x.f1 = 2 ∨ x.f1 = 3 := by omega
    rcases this with e | e | e <;> rw [e] <;> rfl
  · rw [if_neg h, clr_f h]
theorem tog_ix {l : List S58} {s : List Int} (h : togeth l s = true) {i : Nat} (hi : i < s.length) : 0 ≤ impl_FindPath.ix (rd s (i : Int)) l 0 := by
  unfold togeth at h
  rw [Bool.and_eq_true] at h
  exact (bo_iff.1 h.1 i hi).1.1
theorem closes_ix {l : List S58} {a b : List Int} (h : togeth l a = true) {i : Nat} (hi : i < (closes a b).length) : 0 ≤ impl_FindPath.ix (rd (closes a b) (i : Int)) l 0 := by
  obtain ⟨m, h1, h2⟩ := cl_mem a b (rd (closes a b) (i : Int)) a.length (by
    rw [rd_at _ i hi]; exact List.getElem_mem hi)
  rw [← h2]
  exact tog_ix h h1
noncomputable def cbJ (l : List S58) (p : S58) (y : List Int) (n : Int) : Nat → Int
  | 0 => n
  | j + 1 => if conf p (pAt l (rd y (j : Int))) = true then max (cbJ l p y n j) (clr p) else cbJ l p y n j
theorem cbJ_t {l : List S58} {p : S58} {y : List Int} {n : Int} {j : Nat} (h : conf p (pAt l (rd y (j : Int))) = true) : cbJ l p y n (j + 1) = max (cbJ l p y n j) (clr p) := by rw [cbJ, if_pos h]
theorem cbJ_f {l : List S58} {p : S58} {y : List Int} {n : Int} {j : Nat} (h : ¬ conf p (pAt l (rd y (j : Int))) = true) : cbJ l p y n (j + 1) = cbJ l p y n j := by rw [cbJ, if_neg h]
noncomputable def cbI (l : List S58) (x y : List Int) : Nat → Int
  | 0 => 0
  | i + 1 => cbJ l (pAt l (rd x (i : Int))) y (cbI l x y i) y.length
noncomputable def clearB (l : List S58) (a b : List Int) : Int := if togeth l a = true ∧ togeth l b = true then cbI l (closes a b) (closes b a) (closes a b).length else 0
theorem clearB_t {l : List S58} {a b : List Int} (h : togeth l a = true ∧ togeth l b = true) : clearB l a b = cbI l (closes a b) (closes b a) (closes a b).length := if_pos h
theorem clearB_f {l : List S58} {a b : List Int} (h : ¬ (togeth l a = true ∧ togeth l b = true)) : clearB l a b = 0 := if_neg h
theorem spec_clearBetween (l : List S58) (a b : List Int) (h : l.length ≤ 1048576) (ha : a.length ≤ 1048576) (hb : b.length ≤ 1048576) : Ev (fun k => spec_ClearBetween.f k l a b) (clearB l a b) := by
  unfold spec_ClearBetween.f
  refine Ev.bind (spec_closes a b ha hb) (Ev.bind (spec_closes b a hb ha) ?_)
  have l1 := closes_len a b
  have l2 := closes_len b a
  have jf : ∀ n i, Ev (fun k => spec_ClearBetween.j1 k l a b n (closes a b) (closes b a) i false) n := fun n i => Ev.step (fun k => by rw [spec_ClearBetween.j1]) (ev_f (by decide) (Ev.now _))
  by_cases ht : togeth l a = true ∧ togeth l b = true
  · rw [clearB_t ht]
    refine ev_for0 (F := fun k i => spec_ClearBetween.l0 k l a b (cbI l (closes a b) (closes b a) i) (closes a b) (closes b a) (i : Int)) (closes a b).length (fun i hi ih => ?_) ?_
    · have t1 := spec_isTogether l a (by omega) (by omega)
      have t2 := spec_isTogether l b (by omega) (by omega)
      rw [ht.1] at t1
      rw [ht.2] at t2
      refine Ev.step (fun k => by rw [spec_ClearBetween.l0]) (ev_t (by omega) (Ev.bind t1 (ev_t rfl (Ev.bind t2 ?_))))
      refine Ev.step (fun k => by rw [spec_ClearBetween.j1]) (ev_t rfl ?_)
      refine ev_for0 (F := fun k j => spec_ClearBetween.l1 k l a b (cbJ l (pAt l (rd (closes a b) (i : Int))) (closes b a) (cbI l (closes a b) (closes b a) i) j) (closes a b) (closes b a) (i : Int) (j : Int)) (closes b a).length (fun j hj ih2 => ?_) ?_
      · have b1 := fp_bound (rd (closes a b) (i : Int)) l
        have b2 := fp_bound (rd (closes b a) (j : Int)) l
        have c1 := closes_ix (b := b) ht.1 hi
        have c2 := closes_ix (b := a) ht.2 hj
        refine Ev.step (fun k => by rw [spec_ClearBetween.l1]) (ev_t (by omega) (ev_t (by omega) (ev_t (by omega) (Ev.bind (spec_findPath l _ (by omega)) (ev_t c1 (ev_t b1.2 ?_))))))
        refine ev_t (by omega) (Ev.bind (spec_findPath l _ (by omega)) (ev_t c2 (ev_t b2.2 ?_)))
        refine Ev.bind (spec_conflict (pAt l (rd (closes a b) (i : Int))) (pAt l (rd (closes b a) (j : Int)))) ?_
        rw [w_succ hj (by omega)]
        by_cases c : conf (pAt l (rd (closes a b) (i : Int))) (pAt l (rd (closes b a) (j : Int))) = true
        · rw [cbJ_t c] at ih2
          exact ev_t c (ev_call (spec_clearOf (pAt l (rd (closes a b) (i : Int)))) (ev_call (spec_Max_eq _ _) ih2))
        · rw [cbJ_f c] at ih2
          exact ev_f c ih2
      · refine Ev.step (fun k => by rw [spec_ClearBetween.l1]) (ev_f (by omega) ?_)
        rw [w_succ hi (by omega)]
        exact ih
    · refine Ev.step (fun k => by rw [spec_ClearBetween.l0]) ?_
      exact ev_f (by omega) (jf _ _)
  · rw [clearB_f ht]
    have t1 := spec_isTogether l a (by omega) (by omega)
    have t2 := spec_isTogether l b (by omega) (by omega)
    refine Ev.step (fun k => by rw [spec_ClearBetween.l0]) (ev_ite (fun _ => Ev.bind t1 ?_) (fun _ => jf _ _))
    refine ev_ite (fun c => Ev.bind t2 ?_) (fun _ => jf _ _)
    cases hb2 : togeth l b with
    | true => exact absurd ⟨c, hb2⟩ ht
    | false => exact jf _ _
theorem impl_clearBetween (l : List S58) (a b : List Int) (h : l.length ≤ 1048576) (ha : a.length ≤ 1048576) (hb : b.length ≤ 1048576) : Ev (fun k => impl_ClearBetween.f k l a b) (clearB l a b) := by
  unfold impl_ClearBetween.f
  have l1 := closes_len a b
  have l2 := closes_len b a
  refine Ev.bind (impl_isTogether l a (by omega) (by omega)) ?_
  by_cases ht : togeth l a = true ∧ togeth l b = true
  · rw [clearB_t ht]
    refine ev_t ht.1 (Ev.bind (impl_isTogether l b (by omega) (by omega)) ?_)
    rw [ht.2]
    refine Ev.step (fun k => by rw [impl_ClearBetween.j0]) (ev_f (by decide) (Ev.bind (impl_closes a b ha hb) ?_))
    refine ev_for0 (F := fun k i => impl_ClearBetween.l0 k l a b (cbI l (closes a b) (closes b a) i) (closes a b) ((closes a b).length : Int) (i : Int)) (closes a b).length (fun i hi ih => ?_) ?_
    · refine Ev.step (fun k => by rw [impl_ClearBetween.l0]) (ev_t (by omega) (ev_t (by omega) (ev_t (by omega) (Ev.bind (impl_closes b a hb ha) ?_))))
      refine ev_for0 (F := fun k j => impl_ClearBetween.l1 k l a b (cbJ l (pAt l (rd (closes a b) (i : Int))) (closes b a) (cbI l (closes a b) (closes b a) i) j) (rd (closes a b) (i : Int)) (closes a b) ((closes a b).length : Int) (i : Int) (closes b a) ((closes b a).length : Int) (j : Int)) (closes b a).length (fun j hj ih2 => ?_) ?_
      · have b1 := fp_bound (rd (closes a b) (i : Int)) l
        have b2 := fp_bound (rd (closes b a) (j : Int)) l
        have c1 := closes_ix (b := b) ht.1 hi
        have c2 := closes_ix (b := a) ht.2 hj
        refine Ev.step (fun k => by rw [impl_ClearBetween.l1]) (ev_t (by omega) (ev_t (by omega) (ev_t (by omega) (ev_call (impl_findPath l _) (ev_t c1 (ev_t b1.2 (ev_call (impl_findPath l _) (ev_t c2 (ev_t b2.2 ?_)))))))))
        refine Ev.bind (impl_conflict (pAt l (rd (closes a b) (i : Int))) (pAt l (rd (closes b a) (j : Int)))) ?_
        rw [w_succ hj (by omega)]
        by_cases c : conf (pAt l (rd (closes a b) (i : Int))) (pAt l (rd (closes b a) (j : Int))) = true
        · rw [cbJ_t c] at ih2
          refine ev_t c (ev_call (impl_clearOf (pAt l (rd (closes a b) (i : Int)))) ?_)
          rw [mx_eq]
          exact ih2
        · rw [cbJ_f c] at ih2
          exact ev_f c ih2
      · refine Ev.step (fun k => by rw [impl_ClearBetween.l1]) (ev_f (by omega) ?_)
        rw [w_succ hi (by omega)]
        exact ih
    · refine Ev.step (fun k => by rw [impl_ClearBetween.l0]) ?_
      exact ev_f (by omega) (Ev.now _)
  · rw [clearB_f ht]
    have jt : Ev (fun k => impl_ClearBetween.j0 k l a b 0 true) 0 := Ev.step (fun k => by rw [impl_ClearBetween.j0]) (ev_t rfl (Ev.now _))
    have t2 := impl_isTogether l b (by omega) (by omega)
    refine ev_ite (fun c => Ev.bind t2 ?_) (fun _ => jt)
    cases hb2 : togeth l b with
    | true => exact absurd ⟨c, hb2⟩ ht
    | false => exact jt
theorem clr_bound (x : S58) : 0 ≤ clr x ∧ clr x ≤ 5 := by
  by_cases h : isP x = true
  · rw [clr_t h]; omega
  · rw [clr_f h]; omega
theorem cbJ_bound (l : List S58) (p : S58) (y : List Int) (n : Int) (hn : 0 ≤ n ∧ n ≤ 5) : ∀ j, 0 ≤ cbJ l p y n j ∧ cbJ l p y n j ≤ 5
  | 0 => hn
  | j + 1 => by
    have h1 := cbJ_bound l p y n hn j
    have h2 := clr_bound p
    by_cases c : conf p (pAt l (rd y (j : Int))) = true
    · rw [cbJ_t c]; omega
    · rw [cbJ_f c]; exact h1
theorem cbI_bound (l : List S58) (x y : List Int) : ∀ i, 0 ≤ cbI l x y i ∧ cbI l x y i ≤ 5
  | 0 => by simp [cbI]
  | i + 1 => by
    unfold cbI
    exact cbJ_bound l _ y _ (cbI_bound l x y i) _
theorem clearB_bound (l : List S58) (a b : List Int) : 0 ≤ clearB l a b ∧ clearB l a b ≤ 5 := by
  by_cases h : togeth l a = true ∧ togeth l b = true
  · rw [clearB_t h]; exact cbI_bound l _ _ _
  · rw [clearB_f h]; omega
end Go.Proofs.Ytbpnbflfpgakmaa.U
/- Do the stages cover the paths: the program's way and the reference's. -/
set_option linter.unusedVariables false
set_option linter.unusedSimpArgs false
namespace Go.Proofs.Ytbpnbflfpgakmaa.U
open Go.RowKit Go.Proofs.YtbpnbflfpgakmaaW.PrintWords Go.Proofs.YtbpnbflfpgakmaaW.PrintLast Go.Proofs.Ytbpnbflfpgakmaa.P
/-- Some one of the first n stages has the path. -/
def cf (st : List (List Int)) (id : Int) : Nat → Bool
  | 0 => false
  | j + 1 => cf st id j || decide (id ∈ rd_L2 st (j : Int))
theorem cf_t {st : List (List Int)} {id : Int} {j : Nat} (h : cf st id j = true) : cf st id (j + 1) = true := by rw [cf, h, Bool.true_or]
theorem cf_f {st : List (List Int)} {id : Int} {j : Nat} (h : ¬ cf st id j = true) : cf st id (j + 1) = decide (id ∈ rd_L2 st (j : Int)) := by
  rw [cf, Bool.eq_false_iff.2 h, Bool.false_or]
theorem cf_iff (st : List (List Int)) (id : Int) : ∀ n, cf st id n = true ↔ ∃ j, j < n ∧ id ∈ rd_L2 st (j : Int)
  | 0 => by simp [cf]
  | n + 1 => by
    rw [cf, Bool.or_eq_true, cf_iff st id n, decide_eq_true_eq]
    constructor
    · rintro (⟨j, h1, h2⟩ | h)
      · exact ⟨j, by omega, h2⟩
      · exact ⟨n, by omega, h⟩
    · rintro ⟨j, h1, h2⟩
      by_cases e : j = n
      · exact .inr (e ▸ h2)
      · exact .inl ⟨j, by omega, h2⟩
theorem impl_isCovered_eq (st : List (List Int)) (id : Int) : impl_isCovered.f st id = some (cf st id st.length) := by
  unfold impl_isCovered.f
  congr 1
  by_cases h : ∃ j, j < st.length ∧ id ∈ rd_L2 st (j : Int)
  · rw [(cf_iff st id st.length).2 h]
    have hn : ¬ ∀ j, j < st.length → ¬ id ∈ rd_L2 st (j : Int) := fun hh => by
      obtain ⟨j, h1, h2⟩ := h
      exact hh j h1 h2
    obtain ⟨m, hm, h1, h2⟩ := first_fail st.length hn
    have h1 := Classical.not_not.1 h1
    rw [impl_isCovered.ix_hit id st 0 m hm (fun j hj => by
      have := h2 j hj
      rw [impl_isCovered.rd_ st j (by omega)] at this
      exact decide_eq_false this) (by
      rw [impl_isCovered.rd_ st m hm] at h1
      exact decide_eq_true h1)]
    exact decide_eq_true (by omega)
  · rw [Bool.eq_false_iff.2 (fun hh => h ((cf_iff st id st.length).1 hh))]
    rw [impl_isCovered.ix_miss id st 0 (fun j hj => decide_eq_false (fun hh => h ⟨j, hj, by rw [impl_isCovered.rd_ st j hj]; exact hh⟩))]
    exact decide_eq_false (by omega)
def cvT (l : List S58) (st : List (List Int)) (i : Nat) : Prop := togeth l (rd_L2 st (i : Int)) = true
def cvC (l : List S58) (st : List (List Int)) (i : Nat) : Prop := cf st (rd_T58 l (i : Int)).f0 st.length = true
noncomputable def cov (l : List S58) (st : List (List Int)) : Bool := bo (∀ i, i < st.length → cvT l st i) && (bo (∀ i, i < l.length → cvC l st i) && areP l)
theorem spec_covers (l : List S58) (st : List (List Int)) (h : l.length ≤ 1048576) (hs : st.length ≤ 1048576) (hx : ∀ i : Nat, i < st.length → (rd_L2 st (i : Int)).length ≤ 1048576) : Ev (fun k => spec_Covers.f k l st) (cov l st) := by
  unfold spec_Covers.f cov
  have hin : ∀ i : Nat, i < l.length → ∀ r, (cvC l st i → Ev (fun k => spec_Covers.l1 k l st ((i + 1 : Nat) : Int)) r) → (¬ cvC l st i → r = false) → Ev (fun k => spec_Covers.l1 k l st (i : Int)) r := by
    intro i hi r c1 c2
    refine Ev.step (fun k => by rw [spec_Covers.l1]) (ev_t (by omega) ?_)
    refine ev_for0 (F := fun k j => spec_Covers.l2 k l st (i : Int) (cf st (rd_T58 l (i : Int)).f0 j) (j : Int)) st.length (fun j hj ih => ?_) ?_
    · have hxj := hx j hj
      refine Ev.step (fun k => by rw [spec_Covers.l2]) (ev_t (by omega) ?_)
      rw [w_succ hj (by omega)]
      by_cases c : cf st (rd_T58 l (i : Int)).f0 j = true
      · rw [cf_t c] at ih
        exact ev_t c ih
      · rw [cf_f c] at ih
        refine ev_f c (ev_t (by omega) (ev_t (by omega) (ev_t (by omega) ?_)))
        exact Ev.bind (spec_has _ _ (by omega)) ih
    · refine Ev.step (fun k => by rw [spec_Covers.l2]) (ev_f (by omega) ?_)
      rw [w_succ hi (by omega)]
      by_cases c : cf st (rd_T58 l (i : Int)).f0 st.length = true
      · exact ev_t c (c1 c)
      · rw [c2 c]
        exact ev_f c (Ev.now _)
  refine ev_all (F := fun k i => spec_Covers.l0 k l st (i : Int)) (cvT l st) st.length (fun i hi hp r ih => ?_) (fun i hi hp => ?_) (fun _ => ?_)
  · have hxi := hx i hi
    refine Ev.step (fun k => by rw [spec_Covers.l0]) (ev_t (by omega) (ev_t (by omega) (Ev.bind (spec_isTogether l _ (by omega) (by omega)) ?_)))
    refine ev_t (show togeth l (rd_L2 st (i : Int)) = true from hp) ?_
    rw [w_succ hi (by omega)]
    exact ih
  · have hxi := hx i hi
    refine Ev.step (fun k => by rw [spec_Covers.l0]) (ev_t (by omega) (ev_t (by omega) (Ev.bind (spec_isTogether l _ (by omega) (by omega)) ?_)))
    exact ev_f hp (Ev.now _)
  · refine Ev.step (fun k => by rw [spec_Covers.l0]) (ev_f (by omega) ?_)
    refine ev_all (F := fun k i => spec_Covers.l1 k l st (i : Int)) (cvC l st) l.length (fun i hi hp r ih => hin i hi r (fun _ => ih) (fun hn => absurd hp hn)) (fun i hi hp => hin i hi false (fun hc => absurd hc hp) (fun _ => rfl)) (fun _ => ?_)
    refine Ev.step (fun k => by rw [spec_Covers.l1]) (ev_f (by omega) ?_)
    exact Ev.bind (spec_arePaths l (by omega)) (Ev.now _)
theorem impl_covers (l : List S58) (st : List (List Int)) (h : l.length ≤ 1048576) (hs : st.length ≤ 1048576) (hx : ∀ i : Nat, i < st.length → (rd_L2 st (i : Int)).length ≤ 1048576) : Ev (fun k => impl_Covers.f k l st) (cov l st) := by
  unfold impl_Covers.f
  refine Ev.bind (impl_arePaths l (by omega)) ?_
  cases hpp : areP l with
  | false => exact ev_f (by decide) (ev_now (by unfold cov; rw [hpp, Bool.and_false, Bool.and_false]))
  | true =>
  refine ev_t rfl ?_
  unfold cov
  rw [hpp]
  refine ev_all (F := fun k i => impl_Covers.l0 k l st st (st.length : Int) (i : Int)) (cvT l st) st.length (fun i hi hp r ih => ?_) (fun i hi hp => ?_) (fun _ => ?_)
  · have hxi := hx i hi
    refine Ev.step (fun k => by rw [impl_Covers.l0]) (ev_t (by omega) (ev_t (by omega) (ev_t (by omega) (Ev.bind (impl_isTogether l _ (by omega) (by omega)) ?_))))
    refine ev_t (show togeth l (rd_L2 st (i : Int)) = true from hp) ?_
    rw [w_succ hi (by omega)]
    exact ih
  · have hxi := hx i hi
    refine Ev.step (fun k => by rw [impl_Covers.l0]) (ev_t (by omega) (ev_t (by omega) (ev_t (by omega) (Ev.bind (impl_isTogether l _ (by omega) (by omega)) ?_))))
    exact ev_f hp (Ev.now _)
  · refine Ev.step (fun k => by rw [impl_Covers.l0]) (ev_f (by omega) ?_)
    refine ev_all (F := fun k i => impl_Covers.l1 k st l (l.length : Int) (i : Int)) (cvC l st) l.length (fun i hi hp r ih => ?_) (fun i hi hp => ?_) (fun _ => ?_)
    · refine Ev.step (fun k => by rw [impl_Covers.l1]) (ev_t (by omega) (ev_t (by omega) (ev_t (by omega) (ev_call (impl_isCovered_eq st _) ?_))))
      refine ev_t (show cf st (rd_T58 l (i : Int)).f0 st.length = true from hp) ?_
      rw [w_succ hi (by omega)]
      exact ih
    · refine Ev.step (fun k => by rw [impl_Covers.l1]) (ev_t (by omega) (ev_t (by omega) (ev_t (by omega) (ev_call (impl_isCovered_eq st _) ?_))))
      exact ev_f hp (Ev.now _)
    · refine Ev.step (fun k => by rw [impl_Covers.l1]) ?_
      exact ev_f (by omega) (Ev.now _)
end Go.Proofs.Ytbpnbflfpgakmaa.U
/- A plan in form: the program's way and the reference's. -/
set_option linter.unusedVariables false
set_option linter.unusedSimpArgs false
namespace Go.Proofs.Ytbpnbflfpgakmaa.U
open Go.RowKit Go.Proofs.YtbpnbflfpgakmaaW.PrintWords Go.Proofs.YtbpnbflfpgakmaaW.PrintLast Go.Proofs.Ytbpnbflfpgakmaa.P
def stgs (p : List S51) : List (List Int) := p.map (fun x => x.f0)
theorem stgs_len (p : List S51) : (stgs p).length = p.length := List.length_map ..
theorem stgs_rd (p : List S51) (i : Nat) (h : i < p.length) : rd_L2 (stgs p) (i : Int) = (rd_T51 p (i : Int)).f0 := by
  rw [impl_isCovered.rd_ (stgs p) i (by rw [stgs_len]; exact h), rd51 p i h]
  exact List.getElem_map ..
theorem stgs_succ (p : List S51) (i : Nat) (h : i < p.length) : stgs (p.take (i + 1)) = stgs (p.take i) ++ [(rd_T51 p (i : Int)).f0] := by
  unfold stgs
  rw [List.take_succ_eq_append_getElem h, List.map_append, rd51 p i h]
  rfl
theorem stgs_lt (p : List S51) {i : Nat} (h : i ≤ 1048576) : (stgs (p.take i)).length < 5864062014805 := by
  rw [stgs_len, List.length_take]; omega
theorem spec_stages (p : List S51) (h : p.length ≤ 1048576) : Ev (fun k => spec_l8Stages.f k p) (stgs p) := by
  unfold spec_l8Stages.f
  have e : Ev (fun k => spec_l8Stages.l0 k p (stgs (p.take 0)) ((0 : Nat) : Int)) (stgs p) := by
    refine ev_for0 (F := fun k i => spec_l8Stages.l0 k p (stgs (p.take i)) (i : Int)) p.length (fun i hi ih => ?_) ?_
    · refine Ev.step (fun k => by rw [spec_l8Stages.l0]) (ev_t (by omega) (ev_t (by omega) (ev_t (stgs_lt p (i := i) (by omega)) ?_)))
      rw [w_succ hi (by omega), ← stgs_succ p i hi]
      exact ih
    · refine Ev.step (fun k => by rw [spec_l8Stages.l0]) (ev_f (by omega) (ev_now ?_))
      rw [List.take_length]
  exact e
def pOk (l : List S58) (p : List S51) (i : Nat) : Prop := ((rd_T51 p (i : Int)).f0.length : Int) ≠ 0 ∧ togeth l (rd_T51 p (i : Int)).f0 = true ∧ leastG l (rd_T51 p (i : Int)).f0 ≤ (rd_T51 p (i : Int)).f1 ∧ (rd_T51 p (i : Int)).f1 ≤ 60
noncomputable def plan (l : List S58) (p : List S51) : Bool := if 1 ≤ (p.length : Int) ∧ (p.length : Int) ≤ 6 then bo (∀ i, i < p.length → pOk l p i) && cov l (stgs p) else false
theorem plan_t {l : List S58} {p : List S51} (h : 1 ≤ (p.length : Int) ∧ (p.length : Int) ≤ 6) : plan l p = (bo (∀ i, i < p.length → pOk l p i) && cov l (stgs p)) := if_pos h
theorem plan_f {l : List S58} {p : List S51} (h : ¬ (1 ≤ (p.length : Int) ∧ (p.length : Int) ≤ 6)) : plan l p = false := if_neg h
theorem plan_len {l : List S58} {p : List S51} (h : plan l p = true) : 1 ≤ p.length ∧ p.length ≤ 6 := by
  by_cases c : 1 ≤ (p.length : Int) ∧ (p.length : Int) ≤ 6
  · omega
  · rw [plan_f c] at h; cases h
theorem plan_at {l : List S58} {p : List S51} (h : plan l p = true) {i : Nat} (hi : i < p.length) : pOk l p i := by
  have c := plan_len h
  rw [plan_t (by omega), Bool.and_eq_true] at h
  exact bo_iff.1 h.1 i hi
theorem spec_isPlan (l : List S58) (p : List S51) (h : l.length ≤ 1048576) (hp : p.length ≤ 1048576) (hx : ∀ i : Nat, i < p.length → (rd_T51 p (i : Int)).f0.length ≤ 1048576) : Ev (fun k => spec_IsPlan.f k l p) (plan l p) := by
  unfold spec_IsPlan.f
  refine ev_call (spec_l1In_eq _ _ _) ?_
  by_cases hl : 1 ≤ (p.length : Int) ∧ (p.length : Int) ≤ 6
  · rw [plan_t hl]
    refine ev_dt hl ?_
    refine ev_all (F := fun k i => spec_IsPlan.l0 k l p (i : Int)) (pOk l p) p.length (fun i hi ho r ih => ?_) (fun i hi ho => ?_) (fun _ => ?_)
    · have hxi := hx i hi
      obtain ⟨o1, o2, o3⟩ := ho
      refine Ev.step (fun k => by rw [spec_IsPlan.l0]) (ev_t (by omega) (ev_t (by omega) (ev_f o1 (Ev.bind (spec_isTogether l _ (by omega) (by omega)) (ev_t o2 ?_)))))
      refine Ev.bind (spec_leastGreen l _ (by omega) (by omega)) (ev_call (spec_l1In_eq _ _ _) (ev_dt o3 ?_))
      rw [w_succ hi (by omega)]
      exact ih
    · have hxi := hx i hi
      refine Ev.step (fun k => by rw [spec_IsPlan.l0]) (ev_t (by omega) (ev_t (by omega) (ev_ite (fun _ => Ev.now _) (fun o1 => ?_))))
      refine Ev.bind (spec_isTogether l _ (by omega) (by omega)) (ev_ite (fun o2 => ?_) (fun _ => Ev.now _))
      refine Ev.bind (spec_leastGreen l _ (by omega) (by omega)) (ev_call (spec_l1In_eq _ _ _) ?_)
      exact ev_df (fun o3 => ho ⟨o1, o2, o3⟩) (Ev.now _)
    · refine Ev.step (fun k => by rw [spec_IsPlan.l0]) (ev_f (by omega) ?_)
      refine Ev.bind (spec_stages p hp) (Ev.bind (spec_covers l (stgs p) h (by rw [stgs_len]; exact hp) (fun i hi => ?_)) (Ev.now _))
      rw [stgs_len] at hi
      rw [stgs_rd p i hi]
      exact hx i hi
  · rw [plan_f hl]
    exact ev_df hl (Ev.now _)
theorem impl_isPlan (l : List S58) (p : List S51) (h : l.length ≤ 1048576) (hp : p.length ≤ 1048576) (hx : ∀ i : Nat, i < p.length → (rd_T51 p (i : Int)).f0.length ≤ 1048576) : Ev (fun k => impl_IsPlan.f k l p) (plan l p) := by
  unfold impl_IsPlan.f
  refine ev_call (impl_InRange_eq _ _ _) ?_
  by_cases hl : 1 ≤ (p.length : Int) ∧ (p.length : Int) ≤ 6
  · rw [plan_t hl]
    refine ev_dt hl ?_
    have e : Ev (fun k => impl_IsPlan.l0 k l (stgs (p.take 0)) p (p.length : Int) ((0 : Nat) : Int)) (bo (∀ i, i < p.length → pOk l p i) && cov l (stgs p)) := by
      refine ev_all (F := fun k i => impl_IsPlan.l0 k l (stgs (p.take i)) p (p.length : Int) (i : Int)) (pOk l p) p.length (fun i hi ho r ih => ?_) (fun i hi ho => ?_) (fun _ => ?_)
      · have hxi := hx i hi
        obtain ⟨o1, o2, o3⟩ := ho
        refine Ev.step (fun k => by rw [impl_IsPlan.l0]) (ev_t (by omega) (ev_t (by omega) (ev_t (by omega) (ev_f o1 (Ev.bind (impl_isTogether l _ (by omega) (by omega)) (ev_t o2 ?_))))))
        refine Ev.bind (impl_leastGreen l _ (by omega)) (ev_call (impl_InRange_eq _ _ _) (ev_dt o3 (ev_t (stgs_lt p (i := i) (by omega)) ?_)))
        rw [w_succ hi (by omega), ← stgs_succ p i hi]
        exact ih
      · have hxi := hx i hi
        refine Ev.step (fun k => by rw [impl_IsPlan.l0]) (ev_t (by omega) (ev_t (by omega) (ev_t (by omega) (ev_ite (fun _ => Ev.now _) (fun o1 => ?_)))))
        refine Ev.bind (impl_isTogether l _ (by omega) (by omega)) (ev_ite (fun o2 => ?_) (fun _ => Ev.now _))
        refine Ev.bind (impl_leastGreen l _ (by omega)) (ev_call (impl_InRange_eq _ _ _) ?_)
        exact ev_df (fun o3 => ho ⟨o1, o2, o3⟩) (Ev.now _)
      · refine Ev.step (fun k => by rw [impl_IsPlan.l0]) (ev_f (by omega) ?_)
        rw [List.take_length]
        refine Ev.bind (impl_covers l (stgs p) h (by rw [stgs_len]; exact hp) (fun i hi => ?_)) (Ev.now _)
        rw [stgs_len] at hi
        rw [stgs_rd p i hi]
        exact hx i hi
    exact e
  · rw [plan_f hl]
    exact ev_df hl (Ev.now _)
end Go.Proofs.Ytbpnbflfpgakmaa.U
/- How long a part of a plan lasts, the cycle, where a part starts: the program's way and the reference's. -/
set_option linter.unusedVariables false
set_option linter.unusedSimpArgs false
namespace Go.Proofs.Ytbpnbflfpgakmaa.U
open Go.RowKit Go.Proofs.YtbpnbflfpgakmaaW.PrintWords Go.Proofs.YtbpnbflfpgakmaaW.PrintLast Go.Proofs.Ytbpnbflfpgakmaa.P
theorem leastG_bound (l : List S58) (s : List Int) : 5 ≤ leastG l s ∧ leastG l s ≤ 7 := by
  by_cases h : ∀ i : Nat, i < s.length → ¬ isWalk l (rd s (i : Int))
  · rw [leastG_t h]; omega
  · rw [leastG_f h]; omega
/-- Lists of a size that fits, and a plan in form. -/
structure PW (l : List S58) (p : List S51) : Prop where
  hl : l.length ≤ 1048576
  hp : p.length ≤ 1048576
  hx : ∀ i : Nat, i < p.length → (rd_T51 p (i : Int)).f0.length ≤ 1048576
def nx (p : List S51) (i : Int) : Int := Int.tmod (i + 1) (p.length : Int)
theorem nx_bound {p : List S51} {i : Nat} (hi : i < p.length) : 0 ≤ nx p (i : Int) ∧ nx p (i : Int) < p.length :=
  ⟨Int.tmod_nonneg _ (by omega), Int.tmod_lt_of_pos _ (by omega)⟩
noncomputable def clN (l : List S58) (p : List S51) (i : Int) : Int := clearB l (rd_T51 p i).f0 (rd_T51 p (nx p i)).f0
noncomputable def longV (l : List S58) (p : List S51) (i : Int) : Int := (rd_T51 p i).f1 + clN l p i
theorem spec_clear_next {l : List S58} {p : List S51} (w : PW l p) {i : Nat} (hi : i < p.length) : Ev (fun k => spec_ClearBetween.f k l (rd_T51 p (i : Int)).f0 (rd_T51 p (nx p (i : Int))).f0) (clN l p (i : Int)) := by
  have b := nx_bound hi
  have h2 := w.hx (nx p (i : Int)).toNat (by omega)
  rw [Int.toNat_of_nonneg b.1] at h2
  exact spec_clearBetween l _ _ w.hl (w.hx i hi) h2
theorem impl_clear_next {l : List S58} {p : List S51} (w : PW l p) {i : Nat} (hi : i < p.length) : Ev (fun k => impl_ClearBetween.f k l (rd_T51 p (i : Int)).f0 (rd_T51 p (nx p (i : Int))).f0) (clN l p (i : Int)) := by
  have b := nx_bound hi
  have h2 := w.hx (nx p (i : Int)).toNat (by omega)
  rw [Int.toNat_of_nonneg b.1] at h2
  exact impl_clearBetween l _ _ w.hl (w.hx i hi) h2
theorem part_bound {l : List S58} {p : List S51} (h : plan l p = true) {i : Nat} (hi : i < p.length) : 5 ≤ (rd_T51 p (i : Int)).f1 ∧ (rd_T51 p (i : Int)).f1 ≤ 60 := by
  obtain ⟨_, _, h3, h4⟩ := plan_at h hi
  have := leastG_bound l (rd_T51 p (i : Int)).f0
  omega
theorem long_bound {l : List S58} {p : List S51} (h : plan l p = true) {i : Nat} (hi : i < p.length) : 5 ≤ longV l p (i : Int) ∧ longV l p (i : Int) ≤ 65 := by
  have h1 := part_bound h hi
  have h2 := clearB_bound l (rd_T51 p (i : Int)).f0 (rd_T51 p (nx p (i : Int))).f0
  unfold longV clN
  omega
theorem spec_long {l : List S58} {p : List S51} (w : PW l p) (h : plan l p = true) {i : Nat} (hi : i < p.length) : Ev (fun k => spec_l8Long.f k l p (i : Int)) (longV l p (i : Int)) := by
  have b := nx_bound hi
  have lb := long_bound h hi
  have hp := w.hp
  unfold spec_l8Long.f
  rw [w64 (n := (i : Int) + 1) (by omega) (by omega)]
  refine ev_t (by omega) (ev_t (by omega) (ev_f (by omega) (ev_t b.1 (ev_t b.2 (Ev.bind (spec_clear_next w hi) ?_)))))
  exact ev_now (w64 (n := longV l p (i : Int)) (by omega) (by omega))
theorem impl_long {l : List S58} {p : List S51} (w : PW l p) (h : plan l p = true) {i : Nat} (hi : i < p.length) : Ev (fun k => impl_longOf.f k l p (i : Int)) (longV l p (i : Int)) := by
  have b := nx_bound hi
  have lb := long_bound h hi
  have hp := w.hp
  have hn : impl_nextStage.f p (i : Int) = some (rd_T51 p (nx p (i : Int))).f0 := by
    unfold impl_nextStage.f
    rw [w64 (n := (i : Int) + 1) (by omega) (by omega), if_neg (by omega), if_pos (show 0 ≤ Int.tmod ((i : Int) + 1) (p.length : Int) from b.1), if_pos (show Int.tmod ((i : Int) + 1) (p.length : Int) < (p.length : Int) from b.2)]
    rfl
  unfold impl_longOf.f
  refine ev_t (by omega) (ev_t (by omega) (ev_call hn (Ev.bind (impl_clear_next w hi) ?_)))
  exact ev_now (w64 (n := longV l p (i : Int)) (by omega) (by omega))
/-- What the first i parts last together. -/
noncomputable def cyc (l : List S58) (p : List S51) : Nat → Int
  | 0 => 0
  | i + 1 => cyc l p i + longV l p (i : Int)
theorem cyc_bound {l : List S58} {p : List S51} (h : plan l p = true) : ∀ i, i ≤ p.length → 5 * (i : Int) ≤ cyc l p i ∧ cyc l p i ≤ 65 * (i : Int)
  | 0, _ => by simp [cyc]
  | i + 1, hi => by
    have h1 := cyc_bound h i (by omega)
    have h2 := long_bound h (i := i) (by omega)
    unfold cyc
    omega
noncomputable def cycV (l : List S58) (p : List S51) : Int := if plan l p = true then cyc l p p.length else 0
theorem cycV_t {l : List S58} {p : List S51} (h : plan l p = true) : cycV l p = cyc l p p.length := if_pos h
theorem cycV_f {l : List S58} {p : List S51} (h : ¬ plan l p = true) : cycV l p = 0 := if_neg h
theorem spec_cycle {l : List S58} {p : List S51} (w : PW l p) : Ev (fun k => spec_Cycle.f k l p) (cycV l p) := by
  have hp := w.hp
  have pl := spec_isPlan l p w.hl w.hp w.hx
  unfold spec_Cycle.f
  by_cases h : plan l p = true
  · rw [cycV_t h]
    refine ev_for0 (F := fun k i => spec_Cycle.l0 k l p (cyc l p i) (i : Int)) p.length (fun i hi ih => ?_) ?_
    · have b1 := cyc_bound h i (by omega)
      have b2 := long_bound h hi
      have b3 := (plan_len h).2
      refine Ev.step (fun k => by rw [spec_Cycle.l0]) (ev_t (by omega) (Ev.bind pl (ev_t h (Ev.bind (spec_long w h hi) ?_))))
      rw [w_succ hi (by omega), w64 (n := cyc l p i + _) (by omega) (by omega)]
      exact ih
    · refine Ev.step (fun k => by rw [spec_Cycle.l0]) ?_
      exact ev_f (by omega) (Ev.now _)
  · rw [cycV_f h]
    refine Ev.step (fun k => by rw [spec_Cycle.l0]) (ev_ite (fun _ => Ev.bind pl (ev_f h (Ev.now _))) (fun _ => Ev.now _))
theorem impl_cycle {l : List S58} {p : List S51} (w : PW l p) : Ev (fun k => impl_Cycle.f k l p) (cycV l p) := by
  have hp := w.hp
  have pl := impl_isPlan l p w.hl w.hp w.hx
  unfold impl_Cycle.f
  refine Ev.bind pl ?_
  by_cases h : plan l p = true
  · rw [cycV_t h]
    refine ev_t h ?_
    refine ev_for0 (F := fun k i => impl_Cycle.l0 k l p (cyc l p i) (p.length : Int) (i : Int)) p.length (fun i hi ih => ?_) ?_
    · have b1 := cyc_bound h i (by omega)
      have b2 := long_bound h hi
      have b3 := (plan_len h).2
      refine Ev.step (fun k => by rw [impl_Cycle.l0]) (ev_t (by omega) (Ev.bind (impl_long w h hi) ?_))
      rw [w_succ hi (by omega), w64 (n := cyc l p i + _) (by omega) (by omega)]
      exact ih
    · refine Ev.step (fun k => by rw [impl_Cycle.l0]) ?_
      exact ev_f (by omega) (Ev.now _)
  · rw [cycV_f h]
    exact ev_f h (Ev.now _)
end Go.Proofs.Ytbpnbflfpgakmaa.U
