/- The small functions: ranges, the greater and the smaller of two. -/
import Derived.Test.YtbpnbflfpgakmaaFX00
import Derived.Test.YtbpnbflfpgakmaaFX00b
import Derived.Test.YtbpnbflfpgakmaaFX00c
import Derived.Test.YtbpnbflfpgakmaaEv
set_option linter.unusedVariables false
set_option linter.unusedSimpArgs false
namespace Go.Proofs.Ytbpnbflfpgakmaa.U
open Go.RowKit Go.Proofs.YtbpnbflfpgakmaaW.PrintWords Go.Proofs.YtbpnbflfpgakmaaW.PrintLast Go.Proofs.Ytbpnbflfpgakmaa.P
theorem spec_l1In_eq (a b c : Int) : spec_l1In.f a b c = some (decide (b ≤ a ∧ a ≤ c)) := by
  unfold spec_l1In.f
  by_cases h : a ≥ b
  · rw [if_pos h]; congr 1; simp; omega
  · rw [if_neg h]; congr 1; simp; omega
theorem impl_InRange_eq (a b c : Int) : impl_InRange.f a b c = some (decide (b ≤ a ∧ a ≤ c)) := by
  unfold impl_InRange.f
  by_cases h : b ≤ a
  · rw [if_pos h]; congr 1; simp; omega
  · rw [if_neg h]; congr 1; simp; omega
theorem spec_Max_eq (a b : Int) : spec_Max.f a b = some (max a b) := by
  unfold spec_Max.f
  by_cases h : b > a
  · rw [if_pos h]; congr 1; omega
  · rw [if_neg h]; congr 1; omega
theorem mx_eq (a b : Int) : mx a b = max a b := by unfold mx; omega
theorem mn_eq (a b : Int) : mn a b = min a b := by unfold mn; omega
end Go.Proofs.Ytbpnbflfpgakmaa.U
/- Is a number in a list: the program's way and the reference's. -/
set_option linter.unusedVariables false
set_option linter.unusedSimpArgs false
namespace Go.Proofs.Ytbpnbflfpgakmaa.U
open Go.RowKit Go.Proofs.YtbpnbflfpgakmaaW.PrintWords Go.Proofs.YtbpnbflfpgakmaaW.PrintLast Go.Proofs.Ytbpnbflfpgakmaa.P
theorem mem_rd {l : List Int} {x : Int} : x ∈ l ↔ ∃ i, i < l.length ∧ rd l (i : Int) = x :=
  ⟨fun h => by
    obtain ⟨i, hi, e⟩ := List.getElem_of_mem h
    exact ⟨i, hi, by rw [rd_at l i hi]; exact e⟩, fun ⟨i, hi, e⟩ => by
    rw [rd_at l i hi] at e
    exact e ▸ List.getElem_mem hi⟩
theorem mem_first {l : List Int} {x : Int} (h : x ∈ l) : ∃ m, m < l.length ∧ rd l (m : Int) = x ∧ ∀ i, i < m → rd l (i : Int) ≠ x := by
  obtain ⟨m, hm, h1, h2⟩ := first_fail (P := fun i => rd l (i : Int) ≠ x) l.length (fun hh => by
    obtain ⟨i, hi, e⟩ := mem_rd.1 h
    exact hh i hi e)
  exact ⟨m, hm, Classical.not_not.1 h1, h2⟩
theorem spec_has (l : List Int) (x : Int) (h : l.length ≤ 9223372036854775807) : Ev (fun k => spec_l6Has.f k l x) (decide (x ∈ l)) := by
  unfold spec_l6Has.f
  by_cases hx : x ∈ l
  · rw [decide_eq_true hx]
    obtain ⟨m, hm, h1, h2⟩ := mem_first hx
    refine ev_for0 (F := fun k i => spec_l6Has.l0 k l x (i : Int)) m (fun i hi ih => ?_) ?_
    · have h3 := h2 i hi
      refine Ev.step (fun k => by rw [spec_l6Has.l0]) (ev_t (by omega) (ev_t (by omega) ?_))
      rw [w_succ (n := l.length) (by omega) h]
      exact ev_f h3 ih
    · refine Ev.step (fun k => by rw [spec_l6Has.l0]) (ev_t (by omega) (ev_t (by omega) ?_))
      exact ev_t h1 (Ev.now _)
  · rw [decide_eq_false hx]
    refine ev_for0 (F := fun k i => spec_l6Has.l0 k l x (i : Int)) l.length (fun i hi ih => ?_) ?_
    · refine Ev.step (fun k => by rw [spec_l6Has.l0]) (ev_t (by omega) (ev_t (by omega) ?_))
      rw [w_succ hi h]
      exact ev_f (fun e => hx (mem_rd.2 ⟨i, hi, e⟩)) ih
    · refine Ev.step (fun k => by rw [spec_l6Has.l0]) ?_
      exact ev_f (by omega) (Ev.now _)
theorem slices_index (l : List Int) (x : Int) (h : l.length ≤ 9223372036854775807) : ∃ j : Int, (0 ≤ j ↔ x ∈ l) ∧ Ev (fun k => slices_Index_int_int.f k l x) j := by
  unfold slices_Index_int_int.f
  by_cases hx : x ∈ l
  · obtain ⟨m, hm, h1, h2⟩ := mem_first hx
    refine ⟨m, ⟨fun _ => hx, fun _ => by omega⟩, ev_for0 (F := fun k i => slices_Index_int_int.l0 k l x (l.length : Int) (i : Int)) m (fun i hi ih => ?_) ?_⟩
    · have h3 := h2 i hi
      refine Ev.step (fun k => by rw [slices_Index_int_int.l0]) (ev_t (by omega) (ev_t (by omega) (ev_t (by omega) ?_)))
      rw [w_succ (n := l.length) (by omega) h]
      exact ev_f (fun e => h3 e.symm) ih
    · refine Ev.step (fun k => by rw [slices_Index_int_int.l0]) (ev_t (by omega) (ev_t (by omega) (ev_t (by omega) ?_)))
      exact ev_t h1.symm (Ev.now _)
  · refine ⟨-1, ⟨fun hh => absurd hh (by omega), fun hh => absurd hh hx⟩, ev_for0 (F := fun k i => slices_Index_int_int.l0 k l x (l.length : Int) (i : Int)) l.length (fun i hi ih => ?_) ?_⟩
    · refine Ev.step (fun k => by rw [slices_Index_int_int.l0]) (ev_t (by omega) (ev_t (by omega) (ev_t (by omega) ?_)))
      rw [w_succ hi h]
      exact ev_f (fun e => hx (mem_rd.2 ⟨i, hi, e.symm⟩)) ih
    · refine Ev.step (fun k => by rw [slices_Index_int_int.l0]) ?_
      exact ev_f (by omega) (Ev.now _)
theorem slices_contains (l : List Int) (x : Int) (h : l.length ≤ 9223372036854775807) : Ev (fun k => slices_Contains_int_int.f k l x) (decide (x ∈ l)) := by
  unfold slices_Contains_int_int.f
  obtain ⟨j, hj, he⟩ := slices_index l x h
  exact Ev.bind he (ev_now (decide_eq_decide.2 hj))
end Go.Proofs.Ytbpnbflfpgakmaa.U
/- Where a path stands in a list: the program's way and the reference's. -/
set_option linter.unusedVariables false
set_option linter.unusedSimpArgs false
namespace Go.Proofs.Ytbpnbflfpgakmaa.U
open Go.RowKit Go.Proofs.YtbpnbflfpgakmaaW.PrintWords Go.Proofs.YtbpnbflfpgakmaaW.PrintLast Go.Proofs.Ytbpnbflfpgakmaa.P
theorem fp_q (id : Int) (x : S58) : impl_FindPath.q id x = false ↔ x.f0 ≠ id := by
  unfold impl_FindPath.q; simp
theorem fp_cases (id : Int) (l : List S58) : (∃ m, m < l.length ∧ (rd_T58 l (m : Int)).f0 = id ∧ (∀ i : Nat, i < m → (rd_T58 l (i : Int)).f0 ≠ id) ∧ impl_FindPath.ix id l 0 = (m : Int)) ∨ ((∀ i : Nat, i < l.length → (rd_T58 l (i : Int)).f0 ≠ id) ∧ impl_FindPath.ix id l 0 = -1) := by
  by_cases h : ∀ i : Nat, i < l.length → (rd_T58 l (i : Int)).f0 ≠ id
  · exact Or.inr ⟨h, impl_FindPath.ix_miss id l 0 (fun j hj => (fp_q id _).2 (by rw [← impl_FindPath.rd_ l j hj]; exact h j hj))⟩
  · obtain ⟨m, hm, h1, h2⟩ := first_fail l.length h
    refine Or.inl ⟨m, hm, Classical.not_not.1 h1, h2, ?_⟩
    rw [impl_FindPath.ix_hit id l 0 m hm (fun j hj => (fp_q id _).2 (by rw [← impl_FindPath.rd_ l j (by omega)]; exact h2 j hj)) (by
      have := Classical.not_not.1 h1
      rw [impl_FindPath.rd_ l m hm] at this
      unfold impl_FindPath.q
      simpa using this)]
    omega
theorem fp_bound (id : Int) (l : List S58) : -1 ≤ impl_FindPath.ix id l 0 ∧ impl_FindPath.ix id l 0 < l.length := by
  rcases fp_cases id l with ⟨m, h, _, _, e⟩ | ⟨_, e⟩ <;> omega
theorem spec_findPath (l : List S58) (id : Int) (h : l.length ≤ 9223372036854775807) : Ev (fun k => spec_FindPath.f k l id) (impl_FindPath.ix id l 0) := by
  unfold spec_FindPath.f
  rcases fp_cases id l with ⟨m, hm, h1, h2, e⟩ | ⟨h2, e⟩
  · rw [e]
    refine ev_for0 (F := fun k i => spec_FindPath.l0 k l id (i : Int)) m (fun i hi ih => ?_) ?_
    · have h3 := h2 i hi
      refine Ev.step (fun k => by rw [spec_FindPath.l0]) (ev_t (by omega) (ev_t (by omega) (ev_f h3 ?_)))
      rw [w_succ (n := l.length) (by omega) h]
      exact ih
    · refine Ev.step (fun k => by rw [spec_FindPath.l0]) (ev_t (by omega) (ev_t (by omega) ?_))
      exact ev_t h1 (Ev.now _)
  · rw [e]
    refine ev_for0 (F := fun k i => spec_FindPath.l0 k l id (i : Int)) l.length (fun i hi ih => ?_) ?_
    · have h3 := h2 i hi
      refine Ev.step (fun k => by rw [spec_FindPath.l0]) (ev_t (by omega) (ev_t (by omega) (ev_f h3 ?_)))
      rw [w_succ hi h]
      exact ih
    · refine Ev.step (fun k => by rw [spec_FindPath.l0]) ?_
      exact ev_f (by omega) (Ev.now _)
theorem impl_findPath (l : List S58) (id : Int) : impl_FindPath.f l id = some (impl_FindPath.ix id l 0) := rfl
end Go.Proofs.Ytbpnbflfpgakmaa.U
/- A path and a list of paths in form: the program's way and the reference's. -/
set_option linter.unusedVariables false
set_option linter.unusedSimpArgs false
namespace Go.Proofs.Ytbpnbflfpgakmaa.U
open Go.RowKit Go.Proofs.YtbpnbflfpgakmaaW.PrintWords Go.Proofs.YtbpnbflfpgakmaaW.PrintLast Go.Proofs.Ytbpnbflfpgakmaa.P
def isP (x : S58) : Bool := decide (1 ≤ x.f0 ∧ x.f0 ≤ 20) && (decide (1 ≤ x.f1 ∧ x.f1 ≤ 3) && (decide (0 ≤ x.f2 ∧ x.f2 ≤ 3) && (decide (0 ≤ x.f3 ∧ x.f3 ≤ 3) && ((x.f2 == x.f3) == (x.f1 == 2)))))
theorem spec_isPath (x : S58) : spec_IsPath.f x.f0 x.f1 x.f2 x.f3 = some (isP x) := by
  unfold spec_IsPath.f isP
  simp only [spec_l1In_eq, Option.bind_some]
  cases decide (1 ≤ x.f0 ∧ x.f0 ≤ 20) <;> cases decide (1 ≤ x.f1 ∧ x.f1 ≤ 3) <;> cases decide (0 ≤ x.f2 ∧ x.f2 ≤ 3) <;> cases decide (0 ≤ x.f3 ∧ x.f3 ≤ 3) <;> simp
theorem impl_isPath (x : S58) : impl_IsPath.f x.f0 x.f1 x.f2 x.f3 = some (isP x) := by
  unfold impl_IsPath.f isP
  simp only [impl_InRange_eq, Option.bind_some]
  cases decide (1 ≤ x.f0 ∧ x.f0 ≤ 20) <;> cases decide (1 ≤ x.f1 ∧ x.f1 ≤ 3) <;> cases decide (0 ≤ x.f2 ∧ x.f2 ≤ 3) <;> cases decide (0 ≤ x.f3 ∧ x.f3 ≤ 3) <;> simp
theorem isP_iff (x : S58) : isP x = true ↔ (1 ≤ x.f0 ∧ x.f0 ≤ 20) ∧ (1 ≤ x.f1 ∧ x.f1 ≤ 3) ∧ (0 ≤ x.f2 ∧ x.f2 ≤ 3) ∧ (0 ≤ x.f3 ∧ x.f3 ≤ 3) ∧ (x.f2 = x.f3 ↔ x.f1 = 2) := by
  unfold isP
  simp only [Bool.and_eq_true, decide_eq_true_eq, beq_iff_eq]
  rw [Bool.eq_iff_iff, beq_iff_eq, beq_iff_eq]
/-- Path i is in form and stands after the one ahead of it. -/
def pStep (l : List S58) (i : Nat) : Prop := isP (rd_T58 l (i : Int)) = true ∧ (0 < i → (rd_T58 l ((i : Int) - 1)).f0 < (rd_T58 l (i : Int)).f0)
noncomputable def areP (l : List S58) : Bool := bo (∀ i, i < l.length → pStep l i) && decide ((l.length : Int) ≤ 12)
theorem areP_len {l : List S58} (h : areP l = true) : l.length ≤ 12 := by
  unfold areP at h
  simp only [Bool.and_eq_true, decide_eq_true_eq] at h
  omega
theorem areP_at {l : List S58} (h : areP l = true) (i : Nat) (hi : i < l.length) : pStep l i := by
  unfold areP at h
  simp only [Bool.and_eq_true] at h
  exact bo_iff.1 h.1 i hi
theorem spec_arePaths (l : List S58) (h : l.length ≤ 9223372036854775807) : Ev (fun k => spec_ArePaths.f k l) (areP l) := by
  unfold spec_ArePaths.f areP
  refine ev_all (F := fun k i => spec_ArePaths.l0 k l (i : Int)) (pStep l) l.length (fun i hi hp r ih => ?_) (fun i hi hp => ?_) (fun _ => ?_)
  · refine Ev.step (fun k => by rw [spec_ArePaths.l0]) (ev_t (by omega) (ev_t (by omega) (ev_call (spec_isPath _) (ev_t hp.1 ?_))))
    rw [w_succ hi h]
    refine ev_ite (fun h0 => ?_) (fun _ => ih)
    have := hp.2 (by omega)
    rw [w64 (n := (i : Int) - 1) (by omega) (by omega)]
    exact ev_t (by omega) (ev_t (by omega) (ev_f (by omega) ih))
  · refine Ev.step (fun k => by rw [spec_ArePaths.l0]) (ev_t (by omega) (ev_t (by omega) (ev_call (spec_isPath _) ?_)))
    refine ev_ite (fun h1 => ?_) (fun _ => Ev.now _)
    have h0 : 0 < i := by
      rcases Nat.eq_zero_or_pos i with e | e
      · exact absurd ⟨h1, fun h => by omega⟩ hp
      · exact e
    have h2 : ¬ (rd_T58 l ((i : Int) - 1)).f0 < (rd_T58 l (i : Int)).f0 := fun h2 => hp ⟨h1, fun _ => h2⟩
    rw [w64 (n := (i : Int) - 1) (by omega) (by omega)]
    exact ev_t (by omega) (ev_t (by omega) (ev_t (by omega) (ev_t (by omega) (Ev.now _))))
  · refine Ev.step (fun k => by rw [spec_ArePaths.l0]) ?_
    exact ev_f (by omega) (Ev.now _)
theorem impl_arePaths (l : List S58) (h : l.length ≤ 9223372036854775807) : Ev (fun k => impl_ArePaths.f k l) (areP l) := by
  unfold impl_ArePaths.f
  by_cases hl : (l.length : Int) > 12
  · exact ev_t hl (ev_now (by unfold areP; rw [decide_eq_false (by omega), Bool.and_false]))
  refine ev_f hl ?_
  have e : areP l = (bo (∀ i, i < l.length → pStep l i) && true) := by unfold areP; rw [decide_eq_true (by omega)]
  rw [e]
  refine ev_all (F := fun k i => impl_ArePaths.l0 k l l (l.length : Int) (i : Int)) (pStep l) l.length (fun i hi hp r ih => ?_) (fun i hi hp => ?_) (fun _ => ?_)
  · refine Ev.step (fun k => by rw [impl_ArePaths.l0]) (ev_t (by omega) (ev_t (by omega) (ev_t (by omega) (ev_call (impl_isPath _) (ev_t hp.1 ?_)))))
    rw [w_succ hi h]
    refine ev_ite (fun h0 => ?_) (fun _ => ih)
    have := hp.2 (by omega)
    rw [w64 (n := (i : Int) - 1) (by omega) (by omega)]
    exact ev_t (by omega) (ev_t (by omega) (ev_f (by omega) ih))
  · refine Ev.step (fun k => by rw [impl_ArePaths.l0]) (ev_t (by omega) (ev_t (by omega) (ev_t (by omega) (ev_call (impl_isPath _) ?_))))
    refine ev_ite (fun h1 => ?_) (fun _ => Ev.now _)
    have h0 : 0 < i := by
      rcases Nat.eq_zero_or_pos i with e | e
      · exact absurd ⟨h1, fun h => by omega⟩ hp
      · exact e
    have h2 : ¬ (rd_T58 l ((i : Int) - 1)).f0 < (rd_T58 l (i : Int)).f0 := fun h2 => hp ⟨h1, fun _ => h2⟩
    rw [w64 (n := (i : Int) - 1) (by omega) (by omega)]
    exact ev_t (by omega) (ev_t (by omega) (ev_t (by omega) (ev_t (by omega) (Ev.now _))))
  · refine Ev.step (fun k => by rw [impl_ArePaths.l0]) ?_
    exact ev_f (by omega) (Ev.now _)
end Go.Proofs.Ytbpnbflfpgakmaa.U
/- Do two paths cross: the program's way and the reference's come to one answer. -/
set_option linter.unusedVariables false
set_option linter.unusedSimpArgs false
namespace Go.Proofs.Ytbpnbflfpgakmaa.U
open Go.RowKit Go.Proofs.YtbpnbflfpgakmaaW.PrintWords Go.Proofs.YtbpnbflfpgakmaaW.PrintLast Go.Proofs.Ytbpnbflfpgakmaa.P
def ilvOk (a b c d : Fin 4) : Bool :=
  match spec_Interleave.f 40 (2 * (a.val : Int)) (2 * (b.val : Int) + 1) (2 * (c.val : Int)) (2 * (d.val : Int) + 1) with
  | some v => decide (impl_Interleave.f 40 (2 * (a.val : Int)) (2 * (b.val : Int) + 1) (2 * (c.val : Int)) (2 * (d.val : Int) + 1) = some v) && (decide (a ≠ c) || !v)
  | none => false
set_option maxRecDepth 100000 in
theorem ilv_all : ∀ a b c d : Fin 4, ilvOk a b c d = true := by decide +kernel
theorem ilv_ex {a b c d : Int} (ha : 0 ≤ a ∧ a ≤ 3) (hb : 0 ≤ b ∧ b ≤ 3) (hc : 0 ≤ c ∧ c ≤ 3) (hd : 0 ≤ d ∧ d ≤ 3) :
    ∃ v, Ev (fun k => spec_Interleave.f k (2 * a) (2 * b + 1) (2 * c) (2 * d + 1)) v ∧ Ev (fun k => impl_Interleave.f k (2 * a) (2 * b + 1) (2 * c) (2 * d + 1)) v ∧ (a = c → v = false) := by
  have h := ilv_all ⟨a.toNat, by omega⟩ ⟨b.toNat, by omega⟩ ⟨c.toNat, by omega⟩ ⟨d.toNat, by omega⟩
  unfold ilvOk at h
  simp only [Int.toNat_of_nonneg ha.1, Int.toNat_of_nonneg hb.1, Int.toNat_of_nonneg hc.1, Int.toNat_of_nonneg hd.1] at h
  cases hs : spec_Interleave.f 40 (2 * a) (2 * b + 1) (2 * c) (2 * d + 1) with
  | none => rw [hs] at h; cases h
  | some v =>
    rw [hs] at h
    simp only [Bool.and_eq_true, decide_eq_true_eq, Bool.or_eq_true] at h
    refine ⟨v, Ev.of (fun k => spec_Interleave.mono _ _ _ _ k) hs, Ev.of (fun k => impl_Interleave.mono _ _ _ _ k) h.1, fun e => ?_⟩
    rcases h.2 with h2 | h2
    · exact absurd (by simp [e]) h2
    · cases v
      · rfl
      · cases h2
theorem spec_inPlace {a : Int} (h : 0 ≤ a ∧ a ≤ 3) : spec_InPlace.f a = some (2 * a) := by
  unfold spec_InPlace.f; rw [spec_l1In_eq, Option.bind_some, if_pos (decide_eq_true h), w64 (by omega) (by omega)]
theorem impl_inPlace {a : Int} (h : 0 ≤ a ∧ a ≤ 3) : impl_InPlace.f a = some (2 * a) := by
  unfold impl_InPlace.f; rw [impl_InRange_eq, Option.bind_some, if_pos (decide_eq_true h), w64 (by omega) (by omega)]
theorem spec_outPlace {a : Int} (h : 0 ≤ a ∧ a ≤ 3) : spec_OutPlace.f a = some (2 * a + 1) := by
  unfold spec_OutPlace.f; rw [spec_l1In_eq, Option.bind_some, if_pos (decide_eq_true h), w64 (n := 2 * a) (by omega) (by omega), w64 (by omega) (by omega)]
theorem impl_outPlace {a : Int} (h : 0 ≤ a ∧ a ≤ 3) : impl_OutPlace.f a = some (2 * a + 1) := by
  unfold impl_OutPlace.f; rw [impl_InRange_eq, Option.bind_some, if_pos (decide_eq_true h), w64 (n := 2 * a) (by omega) (by omega), w64 (by omega) (by omega)]
theorem conf_ex (x y : S58) : ∃ v, Ev (fun k => spec_Conflict.f k x.f0 x.f1 x.f2 x.f3 y.f0 y.f1 y.f2 y.f3) v ∧ Ev (fun k => impl_Conflict.f k x.f0 x.f1 x.f2 x.f3 y.f0 y.f1 y.f2 y.f3) v := by
  have st : Ev (fun k => spec_Conflict.j0 k true x.f0 x.f1 x.f2 x.f3 y.f0 y.f1 y.f2 y.f3) false := Ev.step (fun k => by rw [spec_Conflict.j0]) (ev_t rfl (Ev.now _))
  have it : Ev (fun k => impl_Conflict.j0 k true x.f0 x.f1 x.f2 x.f3 y.f0 y.f1 y.f2 y.f3) false := Ev.step (fun k => by rw [impl_Conflict.j0]) (ev_t rfl (Ev.now _))
  by_cases h1 : isP x = true
  · by_cases h2 : isP y = true
    · obtain ⟨_, _, x2, x3, _⟩ := (isP_iff x).1 h1
      obtain ⟨_, _, y2, y3, _⟩ := (isP_iff y).1 h2
      -- both stand: what the rest comes to
      have rest : ∀ b, (x.f1 = 2 → b = (y.f1 == 2)) → (x.f1 ≠ 2 → b = false) → ∃ v, Ev (fun k => spec_Conflict.j0 k b x.f0 x.f1 x.f2 x.f3 y.f0 y.f1 y.f2 y.f3) v ∧ Ev (fun k => impl_Conflict.j0 k b x.f0 x.f1 x.f2 x.f3 y.f0 y.f1 y.f2 y.f3) v := by
        intro b hb1 hb2
        by_cases hx : x.f1 = 2
        · by_cases hy : y.f1 = 2
          · rw [hb1 hx, beq_iff_eq.2 hy]; exact ⟨false, st, it⟩
          · rw [hb1 hx, beq_eq_false_iff_ne.2 hy]
            by_cases c : y.f2 = x.f2
            · exact ⟨true, Ev.step (fun k => by rw [spec_Conflict.j0]) (ev_f (by decide) (ev_t hx (ev_t c (Ev.now _)))), Ev.step (fun k => by rw [impl_Conflict.j0]) (ev_f (by decide) (ev_t hx (ev_t c (Ev.now _))))⟩
            · exact ⟨_, Ev.step (fun k => by rw [spec_Conflict.j0]) (ev_f (by decide) (ev_t hx (ev_f c (Ev.now _)))), Ev.step (fun k => by rw [impl_Conflict.j0]) (ev_f (by decide) (ev_t hx (ev_f c (Ev.now _))))⟩
        · rw [hb2 hx]
          by_cases hy : y.f1 = 2
          · by_cases c : x.f2 = y.f2
            · exact ⟨true, Ev.step (fun k => by rw [spec_Conflict.j0]) (ev_f (by decide) (ev_f hx (ev_t hy (ev_t c (Ev.now _))))), Ev.step (fun k => by rw [impl_Conflict.j0]) (ev_f (by decide) (ev_f hx (ev_t hy (ev_t c (Ev.now _)))))⟩
            · exact ⟨_, Ev.step (fun k => by rw [spec_Conflict.j0]) (ev_f (by decide) (ev_f hx (ev_t hy (ev_f c (Ev.now _))))), Ev.step (fun k => by rw [impl_Conflict.j0]) (ev_f (by decide) (ev_f hx (ev_t hy (ev_f c (Ev.now _)))))⟩
          · obtain ⟨v, v1, v2, v3⟩ := ilv_ex x2 x3 y2 y3
            have ic : Ev (fun k => (impl_InPlace.f x.f2).bind fun t => ((impl_OutPlace.f x.f3).bind fun t2 => ((impl_InPlace.f y.f2).bind fun t3 => ((impl_OutPlace.f y.f3).bind fun t4 => ((impl_Interleave.f k t t2 t3 t4).bind fun t5 => (some t5)))))) v :=
              ev_call (impl_inPlace x2) (ev_call (impl_outPlace x3) (ev_call (impl_inPlace y2) (ev_call (impl_outPlace y3) (Ev.bind v2 (Ev.now _)))))
            have sc : Ev (fun k => (spec_InPlace.f x.f2).bind fun t => ((spec_OutPlace.f x.f3).bind fun t2 => ((spec_InPlace.f y.f2).bind fun t3 => ((spec_OutPlace.f y.f3).bind fun t4 => ((spec_Interleave.f k t t2 t3 t4).bind fun t5 => (some t5)))))) v :=
              ev_call (spec_inPlace x2) (ev_call (spec_outPlace x3) (ev_call (spec_inPlace y2) (ev_call (spec_outPlace y3) (Ev.bind v1 (Ev.now _)))))
            by_cases c : x.f2 = y.f2
            · rw [v3 c] at ic
              exact ⟨false, Ev.step (fun k => by rw [spec_Conflict.j0]) (ev_f (by decide) (ev_f hx (ev_f hy (ev_t c (Ev.now _))))), Ev.step (fun k => by rw [impl_Conflict.j0]) (ev_f (by decide) (ev_f hx (ev_f hy (ev_t c ic))))⟩
            · by_cases c2 : x.f3 = y.f3
              · exact ⟨true, Ev.step (fun k => by rw [spec_Conflict.j0]) (ev_f (by decide) (ev_f hx (ev_f hy (ev_f c (ev_t c2 (Ev.now _)))))), Ev.step (fun k => by rw [impl_Conflict.j0]) (ev_f (by decide) (ev_f hx (ev_f hy (ev_f c (ev_t c2 (Ev.now _))))))⟩
              · exact ⟨v, Ev.step (fun k => by rw [spec_Conflict.j0]) (ev_f (by decide) (ev_f hx (ev_f hy (ev_f c (ev_f c2 sc))))), Ev.step (fun k => by rw [impl_Conflict.j0]) (ev_f (by decide) (ev_f hx (ev_f hy (ev_f c (ev_f c2 ic)))))⟩
      unfold spec_Conflict.f impl_Conflict.f
      by_cases hx : x.f1 = 2
      · obtain ⟨v, a1, a2⟩ := rest (y.f1 == 2) (fun _ => rfl) (fun h => absurd hx h)
        exact ⟨v, ev_call (spec_isPath x) (ev_t h1 (ev_call (spec_isPath y) (ev_t h2 (ev_t hx a1)))), ev_call (impl_isPath x) (ev_t h1 (ev_call (impl_isPath y) (ev_t h2 (ev_t hx a2))))⟩
      · obtain ⟨v, a1, a2⟩ := rest false (fun h => absurd h hx) (fun _ => rfl)
        exact ⟨v, ev_call (spec_isPath x) (ev_t h1 (ev_call (spec_isPath y) (ev_t h2 (ev_f hx a1)))), ev_call (impl_isPath x) (ev_t h1 (ev_call (impl_isPath y) (ev_t h2 (ev_f hx a2))))⟩
    · unfold spec_Conflict.f impl_Conflict.f
      exact ⟨false, ev_call (spec_isPath x) (ev_t h1 (ev_call (spec_isPath y) (ev_f h2 st))), ev_call (impl_isPath x) (ev_t h1 (ev_call (impl_isPath y) (ev_f h2 it)))⟩
  · unfold spec_Conflict.f impl_Conflict.f
    exact ⟨false, ev_call (spec_isPath x) (ev_f h1 st), ev_call (impl_isPath x) (ev_f h1 it)⟩
noncomputable def conf (x y : S58) : Bool := Classical.choose (conf_ex x y)
theorem spec_conflict (x y : S58) : Ev (fun k => spec_Conflict.f k x.f0 x.f1 x.f2 x.f3 y.f0 y.f1 y.f2 y.f3) (conf x y) := (Classical.choose_spec (conf_ex x y)).1
theorem impl_conflict (x y : S58) : Ev (fun k => impl_Conflict.f k x.f0 x.f1 x.f2 x.f3 y.f0 y.f1 y.f2 y.f3) (conf x y) := (Classical.choose_spec (conf_ex x y)).2
end Go.Proofs.Ytbpnbflfpgakmaa.U
/- May these go together: the program's way and the reference's. -/
set_option linter.unusedVariables false
set_option linter.unusedSimpArgs false
namespace Go.Proofs.Ytbpnbflfpgakmaa.U
open Go.RowKit Go.Proofs.YtbpnbflfpgakmaaW.PrintWords Go.Proofs.YtbpnbflfpgakmaaW.PrintLast Go.Proofs.Ytbpnbflfpgakmaa.P
def pAt (l : List S58) (id : Int) : S58 := rd_T58 l (impl_FindPath.ix id l 0)
def tHead (l : List S58) (s : List Int) (i : Nat) : Prop := 0 ≤ impl_FindPath.ix (rd s (i : Int)) l 0 ∧ (0 < i → rd s ((i : Int) - 1) < rd s (i : Int))
def tFree (l : List S58) (s : List Int) (i j : Nat) : Prop := conf (pAt l (rd s (i : Int))) (pAt l (rd s (j : Int))) = false
def tStep (l : List S58) (s : List Int) (i : Nat) : Prop := tHead l s i ∧ ∀ j, j < i → tFree l s i j
noncomputable def togeth (l : List S58) (s : List Int) : Bool := bo (∀ i, i < s.length → tStep l s i) && areP l
theorem spec_isTogether (l : List S58) (s : List Int) (h : l.length ≤ 9223372036854775807) (hs : s.length ≤ 9223372036854775807) : Ev (fun k => spec_IsTogether.f k l s) (togeth l s) := by
  unfold spec_IsTogether.f togeth
  have hin : ∀ i : Nat, i < s.length → (∀ j, j < i → tStep l s j) → tHead l s i → ∀ r, ((∀ j, j < i → tFree l s i j) → Ev (fun k => spec_IsTogether.l0 k l s ((i + 1 : Nat) : Int)) r) → Ev (fun k => spec_IsTogether.l1 k l s (i : Int) (impl_FindPath.ix (rd s (i : Int)) l 0) 0) (bo (∀ j, j < i → tFree l s i j) && r) := by
    intro i hi hp hh r ih
    have b1 := fp_bound (rd s (i : Int)) l
    have run : ∀ j : Nat, j < i → ∀ r, (tFree l s i j → Ev (fun k => spec_IsTogether.l1 k l s (i : Int) (impl_FindPath.ix (rd s (i : Int)) l 0) ((j + 1 : Nat) : Int)) r) → (¬ tFree l s i j → r = false) → Ev (fun k => spec_IsTogether.l1 k l s (i : Int) (impl_FindPath.ix (rd s (i : Int)) l 0) (j : Int)) r := by
      intro j hj r c1 c2
      have b2 := fp_bound (rd s (j : Int)) l
      refine Ev.step (fun k => by rw [spec_IsTogether.l1]) (ev_t (by omega) (ev_t hh.1 (ev_t b1.2 (ev_t (by omega) (ev_t (by omega) (Ev.bind (spec_findPath l _ h) (ev_t (hp j hj).1.1 (ev_t b2.2 ?_))))))))
      refine Ev.bind (spec_conflict (pAt l (rd s (i : Int))) (pAt l (rd s (j : Int)))) ?_
      rw [w_succ (n := s.length) (by omega) hs]
      by_cases c : tFree l s i j
      · refine ev_f ?_ (c1 c)
        unfold tFree at c
        rw [c]; decide
      · rw [c2 c]
        exact ev_t (by unfold tFree at c; simpa using c) (Ev.now _)
    refine ev_all (F := fun k j => spec_IsTogether.l1 k l s (i : Int) (impl_FindPath.ix (rd s (i : Int)) l 0) (j : Int)) (tFree l s i) i (fun j hj c r ih => run j hj r (fun _ => ih) (fun hn => absurd c hn)) (fun j hj c => run j hj false (fun hc => absurd hc c) (fun _ => rfl)) (fun hall => ?_)
    refine Ev.step (fun k => by rw [spec_IsTogether.l1]) (ev_f (by omega) ?_)
    rw [w_succ hi hs]
    exact ih hall
  have hout : ∀ i : Nat, i < s.length → ∀ r, (tHead l s i → Ev (fun k => spec_IsTogether.l1 k l s (i : Int) (impl_FindPath.ix (rd s (i : Int)) l 0) 0) r) → (¬ tHead l s i → r = false) → Ev (fun k => spec_IsTogether.l0 k l s (i : Int)) r := by
    intro i hi r c1 c2
    have bad : ¬ tHead l s i → Ev (fun k => spec_IsTogether.j1 k l s (i : Int) (impl_FindPath.ix (rd s (i : Int)) l 0) true) r := fun hb => by
      rw [c2 hb]
      exact Ev.step (fun k => by rw [spec_IsTogether.j1]) (ev_t rfl (Ev.now _))
    have good : tHead l s i → Ev (fun k => spec_IsTogether.j1 k l s (i : Int) (impl_FindPath.ix (rd s (i : Int)) l 0) false) r := fun hb =>
      Ev.step (fun k => by rw [spec_IsTogether.j1]) (ev_f (by decide) (c1 hb))
    refine Ev.step (fun k => by rw [spec_IsTogether.l0]) (ev_t (by omega) (ev_t (by omega) (Ev.bind (spec_findPath l _ h) ?_)))
    refine ev_ite (fun d => bad (fun hh => absurd hh.1 (by omega))) (fun d => ev_ite (fun d0 => ?_) (fun d0 => good ⟨by omega, fun hh => absurd hh (by omega)⟩))
    rw [w64 (n := (i : Int) - 1) (by omega) (by omega)]
    refine ev_t (by omega) (ev_t (by omega) ?_)
    by_cases d1 : rd s ((i : Int) - 1) ≥ rd s (i : Int)
    · rw [decide_eq_true d1]
      exact bad (fun hh => absurd (hh.2 (by omega)) (by omega))
    · rw [decide_eq_false d1]
      exact good ⟨by omega, fun _ => by omega⟩
  refine ev_all2 (F := fun k i => spec_IsTogether.l0 k l s (i : Int)) (tStep l s) s.length (fun i hi hp hc r ih => ?_) (fun i hi hp hc => ?_) (fun _ => ?_)
  · refine hout i hi r (fun hh => ?_) (fun hn => absurd hc.1 hn)
    have := hin i hi hp hh r (fun _ => ih)
    rw [bo_t hc.2, Bool.true_and] at this
    exact this
  · by_cases hh : tHead l s i
    · refine hout i hi false (fun _ => ?_) (fun _ => rfl)
      have hn : ¬ ∀ j, j < i → tFree l s i j := fun hf => hc ⟨hh, hf⟩
      have := hin i hi hp hh false (fun hf => absurd hf hn)
      rw [Bool.and_false] at this
      exact this
    · exact hout i hi false (fun h => absurd h hh) (fun _ => rfl)
  · refine Ev.step (fun k => by rw [spec_IsTogether.l0]) (ev_f (by omega) ?_)
    exact Ev.bind (spec_arePaths l h) (Ev.now _)
theorem rd_takeI (d : List Int) (i j : Nat) (h : j < i) (hi : i ≤ d.length) : rd (d.take i) (j : Int) = rd d (j : Int) := by
  rw [rd_at _ j (by rw [List.length_take]; omega), rd_at _ j (by omega), List.getElem_take]
theorem impl_isTogether (l : List S58) (s : List Int) (h : l.length ≤ 9223372036854775807) (hs : s.length ≤ 9223372036854775807) : Ev (fun k => impl_IsTogether.f k l s) (togeth l s) := by
  unfold impl_IsTogether.f
  refine Ev.bind (impl_arePaths l h) ?_
  cases hpp : areP l with
  | false => exact ev_f (by decide) (ev_now (by unfold togeth; rw [hpp, Bool.and_false]))
  | true =>
  refine ev_t rfl ?_
  unfold togeth
  rw [hpp]
  have run : ∀ (i j : Nat), i < s.length → j < i → (∀ j, j < i → tStep l s j) → tHead l s i → ∀ r, (tFree l s i j → Ev (fun k => impl_IsTogether.l1 k l s (impl_FindPath.ix (rd s (i : Int)) l 0) s (s.length : Int) (i : Int) (s.take i) (i : Int) ((j + 1 : Nat) : Int)) r) → (¬ tFree l s i j → r = false) → Ev (fun k => impl_IsTogether.l1 k l s (impl_FindPath.ix (rd s (i : Int)) l 0) s (s.length : Int) (i : Int) (s.take i) (i : Int) (j : Int)) r := by
    intro i j hi hj hp hh r c1 c2
    have hlen : (s.take i).length = i := by rw [List.length_take]; omega
    have b1 := fp_bound (rd s (i : Int)) l
    have b2 := fp_bound (rd s (j : Int)) l
    have hr := rd_takeI s i j hj (by omega)
    refine Ev.step (fun k => by rw [impl_IsTogether.l1]) (ev_t (by omega) (ev_t (by omega) (ev_t (by rw [hlen]; omega) (ev_t hh.1 (ev_t b1.2 (ev_call (impl_findPath l _) ?_))))))
    rw [hr]
    refine ev_t (hp j hj).1.1 (ev_t b2.2 ?_)
    refine Ev.bind (impl_conflict (pAt l (rd s (i : Int))) (pAt l (rd s (j : Int)))) ?_
    rw [w_succ (n := s.length) (by omega) hs]
    by_cases c : tFree l s i j
    · refine ev_f ?_ (c1 c)
      unfold tFree at c
      rw [c]; decide
    · rw [c2 c]
      exact ev_t (by unfold tFree at c; simpa using c) (Ev.now _)
  have hin : ∀ i : Nat, i < s.length → (∀ j, j < i → tStep l s j) → tHead l s i → ∀ r, ((∀ j, j < i → tFree l s i j) → Ev (fun k => impl_IsTogether.l0 k l s s (s.length : Int) ((i + 1 : Nat) : Int)) r) → Ev (fun k => impl_IsTogether.l1 k l s (impl_FindPath.ix (rd s (i : Int)) l 0) s (s.length : Int) (i : Int) (s.take i) (i : Int) 0) (bo (∀ j, j < i → tFree l s i j) && r) := by
    intro i hi hp hh r ih
    refine ev_all (F := fun k j => impl_IsTogether.l1 k l s (impl_FindPath.ix (rd s (i : Int)) l 0) s (s.length : Int) (i : Int) (s.take i) (i : Int) (j : Int)) (tFree l s i) i (fun j hj c r ih => run i j hi hj hp hh r (fun _ => ih) (fun hn => absurd c hn)) (fun j hj c => run i j hi hj hp hh false (fun hc => absurd hc c) (fun _ => rfl)) (fun hall => ?_)
    refine Ev.step (fun k => by rw [impl_IsTogether.l1]) (ev_f (by omega) ?_)
    rw [w_succ hi hs]
    exact ih hall
  have hout : ∀ i : Nat, i < s.length → ∀ r, (tHead l s i → Ev (fun k => impl_IsTogether.l1 k l s (impl_FindPath.ix (rd s (i : Int)) l 0) s (s.length : Int) (i : Int) (s.take i) (i : Int) 0) r) → (¬ tHead l s i → r = false) → Ev (fun k => impl_IsTogether.l0 k l s s (s.length : Int) (i : Int)) r := by
    intro i hi r c1 c2
    have hlen : (s.take i).length = i := by rw [List.length_take]; omega
    have bad : ¬ tHead l s i → Ev (fun k => impl_IsTogether.j1 k l s (i : Int) (impl_FindPath.ix (rd s (i : Int)) l 0) s (s.length : Int) (i : Int) true) r := fun hb => by
      rw [c2 hb]
      exact Ev.step (fun k => by rw [impl_IsTogether.j1]) (ev_t rfl (Ev.now _))
    have good : tHead l s i → Ev (fun k => impl_IsTogether.j1 k l s (i : Int) (impl_FindPath.ix (rd s (i : Int)) l 0) s (s.length : Int) (i : Int) false) r := fun hb => by
      have c3 := c1 hb
      refine Ev.step (fun k => by rw [impl_IsTogether.j1]) (ev_f (by decide) (ev_t (by omega) (ev_t (by omega) ?_)))
      rw [Int.toNat_natCast, hlen]
      exact c3
    refine Ev.step (fun k => by rw [impl_IsTogether.l0]) (ev_t (by omega) (ev_t (by omega) (ev_t (by omega) (ev_call (impl_findPath l _) ?_))))
    refine ev_ite (fun d => bad (fun hh => absurd hh.1 (by omega))) (fun d => ev_ite (fun d0 => ?_) (fun d0 => good ⟨by omega, fun hh => absurd hh (by omega)⟩))
    rw [w64 (n := (i : Int) - 1) (by omega) (by omega)]
    refine ev_t (by omega) (ev_t (by omega) ?_)
    by_cases d1 : rd s (i : Int) ≤ rd s ((i : Int) - 1)
    · rw [decide_eq_true d1]
      exact bad (fun hh => absurd (hh.2 (by omega)) (by omega))
    · rw [decide_eq_false d1]
      exact good ⟨by omega, fun _ => by omega⟩
  refine ev_all2 (F := fun k i => impl_IsTogether.l0 k l s s (s.length : Int) (i : Int)) (tStep l s) s.length (fun i hi hp hc r ih => ?_) (fun i hi hp hc => ?_) (fun _ => ?_)
  · refine hout i hi r (fun hh => ?_) (fun hn => absurd hc.1 hn)
    have := hin i hi hp hh r (fun _ => ih)
    rw [bo_t hc.2, Bool.true_and] at this
    exact this
  · by_cases hh : tHead l s i
    · refine hout i hi false (fun _ => ?_) (fun _ => rfl)
      have hn : ¬ ∀ j, j < i → tFree l s i j := fun hf => hc ⟨hh, hf⟩
      have := hin i hi hp hh false (fun hf => absurd hf hn)
      rw [Bool.and_false] at this
      exact this
    · exact hout i hi false (fun h => absurd h hh) (fun _ => rfl)
  · refine Ev.step (fun k => by rw [impl_IsTogether.l0]) ?_
    exact ev_f (by omega) (Ev.now _)
end Go.Proofs.Ytbpnbflfpgakmaa.U
