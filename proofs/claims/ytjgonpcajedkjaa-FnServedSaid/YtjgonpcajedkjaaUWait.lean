/- Who is waiting: the program's way (sorted, each once) and the reference's (put in order, one after the other). -/
import Derived.Test.YtjgonpcajedkjaaFX00d
import Derived.Test.YtjgonpcajedkjaaUServed
import Derived.Test.YtjgonpcajedkjaaUPlanFor
import Derived.Test.YtjgonpcajedkjaaUStage
set_option linter.unusedVariables false
set_option linter.unusedSimpArgs false
namespace Go.Proofs.Ytjgonpcajedkjaa.U
open Go.RowKit Go.Proofs.YtjgonpcajedkjaaW.PrintWords Go.Proofs.YtjgonpcajedkjaaW.PrintLast Go.Proofs.Ytjgonpcajedkjaa.P
theorem asc_ext : ∀ a b : List Int, a.Pairwise (· < ·) → b.Pairwise (· < ·) → (∀ z, z ∈ a ↔ z ∈ b) → a = b
  | [], [], _, _, _ => rfl
  | [], y :: b, _, _, h => absurd ((h y).2 List.mem_cons_self) (by simp)
  | x :: a, [], _, _, h => absurd ((h x).1 List.mem_cons_self) (by simp)
  | x :: a, y :: b, ha, hb, h => by
    rw [List.pairwise_cons] at ha hb
    have e : x = y := by
      rcases List.mem_cons.1 ((h x).1 List.mem_cons_self) with e | m1
      · exact e
      · rcases List.mem_cons.1 ((h y).2 List.mem_cons_self) with e | m2
        · exact e.symm
        · have := hb.1 x m1; have := ha.1 y m2; omega
    subst e
    congr 1
    refine asc_ext a b ha.2 hb.2 (fun z => ⟨fun hz => ?_, fun hz => ?_⟩)
    · rcases List.mem_cons.1 ((h z).1 (List.mem_cons_of_mem _ hz)) with e | m
      · have := ha.1 z hz; omega
      · exact m
    · rcases List.mem_cons.1 ((h z).2 (List.mem_cons_of_mem _ hz)) with e | m
      · have := hb.1 z hz; omega
      · exact m
theorem arr_at (zs : List Int) (j : Nat) (h : j < zs.length) : zs.toArray[j]! = zs[j] := by simp [getElem!_pos, h]
theorem compact_mem (zs : List Int) (z : Int) : z ∈ Go.Lib.compact zs ↔ z ∈ zs := by
  unfold Go.Lib.compact Go.Lib.compactUpTo
  rw [List.mem_map]
  constructor
  · rintro ⟨j, hj, rfl⟩
    have hj' := List.mem_range.1 (List.mem_filter.1 hj).1
    rw [arr_at zs j hj']
    exact List.getElem_mem hj'
  · intro hz
    obtain ⟨i, hi, e⟩ := List.mem_iff_getElem.1 hz
    have key : ∀ n i, i ≤ n → (hi : i < zs.length) → zs[i] = z → ∃ j, j ∈ (List.range zs.length).filter (Go.Lib.keeps zs.toArray) ∧ zs.toArray[j]! = z := by
      intro n
      induction n with
      | zero =>
        intro i hn hi e
        obtain rfl : i = 0 := by omega
        exact ⟨0, List.mem_filter.2 ⟨List.mem_range.2 hi, by simp [Go.Lib.keeps]⟩, by rw [arr_at zs 0 hi, e]⟩
      | succ n ih =>
        intro i hn hi e
        by_cases k : Go.Lib.keeps zs.toArray i = true
        · exact ⟨i, List.mem_filter.2 ⟨List.mem_range.2 hi, k⟩, by rw [arr_at zs i hi, e]⟩
        · unfold Go.Lib.keeps at k
          rw [decide_eq_true_eq] at k
          have h0 : i ≠ 0 := fun h => k (.inl h)
          have h1 : zs.toArray[i]! = zs.toArray[i - 1]! := Classical.byContradiction fun h => k (.inr h)
          rw [arr_at zs i hi, arr_at zs (i - 1) (by omega)] at h1
          exact ih (i - 1) (by omega) (by omega) (by rw [← h1, e])
    exact key i i (Nat.le_refl _) hi e
theorem compact_asc (zs : List Int) (h : zs.Pairwise (· ≤ ·)) : (Go.Lib.compact zs).Pairwise (· < ·) := by
  unfold Go.Lib.compact Go.Lib.compactUpTo
  rw [List.pairwise_map]
  refine List.Pairwise.imp_of_mem ?_ (List.Pairwise.filter (Go.Lib.keeps zs.toArray) List.pairwise_lt_range)
  intro a b ha hb hab
  rw [List.mem_filter, List.mem_range] at ha hb
  have hk := hb.2
  unfold Go.Lib.keeps at hk
  rw [decide_eq_true_eq] at hk
  have h1 : zs.toArray[b]! ≠ zs.toArray[b - 1]! := by
    rcases hk with h0 | h0
    · omega
    · exact h0
  rw [arr_at zs b hb.1, arr_at zs (b - 1) (by omega)] at h1
  rw [arr_at zs a ha.1, arr_at zs b hb.1]
  have hp := List.pairwise_iff_getElem.1 h
  have h2 := hp (b - 1) b (by omega) hb.1 (by omega)
  rcases Nat.lt_or_ge a (b - 1) with c | c
  · have h3 := hp a (b - 1) ha.1 (by omega) c
    omega
  · have e : a = b - 1 := by omega
    subst e
    omega
theorem sorted_le (l : List Int) : (l.mergeSort fun x y => decide (x ≤ y)).Pairwise (· ≤ ·) := by
  have := List.pairwise_mergeSort (le := fun x y : Int => decide (x ≤ y)) (fun a b c => by simp; omega) (fun a b => by simp; omega) l
  simpa using this
theorem asc_pw {s : List Int} : Asc s ↔ s.Pairwise (· < ·) := by
  rw [List.pairwise_iff_getElem]
  constructor
  · intro h i j hi hj hij
    have := h i j hij hj
    rwa [rd_at s i hi, rd_at s j hj] at this
  · intro h i j hij hj
    rw [rd_at s i (by omega), rd_at s j hj]
    exact h i j (by omega) hj hij
theorem asc_iput {a : Int} {s : List Int} (h : Asc s) : Asc (iput a s) := by
  unfold iput
  by_cases c : a ∈ s
  · rw [if_pos c]; exact h
  · rw [if_neg c]
    have pw := asc_pw.1 h
    have lo : ∀ x, x ∈ s.take (ipos a s) → x < a := fun x hx => by
      obtain ⟨i, hi, e⟩ := List.mem_iff_getElem.1 hx
      rw [List.length_take] at hi
      rw [List.getElem_take] at e
      rw [← e]
      exact ipos_lt a s i (by omega)
    have hi : ∀ y, y ∈ s.drop (ipos a s) → a < y := fun y hy => by
      obtain ⟨i, hi, e⟩ := List.mem_iff_getElem.1 hy
      rw [List.length_drop] at hi
      rw [List.getElem_drop] at e
      have g := asc_ge h a (ipos a s + i) (by omega) (by omega)
      rw [rd_at s _ (by omega), e] at g
      have n : y ≠ a := fun e2 => c (by rw [← e2]; exact List.mem_of_mem_drop hy)
      omega
    rw [asc_pw]
    unfold iins
    rw [List.pairwise_append, List.pairwise_append]
    refine ⟨⟨pw.sublist (List.take_sublist _ _), List.pairwise_singleton _ _, fun x hx y hy => ?_⟩, pw.sublist (List.drop_sublist _ _), fun x hx y hy => ?_⟩
    · rw [List.mem_singleton] at hy
      rw [hy]; exact lo x hx
    · rw [List.mem_append, List.mem_singleton] at hx
      have := hi y hy
      rcases hx with hx | hx
      · have := lo x hx; omega
      · omega
theorem mem_iput (a : Int) (s : List Int) (z : Int) : z ∈ iput a s ↔ z = a ∨ z ∈ s := by
  unfold iput
  by_cases c : a ∈ s
  · rw [if_pos c]
    exact ⟨fun h => .inr h, fun h => h.elim (fun e => e ▸ c) id⟩
  · rw [if_neg c]
    exact ipos_drop a s z
/-- Call i waits at that second. -/
def wcon (l : List S50) (p : List S85) (c : List S114) (s : Int) (i : Nat) : Prop := (rd_T114 c (i : Int)).f1 ≤ s ∧ sv l p c i > s
noncomputable def wRow (l : List S50) (p : List S85) (c : List S114) (s : Int) : Nat → List Int
  | 0 => []
  | i + 1 => if bo (wcon l p c s i) = true then wRow l p c s i ++ [(rd_T114 c (i : Int)).f0] else wRow l p c s i
noncomputable def wSet (l : List S50) (p : List S85) (c : List S114) (s : Int) : Nat → List Int
  | 0 => []
  | i + 1 => if bo (wcon l p c s i) = true then iput (rd_T114 c (i : Int)).f0 (wSet l p c s i) else wSet l p c s i
section
variable {l : List S50} {p : List S85} {c : List S114} {s : Int} {i : Nat}
theorem wRow_t (h : wcon l p c s i) : wRow l p c s (i + 1) = wRow l p c s i ++ [(rd_T114 c (i : Int)).f0] := by rw [wRow, if_pos (bo_t h)]
theorem wRow_f (h : ¬ wcon l p c s i) : wRow l p c s (i + 1) = wRow l p c s i := by rw [wRow, if_neg (by rw [bo_f h]; decide)]
theorem wSet_t (h : wcon l p c s i) : wSet l p c s (i + 1) = iput (rd_T114 c (i : Int)).f0 (wSet l p c s i) := by rw [wSet, if_pos (bo_t h)]
theorem wSet_f (h : ¬ wcon l p c s i) : wSet l p c s (i + 1) = wSet l p c s i := by rw [wSet, if_neg (by rw [bo_f h]; decide)]
end
theorem wRow_len (l : List S50) (p : List S85) (c : List S114) (s : Int) : ∀ i, (wRow l p c s i).length ≤ i
  | 0 => by simp [wRow]
  | i + 1 => by
    have := wRow_len l p c s i
    by_cases h : wcon l p c s i
    · rw [wRow_t h, List.length_append]; simp; omega
    · rw [wRow_f h]; omega
theorem wSet_len (l : List S50) (p : List S85) (c : List S114) (s : Int) : ∀ i, (wSet l p c s i).length ≤ i
  | 0 => by simp [wSet]
  | i + 1 => by
    have := wSet_len l p c s i
    by_cases h : wcon l p c s i
    · rw [wSet_t h]; have := iput_len (rd_T114 c (i : Int)).f0 (wSet l p c s i); omega
    · rw [wSet_f h]; omega
theorem wSet_asc (l : List S50) (p : List S85) (c : List S114) (s : Int) : ∀ i, Asc (wSet l p c s i)
  | 0 => fun i j _ hj => by simp [wSet] at hj
  | i + 1 => by
    by_cases h : wcon l p c s i
    · rw [wSet_t h]; exact asc_iput (wSet_asc l p c s i)
    · rw [wSet_f h]; exact wSet_asc l p c s i
theorem w_mem (l : List S50) (p : List S85) (c : List S114) (s : Int) (z : Int) : ∀ i, z ∈ wRow l p c s i ↔ z ∈ wSet l p c s i
  | 0 => by simp [wRow, wSet]
  | i + 1 => by
    have ih := w_mem l p c s z i
    by_cases h : wcon l p c s i
    · rw [wRow_t h, wSet_t h, mem_iput, List.mem_append, List.mem_singleton, ih]
      exact ⟨fun hh => hh.elim .inr .inl, fun hh => hh.elim .inr .inl⟩
    · rw [wRow_f h, wSet_f h]; exact ih
theorem wait_eq (l : List S50) (p : List S85) (c : List S114) (s : Int) (n : Nat) : Go.Lib.compact ((wRow l p c s n).mergeSort fun x y => decide (x ≤ y)) = wSet l p c s n := by
  refine asc_ext _ _ (compact_asc _ (sorted_le _)) (asc_pw.1 (wSet_asc l p c s n)) (fun z => ?_)
  rw [compact_mem, List.mem_mergeSort]
  exact w_mem l p c s z n
theorem impl_waitingAt {l : List S50} {p : List S85} (w : PW l p) (c : List S114) (hc : c.length ≤ 1048576) (s : Int) : Ev (fun k => impl_WaitingAt.f k l p c s) (wSet l p c s c.length) := by
  unfold impl_WaitingAt.f
  refine Ev.bind (impl_servedAt w c hc) ?_
  have hv := svN_len l p c c.length
  have hr := wRow_len l p c s c.length
  have fin : ((slices_Sort_int_int.f (wRow l p c s c.length)).bind fun t => (slices_Compact_int_int.f t).bind fun u => some u) = some (wSet l p c s c.length) := by
    unfold slices_Sort_int_int.f
    rw [if_pos (by omega), Option.bind_some]
    unfold slices_Compact_int_int.f
    rw [Option.bind_some, wait_eq]
  refine ev_for0 (F := fun k i => impl_WaitingAt.l0 k c s (wRow l p c s i) (svN l p c c.length) ((svN l p c c.length).length : Int) (i : Int)) c.length (fun i hi ih => ?_) ?_
  · have hs := wRow_len l p c s i
    refine Ev.step (fun k => by rw [impl_WaitingAt.l0]) (ev_t (by omega) (ev_t (by omega) (ev_t (by omega) (ev_t (by omega) ?_))))
    rw [w_succ hi (by omega), svN_rd l p c c.length i hi]
    by_cases c1 : (rd_T114 c (i : Int)).f1 ≤ s
    · refine ev_t c1 ?_
      by_cases c2 : sv l p c i > s
      · rw [wRow_t ⟨c1, c2⟩] at ih
        exact ev_t c2 (ev_t (by omega) ih)
      · rw [wRow_f (fun h => c2 h.2)] at ih
        exact ev_f c2 ih
    · rw [wRow_f (fun h => c1 h.1)] at ih
      exact ev_f c1 ih
  · refine Ev.step (fun k => by rw [impl_WaitingAt.l0]) (ev_f (by omega) ?_)
    rw [fin]
    exact Ev.now _
end Go.Proofs.Ytjgonpcajedkjaa.U
