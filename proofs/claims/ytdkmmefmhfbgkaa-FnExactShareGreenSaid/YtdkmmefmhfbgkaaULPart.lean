/- Lemmas on the laws' own helpers: copies, comparisons, sizes. Written by genul.py. -/
import Derived.Test.YtdkmmefmhfbgkaaFX00
import Derived.Test.YtdkmmefmhfbgkaaURd
import Derived.Test.YtdkmmefmhfbgkaaULInt
set_option linter.unusedVariables false
set_option linter.unusedSimpArgs false
namespace Go.Proofs.Ytdkmmefmhfbgkaa.U
open Go.RowKit Go.Proofs.YtdkmmefmhfbgkaaW.PrintWords Go.Proofs.YtdkmmefmhfbgkaaW.PrintLast Go.Proofs.YtdkmmefmhfbgkaaW.PrintMore Go.Proofs.Ytdkmmefmhfbgkaa.P Go.Proofs.Ytdkmmefmhfbgkaa.Open
def cPart (x : S85) : S92 := ⟨x.f0, x.f1⟩
theorem toPart (x : S85) (h0 : x.f0.length ≤ 1048576) : Ev (fun k => laws_toPart.f k x.f0 x.f1) (x.f0, x.f1) := by
  unfold laws_toPart.f
  refine Ev.bind (toIntS _ h0) ?_
  exact Ev.now _
theorem toPartS (l : List S85) (h : l.length ≤ 1048576) (hs : ∀ x ∈ l, x.f0.length ≤ 1048576) : Ev (fun k => laws_toPartS.f k l) (l.map cPart) := by
  unfold laws_toPartS.f
  refine ev_t (by omega) (ev_t (by omega) ?_)
  have hm : (l.map cPart).length = l.length := List.length_map ..
  rw [Int.toNat_natCast, ← hm]
  refine ev_for0 (F := fun k i => laws_toPartS.l0 k l ((l.map cPart).take i ++ List.replicate ((l.map cPart).length - i) z92) (i : Int)) (r := l.map cPart) l.length ?_ ?_
  · intro i hi ih
    refine Ev.step (fun k => by rw [laws_toPartS.l0]) ?_
    refine ev_t (by omega) (ev_t (by omega) (Ev.bind (toPart _ (by rw [rd85 l i hi]; exact hs _ (List.getElem_mem hi))) (ev_t (by rw [fill_len _ _ _ (by omega)]; omega) ?_)))
    have e : List.set ((l.map cPart).take i ++ List.replicate ((l.map cPart).length - i) z92) ((i : Int)).toNat (cPart (rd_T85 l (i : Int))) = (l.map cPart).take (i + 1) ++ List.replicate ((l.map cPart).length - (i + 1)) z92 := by
      rw [Int.toNat_natCast, rd85 l i hi]
      have e := fill_set (l.map cPart) z92 i (by omega)
      rw [List.getElem_map] at e
      exact e
    refine Ev.congr (fun k => ?_) ih
    show laws_toPartS.l0 k l (List.set _ _ (cPart (rd_T85 l (i : Int)))) (wrap64 ((i : Int) + 1)) = _
    rw [e, w_succ hi (by omega)]
  · refine Ev.step (fun k => by rw [laws_toPartS.l0]) (ev_f (by omega) (ev_now ?_))
    rw [← hm, List.take_length]; simp
theorem eqPart (x : S92) (h0 : x.f0.length ≤ 9223372036854775807) : Ev (fun k => laws_eqPart.f k x.f0 x.f1 x.f0 x.f1) true := by
  unfold laws_eqPart.f
  refine Ev.bind (eqIntS _ h0) (ev_t rfl ?_)
  refine ev_t rfl ?_
  exact Ev.now _
theorem eqPartS (l : List S92) (h : l.length ≤ 9223372036854775807) (hs : ∀ x ∈ l, x.f0.length ≤ 9223372036854775807) : Ev (fun k => laws_eqPartS.f k l l) true := by
  unfold laws_eqPartS.f
  refine ev_t rfl ?_
  refine ev_for0 (F := fun k i => laws_eqPartS.l0 k l l (i : Int)) l.length ?_ ?_
  · intro i hi ih
    refine Ev.step (fun k => by rw [laws_eqPartS.l0]) ?_
    refine ev_t (by omega) (ev_t (by omega) (ev_t (by omega) ?_))
    refine Ev.bind (eqPart _ (by rw [rd92 l i hi]; exact hs _ (List.getElem_mem hi))) (ev_t rfl ?_)
    rw [w_succ hi h]
    exact ih
  · exact Ev.step (fun k => by rw [laws_eqPartS.l0]) (ev_f (by omega) (Ev.now _))
theorem single_le_sum_nat {n : Nat} : ∀ {l : List Nat}, n ∈ l → n ≤ l.sum
  | [], h => by simp at h
  | a :: l, h => by
    rw [List.sum_cons]
    rcases List.mem_cons.1 h with rfl | h
    · omega
    · have := single_le_sum_nat h
      omega
def szQ (l : List S85) : Nat := (l.map fun x => x.f0.length).sum
def szP (l : List S85) : Nat := l.length + szQ l
theorem szP_le {l : List S85} {n : Nat} (h : szP l ≤ n) : l.length ≤ n ∧ ∀ x ∈ l, x.f0.length ≤ n := by
  unfold szP szQ at h
  refine ⟨by omega, fun x hx => ?_⟩
  have : x.f0.length ≤ (l.map fun x => x.f0.length).sum := single_le_sum_nat (List.mem_map.2 ⟨x, hx, rfl⟩)
  omega
theorem cPart_len {l : List S85} (h : ∀ x ∈ l, x.f0.length ≤ 1048576) : ∀ x ∈ l.map cPart, x.f0.length ≤ 9223372036854775807 := by
  intro x hx
  obtain ⟨y, hy, rfl⟩ := List.mem_map.1 hx
  have := h y hy
  show y.f0.length ≤ _
  omega
theorem szPart (x : S85) (a : Int) (h0 : 0 ≤ a) (h1 : a ≤ 1048576) (hl : x.f0.length ≤ 9223372036854775807) : laws_szPart.f x.f0 x.f1 a = some (if (x.f0.length : Int) ≤ a then a - x.f0.length else -1) := by
  unfold laws_szPart.f
  rw [szIntS _ _ h0 h1 hl, Option.bind_some]
  by_cases h : (x.f0.length : Int) ≤ a
  · rw [if_pos h, if_neg (by omega)]
  · rw [if_neg h, if_pos (by omega)]
theorem szPartS_loop (l : List S85) (hs : ∀ x ∈ l, x.f0.length ≤ 9223372036854775807) (hn : l.length ≤ 1048576) : ∀ d i, i + d = l.length → ∀ a : Int, 0 ≤ a → a ≤ 1048576 →
    Ev (fun k => laws_szPartS.l0 k l a (i : Int)) (if ((szQ (l.drop i) : Nat) : Int) ≤ a then a - (szQ (l.drop i) : Nat) else -1)
  | 0, i, hi, a, h0, h1 => by
    refine Ev.step (fun k => by rw [laws_szPartS.l0]) (ev_f (by omega) (ev_now ?_))
    rw [List.drop_of_length_le (by omega)]
    simp [h0, szQ]
  | d + 1, i, hi, a, h0, h1 => by
    have hlt : i < l.length := by omega
    have hx := hs _ (List.getElem_mem hlt)
    have e : szQ (l.drop i) = (l[i]).f0.length + szQ (l.drop (i + 1)) := by
      unfold szQ
      rw [List.drop_eq_getElem_cons hlt, List.map_cons, List.sum_cons]
    refine Ev.step (fun k => by rw [laws_szPartS.l0]) (ev_t (by omega) (ev_t (by omega) ?_))
    rw [rd85 l i hlt]
    refine ev_call (szPart _ _ h0 h1 hx) ?_
    by_cases h : ((l[i]).f0.length : Int) ≤ a
    · rw [if_pos h]
      refine ev_f (by omega) ?_
      rw [w_succ hlt (by omega)]
      have ih := szPartS_loop l hs hn d (i + 1) (by omega) (a - (l[i]).f0.length) (by omega) (by omega)
      rw [e]
      by_cases h2 : ((szQ (l.drop (i + 1)) : Nat) : Int) ≤ a - (l[i]).f0.length
      · rw [if_pos h2] at ih
        rw [if_pos (by omega)]
        have e3 : a - (l[i]).f0.length - (szQ (l.drop (i + 1)) : Nat) = a - (((l[i]).f0.length + szQ (l.drop (i + 1)) : Nat) : Int) := by omega
        rw [← e3]; exact ih
      · rw [if_neg h2] at ih
        rw [if_neg (by omega)]
        exact ih
    · rw [if_neg h]
      rw [if_neg (by rw [e]; omega)]
      exact ev_t (by omega) (Ev.now _)
theorem szPartS (l : List S85) (a : Int) (h0 : 0 ≤ a) (h1 : a ≤ 1048576) (hl : l.length ≤ 9223372036854775807) (hs : ∀ x ∈ l, x.f0.length ≤ 9223372036854775807) : Ev (fun k => laws_szPartS.f k l a) (if (szP l : Int) ≤ a then a - szP l else -1) := by
  unfold laws_szPartS.f szP
  rw [w64 (by omega) (by omega)]
  by_cases h : (l.length : Int) ≤ a
  · refine ev_f (by omega) ?_
    have h2 := szPartS_loop l hs (by omega) l.length 0 (by omega) (a - l.length) (by omega) (by omega)
    rw [List.drop_zero] at h2
    by_cases h3 : ((szQ l : Nat) : Int) ≤ a - l.length
    · rw [if_pos h3] at h2
      rw [if_pos (by omega)]
      have e3 : a - (l.length : Int) - (szQ l : Nat) = a - ((l.length + szQ l : Nat) : Int) := by omega
      rw [← e3]; exact h2
    · rw [if_neg h3] at h2
      rw [if_neg (by omega)]
      exact h2
  · refine ev_t (by omega) ?_
    rw [if_neg (by omega)]
    exact Ev.now _
end Go.Proofs.Ytdkmmefmhfbgkaa.U
