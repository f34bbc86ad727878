/- Marks in a row of parts: that they end, and where the count stands then. -/
import Derived.Test.YtdkmmefmhfbgkaaFX00
import Derived.Test.YtdkmmefmhfbgkaaUMInt
import Derived.Test.YtdkmmefmhfbgkaaURd
set_option linter.unusedVariables false
set_option linter.unusedSimpArgs false
namespace Go.Proofs.Ytdkmmefmhfbgkaa.U
open Go.RowKit Go.Proofs.YtdkmmefmhfbgkaaW.PrintWords Go.Proofs.YtdkmmefmhfbgkaaW.PrintLast Go.Proofs.Ytdkmmefmhfbgkaa.P
theorem markPartS_run (n : Nat) (hn : n ≤ 1048576) : ∀ (d i : Nat) (a : Int) (x : List S92), i + d = n → x.length = n → (∀ j : Nat, i ≤ j → j < n → (rd_T92 x (j : Int)).f0.length ≤ 1048576) → 0 ≤ a → a + 1048577 * d ≤ 1152921504606846976 →
    ∃ v y, Ev (fun k => laws_markPartS.l0 k x a (i : Int)) (v, y) ∧ a ≤ v ∧ v ≤ a + 1048577 * d
  | 0, i, a, x, hi, hx, hl, h0, h1 => by
    refine ⟨a, x, ?_, by omega, by omega⟩
    refine Ev.step (fun k => by rw [laws_markPartS.l0]) ?_
    exact ev_f (by omega) (Ev.now _)
  | d + 1, i, a, x, hi, hx, hl, h0, h1 => by
    have hli := hl i (Nat.le_refl _) (by omega)
    have em := markIntS (rd_T92 x (i : Int)).f0 a h0 (by omega) (by omega)
    obtain ⟨v, y, e, b1, b2⟩ := markPartS_run n hn d (i + 1) (a + (rd_T92 x (i : Int)).f0.length + 1) (x.set i ⟨marks (rd_T92 x (i : Int)).f0 a (rd_T92 x (i : Int)).f0.length, a + (rd_T92 x (i : Int)).f0.length⟩) (by omega) (by rw [List.length_set]; exact hx) (fun j hj hjn => by
      have := hl j (by omega) hjn
      rw [rd92 _ j (by omega)] at this
      rw [rd92 _ j (by rw [List.length_set]; omega), List.getElem_set_ne (by omega)]
      exact this) (by omega) (by omega)
    refine ⟨v, y, ?_, by omega, by omega⟩
    refine Ev.step (fun k => by rw [laws_markPartS.l0]) ?_
    refine ev_t (by omega) (ev_t (by omega) (Ev.bind em ?_))
    rw [Int.toNat_natCast, w_succ (n := n) (by omega) (by omega), w64 (n := a + ((rd_T92 x (i : Int)).f0.length : Int) + 1) (by omega) (by omega)]
    exact e
theorem markPartS (x : List S92) (a : Int) (hn : x.length ≤ 1048576) (hl : ∀ j : Nat, j < x.length → (rd_T92 x (j : Int)).f0.length ≤ 1048576) (h0 : 0 ≤ a) (h1 : a ≤ 576460752303423488) : ∃ v y, Ev (fun k => laws_markPartS.f k x a) (v, y) ∧ 0 ≤ v ∧ v ≤ a + 1048577 * 1048576 := by
  obtain ⟨v, y, e, b1, b2⟩ := markPartS_run x.length hn x.length 0 a x (by omega) rfl (fun j _ hj => hl j hj) h0 (by omega)
  exact ⟨v, y, e, by omega, by omega⟩
end Go.Proofs.Ytdkmmefmhfbgkaa.U
