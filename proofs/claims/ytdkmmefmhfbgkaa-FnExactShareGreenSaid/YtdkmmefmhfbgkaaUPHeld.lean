/- Parts marked and held again, of any size that fits. -/
import Derived.Test.YtdkmmefmhfbgkaaFX00
import Derived.Test.YtdkmmefmhfbgkaaUHInt
import Derived.Test.YtdkmmefmhfbgkaaUMInt
import Derived.Test.YtdkmmefmhfbgkaaUHInt
set_option linter.unusedVariables false
set_option linter.unusedSimpArgs false
namespace Go.Proofs.Ytdkmmefmhfbgkaa.U
open Go.RowKit Go.Proofs.YtdkmmefmhfbgkaaW.PrintWords Go.Proofs.YtdkmmefmhfbgkaaW.PrintLast Go.Proofs.Ytdkmmefmhfbgkaa.P
/-- The parts as they stand behind the marks, and where the count stands then. -/
def pmk : List S92 → Int → List S92
  | [], _ => []
  | x :: l, a => ⟨marks x.f0 a x.f0.length, a + x.f0.length⟩ :: pmk l (a + x.f0.length + 1)
def pnd : List S92 → Int → Int
  | [], a => a
  | x :: l, a => pnd l (a + x.f0.length + 1)
theorem pnd_le : ∀ (l : List S92) (a : Int), (∀ x ∈ l, x.f0.length ≤ 1048576) → a ≤ pnd l a ∧ pnd l a ≤ a + 1048577 * l.length
  | [], a, _ => by simp [pnd]
  | x :: l, a, h => by
    have h1 := h x (List.mem_cons_self ..)
    have h2 := pnd_le l (a + x.f0.length + 1) (fun y hy => h y (List.mem_cons_of_mem _ hy))
    unfold pnd
    rw [List.length_cons]
    omega
theorem pmk_len : ∀ (l : List S92) (a : Int), (pmk l a).length = l.length
  | [], _ => rfl
  | x :: l, a => by
    unfold pmk
    rw [List.length_cons, List.length_cons, pmk_len l]
theorem at_pre (pre : List S92) (x : S92) (l : List S92) : rd_T92 (pre ++ x :: l) (pre.length : Int) = x := by
  rw [rd92 _ pre.length (by simp)]
  simp
theorem mark_run : ∀ (l pre : List S92) (a : Int), (∀ x ∈ l, x.f0.length ≤ 1048576) → 0 ≤ a → pre.length + l.length ≤ 1048576 → a + 1048577 * l.length ≤ 1152921504606846976 → Ev (fun k => laws_markPartS.l0 k (pre ++ l) a (pre.length : Int)) (pnd l a, pre ++ pmk l a)
  | [], pre, a, _, _, _, _ => by
    show Ev (fun k => laws_markPartS.l0 k (pre ++ []) a (pre.length : Int)) (a, pre ++ [])
    rw [List.append_nil]
    exact Ev.step (fun k => by rw [laws_markPartS.l0]) (ev_f (by omega) (Ev.now _))
  | x :: l, pre, a, h, h0, hl, hb => by
    have h1 := h x (List.mem_cons_self ..)
    rw [List.length_cons] at hl hb
    have em := markIntS x.f0 a h0 (by omega) (by omega)
    have ih := mark_run l (pre ++ [⟨marks x.f0 a x.f0.length, a + x.f0.length⟩]) (a + x.f0.length + 1) (fun y hy => h y (List.mem_cons_of_mem _ hy)) (by omega) (by simp; omega) (by omega)
    refine Ev.step (fun k => by rw [laws_markPartS.l0, at_pre pre x l]) (ev_t (by simp; omega) (ev_t (by omega) (Ev.bind em ?_)))
    rw [w64 (n := a + (x.f0.length : Int) + 1) (by omega) (by omega), w_succ (i := pre.length) (n := 1048577) (by omega) (by omega), Int.toNat_natCast, show (pre ++ x :: l).set pre.length ⟨marks x.f0 a x.f0.length, a + x.f0.length⟩ = pre ++ [⟨marks x.f0 a x.f0.length, a + x.f0.length⟩] ++ l by simp]
    rw [List.length_append, List.length_singleton] at ih
    unfold pnd pmk
    rw [show pre ++ (⟨marks x.f0 a x.f0.length, a + x.f0.length⟩ : S92) :: pmk l (a + x.f0.length + 1) = pre ++ [⟨marks x.f0 a x.f0.length, a + x.f0.length⟩] ++ pmk l (a + x.f0.length + 1) by simp]
    exact ih
theorem held_run : ∀ (l pre : List S92) (a : Int), (∀ x ∈ l, x.f0.length ≤ 1048576) → 0 ≤ a → pre.length + l.length ≤ 1048576 → a + 1048577 * l.length ≤ 1152921504606846976 → Ev (fun k => laws_heldPartS.l0 k (pre ++ pmk l a) a (pre.length : Int)) (pnd l a)
  | [], pre, a, _, _, _, _ => by
    show Ev (fun k => laws_heldPartS.l0 k (pre ++ []) a (pre.length : Int)) a
    rw [List.append_nil]
    exact Ev.step (fun k => by rw [laws_heldPartS.l0]) (ev_f (by omega) (Ev.now _))
  | x :: l, pre, a, h, h0, hl, hb => by
    have h1 := h x (List.mem_cons_self ..)
    rw [List.length_cons] at hl hb
    have em := heldIntS x.f0 a h0 (by omega) (by omega)
    have ih := held_run l (pre ++ [⟨marks x.f0 a x.f0.length, a + x.f0.length⟩]) (a + x.f0.length + 1) (fun y hy => h y (List.mem_cons_of_mem _ hy)) (by omega) (by simp; omega) (by omega)
    have hlen := pmk_len l (a + x.f0.length + 1)
    unfold pmk
    refine Ev.step (fun k => by rw [laws_heldPartS.l0, at_pre]) (ev_t (by simp; omega) (ev_t (by omega) (Ev.bind em (ev_f (show ¬ a + (x.f0.length : Int) < 0 by omega) (ev_t rfl ?_)))))
    rw [w64 (n := a + (x.f0.length : Int) + 1) (by omega) (by omega), w_succ (i := pre.length) (n := 1048577) (by omega) (by omega)]
    rw [List.length_append, List.length_singleton] at ih
    rw [show pre ++ (⟨marks x.f0 a x.f0.length, a + x.f0.length⟩ : S92) :: pmk l (a + x.f0.length + 1) = pre ++ [⟨marks x.f0 a x.f0.length, a + x.f0.length⟩] ++ pmk l (a + x.f0.length + 1) by simp]
    unfold pnd
    exact ih
end Go.Proofs.Ytdkmmefmhfbgkaa.U
