/- FnExactPlanFor, the pure side: the program's PlanFor and the reference's are one function. -/
import Derived.Test.YtdkmmefmhfbgkaaFX00
import Derived.Test.YtdkmmefmhfbgkaaFX00d
import Derived.Test.YtdkmmefmhfbgkaaUHInt
import Derived.Test.YtdkmmefmhfbgkaaUPlanFor
import Derived.Test.YtdkmmefmhfbgkaaULInt
import Derived.Test.YtdkmmefmhfbgkaaULPath
import Derived.Test.YtdkmmefmhfbgkaaULPart
import Derived.Test.YtdkmmefmhfbgkaaUMPath
import Derived.Test.YtdkmmefmhfbgkaaUMInt
import Derived.Test.YtdkmmefmhfbgkaaUHInt
import Derived.Test.YtdkmmefmhfbgkaaArgs
set_option linter.unusedVariables false
set_option linter.unusedSimpArgs false
namespace Go.Proofs.Ytdkmmefmhfbgkaa.U
open Go.RowKit Go.Proofs.YtdkmmefmhfbgkaaW.PrintWords Go.Proofs.YtdkmmefmhfbgkaaW.PrintLast Go.Proofs.Ytdkmmefmhfbgkaa.P Go.Proofs.Ytdkmmefmhfbgkaa.Open
/-- The parts as they stand behind the marks, and where the count stands then. -/
def pmk : List S92 → Int → List S92
  | [], _ => []
  | x :: l, a => ⟨marks x.f0 a x.f0.length, a + x.f0.length⟩ :: pmk l (a + x.f0.length + 1)
def pnd : List S92 → Int → Int
  | [], a => a
  | x :: l, a => pnd l (a + x.f0.length + 1)
theorem pnd_le : ∀ (l : List S92) (a : Int), (∀ x ∈ l, x.f0.length ≤ 13) → a ≤ pnd l a ∧ pnd l a ≤ a + 14 * l.length
  | [], a, _ => by simp [pnd]
  | x :: l, a, h => by
    have h1 := h x (List.mem_cons_self ..)
    have h2 := pnd_le l (a + x.f0.length + 1) (fun y hy => h y (List.mem_cons_of_mem _ hy))
    unfold pnd
    rw [List.length_cons]
    omega
theorem pmk_len : ∀ (l : List S92) (a : Int), (pmk l a).length = l.length
  | [], _ => rfl
  | x :: l, a => by
    unfold pmk
    rw [List.length_cons, List.length_cons, pmk_len l]
theorem at_pre (pre : List S92) (x : S92) (l : List S92) : rd_T92 (pre ++ x :: l) (pre.length : Int) = x := by
  rw [rd92 _ pre.length (by simp)]
  simp
theorem mark_run : ∀ (l pre : List S92) (a : Int), (∀ x ∈ l, x.f0.length ≤ 13) → 0 ≤ a → pre.length + l.length ≤ 12 → a + 14 * l.length ≤ 100000 → Ev (fun k => laws_markPartS.l0 k (pre ++ l) a (pre.length : Int)) (pnd l a, pre ++ pmk l a)
  | [], pre, a, _, _, _, _ => by
    show Ev (fun k => laws_markPartS.l0 k (pre ++ []) a (pre.length : Int)) (a, pre ++ [])
    rw [List.append_nil]
    exact Ev.step (fun k => by rw [laws_markPartS.l0]) (ev_f (by omega) (Ev.now _))
  | x :: l, pre, a, h, h0, hl, hb => by
    have h1 := h x (List.mem_cons_self ..)
    rw [List.length_cons] at hl hb
    have em := markIntS x.f0 a h0 (by omega) (by omega)
    have ih := mark_run l (pre ++ [⟨marks x.f0 a x.f0.length, a + x.f0.length⟩]) (a + x.f0.length + 1) (fun y hy => h y (List.mem_cons_of_mem _ hy)) (by omega) (by simp; omega) (by omega)
    refine Ev.step (fun k => by rw [laws_markPartS.l0, at_pre pre x l]) (ev_t (by simp; omega) (ev_t (by omega) (Ev.bind em ?_)))
    rw [w64 (n := a + (x.f0.length : Int) + 1) (by omega) (by omega), w_succ (i := pre.length) (n := 100) (by omega) (by omega), Int.toNat_natCast, show (pre ++ x :: l).set pre.length ⟨marks x.f0 a x.f0.length, a + x.f0.length⟩ = pre ++ [⟨marks x.f0 a x.f0.length, a + x.f0.length⟩] ++ l by simp]
    rw [List.length_append, List.length_singleton] at ih
    unfold pnd pmk
    rw [show pre ++ (⟨marks x.f0 a x.f0.length, a + x.f0.length⟩ : S92) :: pmk l (a + x.f0.length + 1) = pre ++ [⟨marks x.f0 a x.f0.length, a + x.f0.length⟩] ++ pmk l (a + x.f0.length + 1) by simp]
    exact ih
theorem held_run : ∀ (l pre : List S92) (a : Int), (∀ x ∈ l, x.f0.length ≤ 13) → 0 ≤ a → pre.length + l.length ≤ 12 → a + 14 * l.length ≤ 100000 → Ev (fun k => laws_heldPartS.l0 k (pre ++ pmk l a) a (pre.length : Int)) (pnd l a)
  | [], pre, a, _, _, _, _ => by
    show Ev (fun k => laws_heldPartS.l0 k (pre ++ []) a (pre.length : Int)) a
    rw [List.append_nil]
    exact Ev.step (fun k => by rw [laws_heldPartS.l0]) (ev_f (by omega) (Ev.now _))
  | x :: l, pre, a, h, h0, hl, hb => by
    have h1 := h x (List.mem_cons_self ..)
    rw [List.length_cons] at hl hb
    have em := heldIntS x.f0 a h0 (by omega) (by omega)
    have ih := held_run l (pre ++ [⟨marks x.f0 a x.f0.length, a + x.f0.length⟩]) (a + x.f0.length + 1) (fun y hy => h y (List.mem_cons_of_mem _ hy)) (by omega) (by simp; omega) (by omega)
    have hlen := pmk_len l (a + x.f0.length + 1)
    unfold pmk
    refine Ev.step (fun k => by rw [laws_heldPartS.l0, at_pre]) (ev_t (by simp; omega) (ev_t (by omega) (Ev.bind em (ev_f (show ¬ a + (x.f0.length : Int) < 0 by omega) (ev_t rfl ?_)))))
    rw [w64 (n := a + (x.f0.length : Int) + 1) (by omega) (by omega), w_succ (i := pre.length) (n := 100) (by omega) (by omega)]
    rw [List.length_append, List.length_singleton] at ih
    rw [show pre ++ (⟨marks x.f0 a x.f0.length, a + x.f0.length⟩ : S92) :: pmk l (a + x.f0.length + 1) = pre ++ [⟨marks x.f0 a x.f0.length, a + x.f0.length⟩] ++ pmk l (a + x.f0.length + 1) by simp]
    unfold pnd
    exact ih
theorem FnExactPlanFor : ∀ (x0 : List (S91)), (okL okS91) x0 → ∃ k, laws_FnExactPlanFor.f k x0 = some true := by
  intro l hok
  refine ev_rounds ?_
  unfold laws_FnExactPlanFor.f
  refine ev_call (szPathS l 1048576 (by omega) (by omega) (by simpa [maxLen] using hok.1)) ?_
  by_cases h1 : (l.length : Int) ≤ 1048576
  · rw [if_pos h1]
    have tl := toPathS l (by omega)
    have m1 : (l.map cPath).length = l.length := List.length_map ..
    generalize l.map cPath = p at tl m1
    have a1 := spec_planFor p (by omega)
    have a2 := impl_planFor p (by omega)
    obtain ⟨v1, v2⟩ := planV_len p
    generalize planV p = v at a1 a2 v1 v2
    have e := eqPartS v (by omega) (fun x hx => by have := v2 x hx; omega)
    obtain ⟨y1, _, em1⟩ := markPathS p 1 (by omega) (by omega) (by omega)
    have mk : Ev (fun k => laws_markPartS.f k v 1) (pnd v 1, pmk v 1) := by
      unfold laws_markPartS.f
      exact mark_run v [] 1 v2 (by decide) (by simp; omega) (by omega)
    have hd : Ev (fun k => laws_heldPartS.f k (pmk v 1) 1) (pnd v 1) := by
      unfold laws_heldPartS.f
      exact held_run v [] 1 v2 (by decide) (by simp; omega) (by omega)
    have pb := pnd_le v 1 v2
    refine ev_f (by omega) (Ev.bind tl (Ev.bind a1 (Ev.bind tl (Ev.bind a2 (Ev.bind e (ev_t rfl (Ev.bind tl (Ev.bind (eqPathS p (by omega)) (ev_t rfl ?_)))))))))
    refine Ev.bind em1 (ev_f (by show ¬ (1 + 4 * (p.length : Int) < 0); omega) (Ev.bind e ?_))
    refine Ev.step (fun k => by rw [laws_FnExactPlanFor.j0]) (ev_f (by decide) ?_)
    exact Ev.bind mk (Ev.bind hd (ev_f (show ¬ pnd v 1 < 0 by omega) (ev_t rfl (Ev.bind tl (Ev.bind a2 (Ev.bind e (ev_t rfl (Ev.bind hd (ev_f (show ¬ pnd v 1 < 0 by omega) (ev_t rfl (Ev.now _)))))))))))
  · rw [if_neg h1]
    exact ev_t (by omega) (Ev.now _)
end Go.Proofs.Ytdkmmefmhfbgkaa.U
