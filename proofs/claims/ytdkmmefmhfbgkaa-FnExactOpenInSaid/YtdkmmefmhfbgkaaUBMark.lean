/- Marks in a row of truth values, and the same found again. -/
import Derived.Test.YtdkmmefmhfbgkaaFX03
import Derived.Test.YtdkmmefmhfbgkaaEv
set_option linter.unusedVariables false
set_option linter.unusedSimpArgs false
namespace Go.Proofs.Ytdkmmefmhfbgkaa.U
open Go.RowKit Go.Proofs.YtdkmmefmhfbgkaaW.PrintWords Go.Proofs.YtdkmmefmhfbgkaaW.PrintLast Go.Proofs.Ytdkmmefmhfbgkaa.P
def bm (a : Int) (n : Nat) : List Bool := (List.range n).map (fun j : Nat => (Int.tmod (a + (j : Int)) 3 == 0))
theorem bm_len (a : Int) (n : Nat) : (bm a n).length = n := by simp [bm]
theorem bm_succ (a : Int) (n : Nat) : bm a (n + 1) = bm a n ++ [(Int.tmod (a + (n : Int)) 3 == 0)] := by
  unfold bm; rw [List.range_succ, List.map_append]; rfl
theorem bm_rd (a : Int) (n i : Nat) (h : i < n) : rdOf false (bm a n) (i : Int) = (Int.tmod (a + (i : Int)) 3 == 0) := by
  rw [rdOf_at false _ i (by rw [bm_len]; exact h)]
  simp [bm]
theorem bm_set (l : List Bool) (a : Int) (i : Nat) (h : i < l.length) : (bm a i ++ l.drop i).set i (Int.tmod (a + (i : Int)) 3 == 0) = bm a (i + 1) ++ l.drop (i + 1) := by
  rw [List.set_append_right _ _ (by rw [bm_len]; omega), bm_len, Nat.sub_self, List.drop_eq_getElem_cons h, List.set_cons_zero, bm_succ, List.append_assoc]
  rfl
theorem bm_all (l : List Bool) (a : Int) (i : Nat) (h : i ≤ l.length) : (bm a i ++ l.drop i).length = l.length := by
  rw [List.length_append, bm_len, List.length_drop]; omega
theorem markBoolV (l : List Bool) (a : Int) (h : l.length ≤ 1099511627776) (h0 : 0 ≤ a) (h1 : a ≤ 1099511627776) : Ev (fun k => laws_markBoolS.f k l a) (a + l.length, bm a l.length) := by
  unfold laws_markBoolS.f
  have e : Ev (fun k => laws_markBoolS.l0 k (bm a 0 ++ l.drop 0) (a + ((0 : Nat) : Int)) ((0 : Nat) : Int)) (a + l.length, bm a l.length) := by
    refine ev_for0 (F := fun k i => laws_markBoolS.l0 k (bm a i ++ l.drop i) (a + (i : Int)) (i : Int)) l.length (fun i hi ih => ?_) ?_
    · have hm := bm_all l a i (by omega)
      refine Ev.step (fun k => by rw [laws_markBoolS.l0]) ?_
      refine ev_t (by rw [hm]; omega) (ev_t (by omega) ?_)
      rw [Int.toNat_natCast, bm_set l a i hi, w_succ hi (by omega), w64 (n := a + (i : Int) + 1) (by omega) (by omega), show a + (i : Int) + 1 = a + ((i + 1 : Nat) : Int) by omega]
      exact ih
    · have hm := bm_all l a l.length (by omega)
      refine Ev.step (fun k => by rw [laws_markBoolS.l0]) ?_
      refine ev_f (by rw [hm]; omega) (ev_now ?_)
      rw [List.drop_length, List.append_nil]
  have e0 : a + ((0 : Nat) : Int) = a := by omega
  rw [e0] at e
  exact e
theorem heldBoolV (n : Nat) (a : Int) (h : n ≤ 1099511627776) (h0 : 0 ≤ a) (h1 : a ≤ 1099511627776) : Ev (fun k => laws_heldBoolS.f k (bm a n) a) (a + n) := by
  unfold laws_heldBoolS.f
  have hl := bm_len a n
  have e : Ev (fun k => laws_heldBoolS.l0 k (bm a n) (a + ((0 : Nat) : Int)) ((0 : Nat) : Int)) (a + n) := by
    refine ev_for0 (F := fun k i => laws_heldBoolS.l0 k (bm a n) (a + (i : Int)) (i : Int)) n (fun i hi ih => ?_) ?_
    · refine Ev.step (fun k => by rw [laws_heldBoolS.l0]) ?_
      refine ev_t (by rw [hl]; omega) (ev_t (by omega) ?_)
      rw [bm_rd a n i hi]
      refine ev_f (by simp) ?_
      rw [w_succ hi (by omega), w64 (n := a + (i : Int) + 1) (by omega) (by omega), show a + (i : Int) + 1 = a + ((i + 1 : Nat) : Int) by omega]
      exact ih
    · refine Ev.step (fun k => by rw [laws_heldBoolS.l0]) ?_
      exact ev_f (by rw [hl]; omega) (Ev.now _)
  have e0 : a + ((0 : Nat) : Int) = a := by omega
  rw [e0] at e
  exact e
end Go.Proofs.Ytdkmmefmhfbgkaa.U
