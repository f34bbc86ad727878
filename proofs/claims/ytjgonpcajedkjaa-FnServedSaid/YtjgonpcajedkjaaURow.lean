/- The row of lights of a path over one cycle. -/
import Derived.Test.YtjgonpcajedkjaaFX00b
import Derived.Test.YtjgonpcajedkjaaULight
set_option linter.unusedVariables false
set_option linter.unusedSimpArgs false
namespace Go.Proofs.Ytjgonpcajedkjaa.U
open Go.RowKit Go.Proofs.YtjgonpcajedkjaaW.PrintWords Go.Proofs.YtjgonpcajedkjaaW.PrintLast Go.Proofs.Ytjgonpcajedkjaa.P
noncomputable def seg (l : List S50) (p : List S85) (id : Int) (i n : Nat) : List Int := (List.range n).map (fun s : Nat => lv l p (i : Int) (s : Int) id)
theorem seg_len (l : List S50) (p : List S85) (id : Int) (i n : Nat) : (seg l p id i n).length = n := by simp [seg]
noncomputable def rowN (l : List S50) (p : List S85) (id : Int) : Nat → List Int
  | 0 => []
  | i + 1 => rowN l p id i ++ seg l p id i (longV l p (i : Int)).toNat
theorem rowN_len {l : List S50} {p : List S85} (h : plan l p = true) (id : Int) : ∀ i, i ≤ p.length → ((rowN l p id i).length : Int) = cyc l p i
  | 0, _ => by simp [rowN, cyc]
  | i + 1, hi => by
    have h1 := rowN_len h id i (by omega)
    have h2 := long_bound h (i := i) (by omega)
    rw [rowN, List.length_append, seg_len, cyc_succ]
    omega
theorem rd_app_l {a b : List Int} {t : Int} (h0 : 0 ≤ t) (h : t < a.length) : rd (a ++ b) t = rd a t := by
  obtain ⟨n, rfl⟩ : ∃ n : Nat, t = (n : Int) := ⟨t.toNat, by omega⟩
  rw [rd_at _ n (by rw [List.length_append]; omega), rd_at _ n (by omega), List.getElem_append_left]
theorem rd_app_r {a b : List Int} {t : Int} {s : Nat} (ht : t = (a.length : Int) + (s : Int)) (h : s < b.length) : rd (a ++ b) t = rd b (s : Int) := by
  subst ht
  rw [show (a.length : Int) + (s : Int) = ((a.length + s : Nat) : Int) by omega, rd_at _ _ (by rw [List.length_append]; omega), rd_at _ _ h, List.getElem_append_right (by omega)]
  congr 1; omega
theorem seg_rd (l : List S50) (p : List S85) (id : Int) (i n s : Nat) (h : s < n) : rd (seg l p id i n) (s : Int) = lv l p (i : Int) (s : Int) id := by
  rw [rd_at _ s (by rw [seg_len]; exact h)]
  simp [seg]
theorem rowN_rd {l : List S50} {p : List S85} (h : plan l p = true) (id : Int) {m : Nat} {y : Int} (h0 : 0 ≤ y) (h1 : y < longV l p (m : Int)) : ∀ n, m < n → n ≤ p.length → rd (rowN l p id n) (cyc l p m + y) = lv l p (m : Int) y id
  | 0, hm, _ => by omega
  | n + 1, hm, hn => by
    have hl := rowN_len h id n (by omega)
    have cb := cyc_bound h m (by omega)
    rw [rowN]
    rcases Nat.lt_or_ge m n with hlt | hge
    · have m1 := cyc_mono h (n - (m + 1)) (m + 1) (by omega)
      rw [show m + 1 + (n - (m + 1)) = n by omega, cyc_succ] at m1
      rw [rd_app_l (by omega) (by omega)]
      exact rowN_rd h id h0 h1 n hlt (by omega)
    · have e : m = n := by omega
      subst e
      rw [rd_app_r (s := y.toNat) (by omega) (by rw [seg_len]; omega), seg_rd _ _ _ _ _ _ (by omega), Int.toNat_of_nonneg h0]
def hasRow (l : List S50) (p : List S85) (id : Int) : Prop := plan l p = true ∧ 0 ≤ impl_FindPath.ix id l 0
noncomputable def rowV (l : List S50) (p : List S85) (id : Int) : List Int := if bo (hasRow l p id) = true then rowN l p id p.length else []
theorem rowV_t {l : List S50} {p : List S85} {id : Int} (h : hasRow l p id) : rowV l p id = rowN l p id p.length := if_pos (bo_t h)
theorem rowV_f {l : List S50} {p : List S85} {id : Int} (h : ¬ hasRow l p id) : rowV l p id = [] := if_neg (by rw [bo_f h]; decide)
theorem rowV_len {l : List S50} {p : List S85} {id : Int} (h : hasRow l p id) : ((rowV l p id).length : Int) = cyc l p p.length ∧ 5 ≤ (rowV l p id).length ∧ (rowV l p id).length ≤ 390 := by
  have hn := plan_len h.1
  have h1 := rowN_len h.1 id p.length (by omega)
  have h2 := cyc_bound h.1 p.length (by omega)
  rw [rowV_t h]
  omega
theorem rowV_le (l : List S50) (p : List S85) (id : Int) : (rowV l p id).length ≤ 390 := by
  by_cases h : hasRow l p id
  · exact (rowV_len h).2.2
  · rw [rowV_f h]; simp
/-- A light of the row is the light at that second. -/
theorem rowV_rd {l : List S50} {p : List S85} {a id : Int} (h : hasRow l p id) (h0 : 0 ≤ a) (h1 : a ≤ 1000000) : rd (rowV l p id) (Int.tmod a ((rowV l p id).length : Int)) = laV l p a id := by
  have hin : inT l p a := ⟨h.1, h0, h1⟩
  obtain ⟨m, y, hm, y0, y1, e, em⟩ := paV_at hin
  rw [(rowV_len h).1, e, rowV_t h, rowN_rd h.1 id y0 y1 p.length hm (Nat.le_refl _), laV_1 (by rw [em]; have := h.2; show ¬ (_ ∨ (m : Int) < 0); omega), em]
theorem rowV_rd' {l : List S50} {p : List S85} {id : Int} (h : hasRow l p id) {i : Nat} (hi : i < (rowV l p id).length) : rd (rowV l p id) (i : Int) = laV l p (i : Int) id := by
  have hl := rowV_len h
  have := rowV_rd (a := (i : Int)) h (by omega) (by omega)
  rw [Int.tmod_eq_of_lt (by omega) (by omega)] at this
  exact this
/-- How many are green among the first i. -/
def gcnt (r : List Int) : Nat → Int
  | 0 => 0
  | i + 1 => if rd r (i : Int) = 1 then gcnt r i + 1 else gcnt r i
theorem gcnt_t {r : List Int} {i : Nat} (h : rd r (i : Int) = 1) : gcnt r (i + 1) = gcnt r i + 1 := by rw [gcnt, if_pos h]
theorem gcnt_f {r : List Int} {i : Nat} (h : ¬ rd r (i : Int) = 1) : gcnt r (i + 1) = gcnt r i := by rw [gcnt, if_neg h]
theorem gcnt_bound (r : List Int) : ∀ i, 0 ≤ gcnt r i ∧ gcnt r i ≤ i
  | 0 => by simp [gcnt]
  | i + 1 => by
    have := gcnt_bound r i
    by_cases h : rd r (i : Int) = 1
    · rw [gcnt_t h]; omega
    · rw [gcnt_f h]; omega
/-- How long it has not been green behind k seconds; the longest of these. -/
def wn (r : List Int) : Nat → Int
  | 0 => 0
  | k + 1 => if rd r (Int.tmod (k : Int) (r.length : Int)) = 1 then 0 else wn r k + 1
theorem wn_t {r : List Int} {k : Nat} (h : rd r (Int.tmod (k : Int) (r.length : Int)) = 1) : wn r (k + 1) = 0 := by rw [wn, if_pos h]
theorem wn_f {r : List Int} {k : Nat} (h : ¬ rd r (Int.tmod (k : Int) (r.length : Int)) = 1) : wn r (k + 1) = wn r k + 1 := by rw [wn, if_neg h]
theorem wn_bound (r : List Int) : ∀ i, 0 ≤ wn r i ∧ wn r i ≤ i
  | 0 => by simp [wn]
  | i + 1 => by
    have := wn_bound r i
    by_cases h : rd r (Int.tmod (i : Int) (r.length : Int)) = 1
    · rw [wn_t h]; omega
    · rw [wn_f h]; omega
def wb (r : List Int) : Nat → Int
  | 0 => 0
  | k + 1 => max (wb r k) (wn r (k + 1))
def waitV (r : List Int) : Int := min (wb r (2 * r.length)) (r.length : Int)
/-- The first green second from 'from' on, of d that are left, k gone. -/
def ngI (r : List Int) (a : Int) : Nat → Nat → Int
  | 0, _ => -1
  | d + 1, i => if rd r (Int.tmod (a + (i : Int)) (r.length : Int)) = 1 then a + (i : Int) else ngI r a d (i + 1)
theorem ngI_t {r : List Int} {a : Int} {d i : Nat} (h : rd r (Int.tmod (a + (i : Int)) (r.length : Int)) = 1) : ngI r a (d + 1) i = a + (i : Int) := by rw [ngI, if_pos h]
theorem ngI_f {r : List Int} {a : Int} {d i : Nat} (h : ¬ rd r (Int.tmod (a + (i : Int)) (r.length : Int)) = 1) : ngI r a (d + 1) i = ngI r a d (i + 1) := by rw [ngI, if_neg h]
def ngV (r : List Int) (a : Int) : Int := if 0 ≤ a ∧ a ≤ 100000 then ngI r a r.length 0 else -1
theorem ngV_t {r : List Int} {a : Int} (h : 0 ≤ a ∧ a ≤ 100000) : ngV r a = ngI r a r.length 0 := if_pos h
theorem ngV_f {r : List Int} {a : Int} (h : ¬ (0 ≤ a ∧ a ≤ 100000)) : ngV r a = -1 := if_neg h
theorem ngI_bound (r : List Int) (a : Int) : ∀ d i, ngI r a d i = -1 ∨ a + (i : Int) ≤ ngI r a d i ∧ ngI r a d i < a + (i : Int) + d
  | 0, i => .inl rfl
  | d + 1, i => by
    by_cases h : rd r (Int.tmod (a + (i : Int)) (r.length : Int)) = 1
    · rw [ngI_t h]; omega
    · rw [ngI_f h]
      have := ngI_bound r a d (i + 1)
      omega
theorem ngV_bound (r : List Int) (a : Int) (h : r.length ≤ 390) : -1 ≤ ngV r a ∧ ngV r a ≤ 100390 := by
  by_cases c : 0 ≤ a ∧ a ≤ 100000
  · rw [ngV_t c]
    have := ngI_bound r a r.length 0
    omega
  · rw [ngV_f c]; omega
/-- The row as the program has it: green or not. -/
def grn (r : List Int) : List Bool := r.map (fun x => decide (x = 1))
theorem grn_len (r : List Int) : (grn r).length = r.length := by simp [grn]
theorem grn_rd (r : List Int) (i : Nat) (h : i < r.length) : rdOf false (grn r) (i : Int) = decide (rd r (i : Int) = 1) := by
  rw [rdOf_at false _ i (by rw [grn_len]; exact h), rd_at r i h]
  simp [grn]
end Go.Proofs.Ytjgonpcajedkjaa.U
