/- Do two paths cross: the reference's way comes to an answer. -/
import Derived.Test.YtjgonpcajedkjaaFX00c
import Derived.Test.YtjgonpcajedkjaaUPaths
set_option linter.unusedVariables false
set_option linter.unusedSimpArgs false
namespace Go.Proofs.Ytjgonpcajedkjaa.U
open Go.RowKit Go.Proofs.YtjgonpcajedkjaaW.PrintWords Go.Proofs.YtjgonpcajedkjaaW.PrintLast Go.Proofs.Ytjgonpcajedkjaa.P
def ilvOk (a b c d : Fin 4) : Bool := (spec_Interleave.f 40 (2 * (a.val : Int)) (2 * (b.val : Int) + 1) (2 * (c.val : Int)) (2 * (d.val : Int) + 1)).isSome
set_option maxRecDepth 100000 in
theorem ilv_all : ∀ a b c d : Fin 4, ilvOk a b c d = true := by decide +kernel
theorem ilv_ex {a b c d : Int} (ha : 0 ≤ a ∧ a ≤ 3) (hb : 0 ≤ b ∧ b ≤ 3) (hc : 0 ≤ c ∧ c ≤ 3) (hd : 0 ≤ d ∧ d ≤ 3) :
    ∃ v, Ev (fun k => spec_Interleave.f k (2 * a) (2 * b + 1) (2 * c) (2 * d + 1)) v := by
  have h := ilv_all ⟨a.toNat, by omega⟩ ⟨b.toNat, by omega⟩ ⟨c.toNat, by omega⟩ ⟨d.toNat, by omega⟩
  unfold ilvOk at h
  simp only [Int.toNat_of_nonneg ha.1, Int.toNat_of_nonneg hb.1, Int.toNat_of_nonneg hc.1, Int.toNat_of_nonneg hd.1] at h
  cases hs : spec_Interleave.f 40 (2 * a) (2 * b + 1) (2 * c) (2 * d + 1) with
  | none => rw [hs] at h; cases h
  | some v => exact ⟨v, ev_of (fun k => spec_Interleave.mono _ _ _ _ k) hs⟩
theorem spec_inPlace {a : Int} (h : 0 ≤ a ∧ a ≤ 3) : spec_InPlace.f a = some (2 * a) := by
  unfold spec_InPlace.f; rw [spec_l1In_eq, Option.bind_some, if_pos (decide_eq_true h), w64 (by omega) (by omega)]
theorem spec_outPlace {a : Int} (h : 0 ≤ a ∧ a ≤ 3) : spec_OutPlace.f a = some (2 * a + 1) := by
  unfold spec_OutPlace.f; rw [spec_l1In_eq, Option.bind_some, if_pos (decide_eq_true h), w64 (n := 2 * a) (by omega) (by omega), w64 (by omega) (by omega)]
theorem conf_ex (x y : S50) : ∃ v, Ev (fun k => spec_Conflict.f k x.f0 x.f1 x.f2 x.f3 y.f0 y.f1 y.f2 y.f3) v := by
  have st : Ev (fun k => spec_Conflict.j0 k true x.f0 x.f1 x.f2 x.f3 y.f0 y.f1 y.f2 y.f3) false := Ev.step (fun k => by rw [spec_Conflict.j0]) (ev_t rfl (Ev.now _))
  unfold spec_Conflict.f
  by_cases h1 : isP x = true
  · by_cases h2 : isP y = true
    · obtain ⟨_, _, x2, x3, _⟩ := (isP_iff x).1 h1
      obtain ⟨_, _, y2, y3, _⟩ := (isP_iff y).1 h2
      have rest : ∀ b, ∃ v, Ev (fun k => spec_Conflict.j0 k b x.f0 x.f1 x.f2 x.f3 y.f0 y.f1 y.f2 y.f3) v := by
        intro b
        cases b with
        | true => exact ⟨false, st⟩
        | false =>
          by_cases hx : x.f1 = 2
          · by_cases c : y.f2 = x.f2
            · exact ⟨true, Ev.step (fun k => by rw [spec_Conflict.j0]) (ev_f (by decide) (ev_t hx (ev_t c (Ev.now _))))⟩
            · exact ⟨_, Ev.step (fun k => by rw [spec_Conflict.j0]) (ev_f (by decide) (ev_t hx (ev_f c (Ev.now _))))⟩
          · by_cases hy : y.f1 = 2
            · by_cases c : x.f2 = y.f2
              · exact ⟨true, Ev.step (fun k => by rw [spec_Conflict.j0]) (ev_f (by decide) (ev_f hx (ev_t hy (ev_t c (Ev.now _)))))⟩
              · exact ⟨_, Ev.step (fun k => by rw [spec_Conflict.j0]) (ev_f (by decide) (ev_f hx (ev_t hy (ev_f c (Ev.now _)))))⟩
            · obtain ⟨v, v1⟩ := ilv_ex x2 x3 y2 y3
              by_cases c : x.f2 = y.f2
              · exact ⟨false, Ev.step (fun k => by rw [spec_Conflict.j0]) (ev_f (by decide) (ev_f hx (ev_f hy (ev_t c (Ev.now _)))))⟩
              · by_cases c2 : x.f3 = y.f3
                · exact ⟨true, Ev.step (fun k => by rw [spec_Conflict.j0]) (ev_f (by decide) (ev_f hx (ev_f hy (ev_f c (ev_t c2 (Ev.now _))))))⟩
                · exact ⟨v, Ev.step (fun k => by rw [spec_Conflict.j0]) (ev_f (by decide) (ev_f hx (ev_f hy (ev_f c (ev_f c2 (ev_call (spec_inPlace x2) (ev_call (spec_outPlace x3) (ev_call (spec_inPlace y2) (ev_call (spec_outPlace y3) (Ev.bind v1 (Ev.now _)))))))))))⟩
      by_cases hx : x.f1 = 2
      · obtain ⟨v, a1⟩ := rest (y.f1 == 2)
        exact ⟨v, ev_call (spec_isPath x) (ev_t h1 (ev_call (spec_isPath y) (ev_t h2 (ev_t hx a1))))⟩
      · obtain ⟨v, a1⟩ := rest false
        exact ⟨v, ev_call (spec_isPath x) (ev_t h1 (ev_call (spec_isPath y) (ev_t h2 (ev_f hx a1))))⟩
    · exact ⟨false, ev_call (spec_isPath x) (ev_t h1 (ev_call (spec_isPath y) (ev_f h2 st)))⟩
  · exact ⟨false, ev_call (spec_isPath x) (ev_f h1 st)⟩
noncomputable def conf (x y : S50) : Bool := Classical.choose (conf_ex x y)
theorem spec_conflict (x y : S50) : Ev (fun k => spec_Conflict.f k x.f0 x.f1 x.f2 x.f3 y.f0 y.f1 y.f2 y.f3) (conf x y) := Classical.choose_spec (conf_ex x y)
end Go.Proofs.Ytjgonpcajedkjaa.U
