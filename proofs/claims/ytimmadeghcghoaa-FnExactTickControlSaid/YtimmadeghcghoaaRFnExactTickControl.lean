/- Whatever the arguments: FnExactTickControl returns true, and each argument reads as it did. Written by mytail.py out of the law's pure statement (text YtimmadeghcghoaaUFnExactTickControl) and its walk. -/
import Derived.Test.YtimmadeghcghoaaRows
import Derived.Test.YtimmadeghcghoaaFX04e
import Derived.Test.YtimmadeghcghoaaArgs
import Derived.Test.YtimmadeghcghoaaUFnExactTickControl
import Derived.WalkKit
import Derived.ProofKit
import Derived.OpenShut
import Derived.ChangeOld
import Derived.Below
import Derived.SizedLaws
import Derived.Carry
namespace Go.Proofs.Ytimmadeghcghoaa.fnExactTickControl
open Go.ChangeShapes Go.WideShapes Go.ChangeAt Go.RowKit Go.Proofs.YtimmadeghcghoaaW.PrintWords Go.Proofs.Ytimmadeghcghoaa.P Go.Proofs.Ytimmadeghcghoaa.Open
set_option linter.unusedVariables false
theorem own : ownKnob Try.prog.godebug = none := by kernel_rfl
theorem laidOut : laidOutB Try.prog = true := by kernel_rfl
set_option maxRecDepth 100000 in
theorem lifted (os : Os) (started : os.Started) (H : Type) (enc : TypeId × Value → H) :
    ReturnsInHanded {} Try.checked os 14 .any (Rows.fnExactTickControlSpec.pre6 enc Try.prog Try.f14 Rows.fnExactTickControlRow.domain false) (Rows.fnExactTickControlSpec.post enc Try.prog Try.f14 false true false false) := by
  refine returnsInHanded_of_change_sized (C := Try.checked) own started (by kernel_rfl) Try.func14
    (ChangeSpec.witness6 (enc := enc) (C := Try.checked) false ⟨#[], #[.slice none 0 0, .agg #[.slice none 0 0, .int .i64 0, .slice none 0 0, .int .i64 0]], []⟩ 8 (by kernel_rfl) (by kernel_rfl) (by kernel_rfl) (by kernel_rfl)) ?_
  intro W base args ds gs before hval0 hW hcnd hsz0 _
  have hval : ∀ (j : Nat) t v, Try.f14.params[j]? = some t → args[j]? = some v → Value.okWide Try.prog W .any base t v := hval0
  have hW' := hW
  obtain ⟨p, q, hA0, hV, rfl, hfz, hnd⟩ := hW
  have hA : DataW.TrodAll enc Try.prog W 0 (fun _ => true) true Try.f14.params.toList args.toList ds p := hA0
  rw [Try.params14] at hA hval
  obtain ⟨v0, vs0, d0, ds0, p0, q0, hargs, rfl, rfl, h0, r0⟩ := trodAll_cons hA
  obtain ⟨v1, vs1, d1, ds1, p1, q1, rfl, rfl, rfl, h1, r1⟩ := trodAll_cons r0
  obtain ⟨rfl, rfl, rfl⟩ := trodAll_nil r1
  obtain rfl : args = #[v0, v1] := by cases args; simp_all
  obtain ⟨rfl, rfl⟩ := trodVars_none hV
  obtain ⟨A0, n0, c0, rfl⟩ := okWide_slice Try.underlying38 (hval 0 38 v0 rfl rfl)
  have k0 := h0
  have lt0 : ∀ x ∈ p0, x.block < W.heap.size := by obtain ⟨m, hm⟩ := k0; exact DataW.trod_lt m _ _ _ hm
  obtain ⟨x0, hx0, ok0⟩ : ∃ x, (Kd.slice 92 k92).K W x [.slice A0 n0 c0] ∧ (okL okS92) x := by obtain ⟨fuel, hf⟩ := h0; exact (opens_slice Try.underlying38 (by kernel_rfl) (opens_t92 enc)) W fuel _ _ hf
  obtain ⟨A0', c0', e0, hc0, hr0⟩ := hx0
  simp only [List.cons.injEq, and_true, Value.slice.injEq] at e0
  obtain ⟨rfl, rfl, rfl⟩ := e0
  obtain ⟨cs1, rfl, _⟩ := okWide_struct Try.underlying67 (hval 1 67 v1 rfl rfl)
  have k1 := h1
  have lt1 : ∀ x ∈ p1, x.block < W.heap.size := by obtain ⟨m, hm⟩ := k1; exact DataW.trod_lt m _ _ _ hm
  obtain ⟨x1, hx1, ok1⟩ : ∃ x, k67.K W x cs1.toList ∧ okS67 x := by obtain ⟨fuel, hf⟩ := h1; exact opens_t67 enc W fuel _ _ hf
  obtain ⟨A1_0, c1_0, A1_2, c1_2, e1, hc1_0, hr1_0, hc1_2, hr1_2⟩ := k67_open hx1
  obtain rfl : cs1 = #[.slice A1_0 x1.f0.length c1_0, .int .i64 x1.f1, .slice A1_2 x1.f2.length c1_2, .int .i64 x1.f3] := by cases cs1; simpa using e1
  obtain ⟨kk, hk⟩ := U.FnExactTickControl x0 x1 ok0 ok1
  refine (laws_FnExactTickControl.calls kk A0 c0 x0 A1_0 c1_0 x1.f0 x1.f1 A1_2 c1_2 x1.f2 x1.f3 true W hr0 hc0 hr1_0 hc1_0 hr1_2 hc1_2 hk).mono fun e W' ⟨he, bel0⟩ => ?_
  have bel : Below W.heap.size W W' := bel0
  subst he
  exact ⟨_, rfl, _, _, _, [], _, [], hW', trodAll_mk1 (shut_bool Try.underlying4 _), (trodAll_cons_mk (Below.trod laidOut (by kernel_rfl) (of_decide_eq_true (by kernel_rfl)) k0 bel lt0) (trodAll_cons_mk (Below.trod laidOut (by kernel_rfl) (of_decide_eq_true (by kernel_rfl)) k1 bel lt1) trodAll_mk0)), rfl, bel.frame _, fun h => by cases h⟩
theorem over : Rows.fnExactTickControlRow.holds Try.pinned (OpenSpec.ofChange Rows.fnExactTickControlSpec) :=
  OpenClaim.holds_of_wide 14 Try.f14 rfl rfl rfl rfl rfl rfl rfl ⟨rfl, rfl, rfl, rfl, rfl⟩ rfl rfl rfl rfl rfl (by kernel_rfl) Try.func14 (by kernel_rfl)
    (of_decide_eq_true (by kernel_rfl)) (by unfold Func.isWrapper; first | (rw [if_pos (by decide +kernel)]; kernel_rfl) | (rw [if_neg (by decide +kernel)]; exact ⟨rfl, rfl⟩))
    (fun os started H enc _ => lifted os started H enc)
theorem proved : Rows.FnExactTickControlSaid := over
#print axioms proved
end Go.Proofs.Ytimmadeghcghoaa.fnExactTickControl
namespace Go.Proofs.Ytimmadeghcghoaa
theorem fnExactTickControl_holds : Rows.FnExactTickControlSaid := fnExactTickControl.proved
end Go.Proofs.Ytimmadeghcghoaa
