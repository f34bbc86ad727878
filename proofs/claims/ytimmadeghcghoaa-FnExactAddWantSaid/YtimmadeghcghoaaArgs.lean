/- What the laws' parameters read as. -/
import Derived.Test.YtimmadeghcghoaaF0
import Derived.Test.YtimmadeghcghoaaOpen
import Derived.KernelRfl
namespace Go.Proofs.Ytimmadeghcghoaa.P
open Go.RowKit Go.Proofs.YtimmadeghcghoaaW.PrintWords Go.Proofs.Ytimmadeghcghoaa.Open
def okS92 (x : S92) : Prop := okI x.f0 ∧ okI x.f1 ∧ okI x.f2 ∧ okI x.f3
theorem opens_t92 {H : Type} (enc : TypeId × Value → H) : Opens enc Try.prog 92 k92 okS92 :=
  opens_struct (g := fun p => ⟨p.1, p.2.1, p.2.2.1, p.2.2.2⟩) (fun _ => rfl) Try.underlying92 (by kernel_rfl) (opensF_cons rfl (by kernel_rfl) (opens_int Try.underlying3) (opensF_cons rfl (by kernel_rfl) (opens_int Try.underlying3) (opensF_cons rfl (by kernel_rfl) (opens_int Try.underlying3) (opensF_last rfl (by kernel_rfl) (opens_int Try.underlying3)))))
def okS94 (x : S94) : Prop := okI x.f0 ∧ okI x.f1
theorem opens_t94 {H : Type} (enc : TypeId × Value → H) : Opens enc Try.prog 94 k94 okS94 :=
  opens_struct (g := fun p => ⟨p.1, p.2⟩) (fun _ => rfl) Try.underlying94 (by kernel_rfl) (opensF_cons rfl (by kernel_rfl) (opens_int Try.underlying3) (opensF_last rfl (by kernel_rfl) (opens_int Try.underlying3)))
end Go.Proofs.Ytimmadeghcghoaa.P
