/- What the laws' parameters read as. -/
import Derived.Test.YtbpnbflfpgakmaaF0
import Derived.Test.YtbpnbflfpgakmaaOpen
import Derived.KernelRfl
namespace Go.Proofs.Ytbpnbflfpgakmaa.P
open Go.RowKit Go.Proofs.YtbpnbflfpgakmaaW.PrintWords Go.Proofs.Ytbpnbflfpgakmaa.Open
def okS60 (x : S60) : Prop := okI x.f0 ∧ okI x.f1 ∧ okI x.f2 ∧ okI x.f3
theorem opens_t60 {H : Type} (enc : TypeId × Value → H) : Opens enc Try.prog 60 k60 okS60 :=
  opens_struct (g := fun p => ⟨p.1, p.2.1, p.2.2.1, p.2.2.2⟩) (fun _ => rfl) Try.underlying60 (by kernel_rfl) (opensF_cons rfl (by kernel_rfl) (opens_int Try.underlying3) (opensF_cons rfl (by kernel_rfl) (opens_int Try.underlying3) (opensF_cons rfl (by kernel_rfl) (opens_int Try.underlying3) (opensF_last rfl (by kernel_rfl) (opens_int Try.underlying3)))))
def okS49 (x : S49) : Prop := (okL okI) x.f0 ∧ okI x.f1
theorem opens_t49 {H : Type} (enc : TypeId × Value → H) : Opens enc Try.prog 49 k49 okS49 :=
  opens_struct (g := fun p => ⟨p.1, p.2⟩) (fun _ => rfl) Try.underlying49 (by kernel_rfl) (opensF_cons rfl (by kernel_rfl) (opens_slice Try.underlying41 (by kernel_rfl) (opens_int Try.underlying3)) (opensF_last rfl (by kernel_rfl) (opens_int Try.underlying3)))
end Go.Proofs.Ytbpnbflfpgakmaa.P
