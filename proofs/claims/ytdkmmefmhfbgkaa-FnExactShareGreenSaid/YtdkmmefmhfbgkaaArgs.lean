/- What the laws' parameters read as. -/
import Derived.Test.YtdkmmefmhfbgkaaF0
import Derived.Test.YtdkmmefmhfbgkaaOpen
import Derived.KernelRfl
namespace Go.Proofs.Ytdkmmefmhfbgkaa.P
open Go.RowKit Go.Proofs.YtdkmmefmhfbgkaaW.PrintWords Go.Proofs.Ytdkmmefmhfbgkaa.Open
def okS91 (x : S91) : Prop := okI x.f0 ∧ okI x.f1 ∧ okI x.f2 ∧ okI x.f3
theorem opens_t91 {H : Type} (enc : TypeId × Value → H) : Opens enc Try.prog 91 k91 okS91 :=
  opens_struct (g := fun p => ⟨p.1, p.2.1, p.2.2.1, p.2.2.2⟩) (fun _ => rfl) Try.underlying91 (by kernel_rfl) (opensF_cons rfl (by kernel_rfl) (opens_int Try.underlying3) (opensF_cons rfl (by kernel_rfl) (opens_int Try.underlying3) (opensF_cons rfl (by kernel_rfl) (opens_int Try.underlying3) (opensF_last rfl (by kernel_rfl) (opens_int Try.underlying3)))))
def okS85 (x : S85) : Prop := (okL okI) x.f0 ∧ okI x.f1
theorem opens_t85 {H : Type} (enc : TypeId × Value → H) : Opens enc Try.prog 85 k85 okS85 :=
  opens_struct (g := fun p => ⟨p.1, p.2⟩) (fun _ => rfl) Try.underlying85 (by kernel_rfl) (opensF_cons rfl (by kernel_rfl) (opens_slice Try.underlying41 (by kernel_rfl) (opens_int Try.underlying3)) (opensF_last rfl (by kernel_rfl) (opens_int Try.underlying3)))
def okS130 (x : S130) : Prop := okI x.f0 ∧ okI x.f1 ∧ okI x.f2 ∧ okB x.f3
theorem opens_t130 {H : Type} (enc : TypeId × Value → H) : Opens enc Try.prog 130 k130 okS130 :=
  opens_struct (g := fun p => ⟨p.1, p.2.1, p.2.2.1, p.2.2.2⟩) (fun _ => rfl) Try.underlying130 (by kernel_rfl) (opensF_cons rfl (by kernel_rfl) (opens_int Try.underlying3) (opensF_cons rfl (by kernel_rfl) (opens_int Try.underlying3) (opensF_cons rfl (by kernel_rfl) (opens_int Try.underlying3) (opensF_last rfl (by kernel_rfl) (opens_bool Try.underlying4)))))
end Go.Proofs.Ytdkmmefmhfbgkaa.P
