/- What the laws' parameters read as. -/
import Derived.Test.YtdgeeokningcnaaF0
import Derived.Test.YtdgeeokningcnaaOpen
import Derived.KernelRfl
namespace Go.Proofs.Ytdgeeokningcnaa.P
open Go.RowKit Go.Proofs.YtdgeeokningcnaaW.PrintWords Go.Proofs.Ytdgeeokningcnaa.Open
def okS23 (x : S23) : Prop := okI x.f0 ∧ okI x.f1 ∧ okI x.f2 ∧ okB x.f3
theorem opens_t23 {H : Type} (enc : TypeId × Value → H) : Opens enc Try.prog 23 k23 okS23 :=
  opens_struct (g := fun p => ⟨p.1, p.2.1, p.2.2.1, p.2.2.2⟩) (fun _ => rfl) Try.underlying23 (by kernel_rfl) (opensF_cons rfl (by kernel_rfl) (opens_int Try.underlying3) (opensF_cons rfl (by kernel_rfl) (opens_int Try.underlying3) (opensF_cons rfl (by kernel_rfl) (opens_int Try.underlying3) (opensF_last rfl (by kernel_rfl) (opens_bool Try.underlying4)))))
def okS29 (x : S29) : Prop := okI x.f0 ∧ okI x.f1
theorem opens_t29 {H : Type} (enc : TypeId × Value → H) : Opens enc Try.prog 29 k29 okS29 :=
  opens_struct (g := fun p => ⟨p.1, p.2⟩) (fun _ => rfl) Try.underlying29 (by kernel_rfl) (opensF_cons rfl (by kernel_rfl) (opens_int Try.underlying3) (opensF_last rfl (by kernel_rfl) (opens_int Try.underlying3)))
def okS49 (x : S49) : Prop := (okL okI) x.f0 ∧ okI x.f1 ∧ (okL okI) x.f2 ∧ okI x.f3
theorem opens_t49 {H : Type} (enc : TypeId × Value → H) : Opens enc Try.prog 49 k49 okS49 :=
  opens_struct (g := fun p => ⟨p.1, p.2.1, p.2.2.1, p.2.2.2⟩) (fun _ => rfl) Try.underlying49 (by kernel_rfl) (opensF_cons rfl (by kernel_rfl) (opens_slice Try.underlying34 (by kernel_rfl) (opens_int Try.underlying3)) (opensF_cons rfl (by kernel_rfl) (opens_int Try.underlying3) (opensF_cons rfl (by kernel_rfl) (opens_slice Try.underlying34 (by kernel_rfl) (opens_int Try.underlying3)) (opensF_last rfl (by kernel_rfl) (opens_int Try.underlying3)))))
def okS88 (x : S88) : Prop := okI x.f0 ∧ okI x.f1
theorem opens_t88 {H : Type} (enc : TypeId × Value → H) : Opens enc Try.prog 88 k88 okS88 :=
  opens_struct (g := fun p => ⟨p.1, p.2⟩) (fun _ => rfl) Try.underlying88 (by kernel_rfl) (opensF_cons rfl (by kernel_rfl) (opens_int Try.underlying3) (opensF_last rfl (by kernel_rfl) (opens_int Try.underlying3)))
def okS94 (x : S94) : Prop := okI x.f0 ∧ okI x.f1 ∧ okI x.f2 ∧ okI x.f3
theorem opens_t94 {H : Type} (enc : TypeId × Value → H) : Opens enc Try.prog 94 k94 okS94 :=
  opens_struct (g := fun p => ⟨p.1, p.2.1, p.2.2.1, p.2.2.2⟩) (fun _ => rfl) Try.underlying94 (by kernel_rfl) (opensF_cons rfl (by kernel_rfl) (opens_int Try.underlying3) (opensF_cons rfl (by kernel_rfl) (opens_int Try.underlying3) (opensF_cons rfl (by kernel_rfl) (opens_int Try.underlying3) (opensF_last rfl (by kernel_rfl) (opens_int Try.underlying3)))))
def okS98 (x : S98) : Prop := (okL okI) x.f0 ∧ okI x.f1
theorem opens_t98 {H : Type} (enc : TypeId × Value → H) : Opens enc Try.prog 98 k98 okS98 :=
  opens_struct (g := fun p => ⟨p.1, p.2⟩) (fun _ => rfl) Try.underlying98 (by kernel_rfl) (opensF_cons rfl (by kernel_rfl) (opens_slice Try.underlying34 (by kernel_rfl) (opens_int Try.underlying3)) (opensF_last rfl (by kernel_rfl) (opens_int Try.underlying3)))
end Go.Proofs.Ytdgeeokningcnaa.P
