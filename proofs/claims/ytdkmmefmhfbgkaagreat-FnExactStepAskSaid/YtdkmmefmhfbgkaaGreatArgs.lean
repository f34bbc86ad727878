/- What the laws' parameters read as. -/
import Derived.Test.YtdkmmefmhfbgkaaGreatF0
import Derived.Test.YtdkmmefmhfbgkaaGreatOpen
import Derived.KernelRfl
namespace Go.Proofs.YtdkmmefmhfbgkaaGreat.P
open Go.RowKit Go.Proofs.YtdkmmefmhfbgkaaGreatW.PrintWords Go.Proofs.YtdkmmefmhfbgkaaGreat.Open
def okS71 (x:S71):Prop:=okI x.f0∧okI x.f1∧okI x.f2∧okI x.f3
theorem opens_t71 {H:Type} (enc:TypeId × Value→H):Opens enc Tryz.prog 71 k71 okS71 :=
  opens_struct (g:=fun p=>⟨p.1,p.2.1,p.2.2.1,p.2.2.2⟩) (fun _=>rfl) Tryz.underlying71 (by kernel_rfl) (opensF_cons rfl (by kernel_rfl) (opens_int Tryz.underlying3) (opensF_cons rfl (by kernel_rfl) (opens_int Tryz.underlying3) (opensF_cons rfl (by kernel_rfl) (opens_int Tryz.underlying3) (opensF_last rfl (by kernel_rfl) (opens_int Tryz.underlying3)))))
def okS46 (x:S46):Prop:=(okL okI) x.f0∧okI x.f1∧(okL okI) x.f2∧okI x.f3
theorem opens_t46 {H:Type} (enc:TypeId × Value→H):Opens enc Tryz.prog 46 k46 okS46 :=
  opens_struct (g:=fun p=>⟨p.1,p.2.1,p.2.2.1,p.2.2.2⟩) (fun _=>rfl) Tryz.underlying46 (by kernel_rfl) (opensF_cons rfl (by kernel_rfl) (opens_slice Tryz.underlying28 (by kernel_rfl) (opens_int Tryz.underlying3)) (opensF_cons rfl (by kernel_rfl) (opens_int Tryz.underlying3) (opensF_cons rfl (by kernel_rfl) (opens_slice Tryz.underlying28 (by kernel_rfl) (opens_int Tryz.underlying3)) (opensF_last rfl (by kernel_rfl) (opens_int Tryz.underlying3)))))
def okS95 (x:S95):Prop:=okI x.f0∧okI x.f1
theorem opens_t95 {H:Type} (enc:TypeId × Value→H):Opens enc Tryz.prog 95 k95 okS95 :=
  opens_struct (g:=fun p=>⟨p.1,p.2⟩) (fun _=>rfl) Tryz.underlying95 (by kernel_rfl) (opensF_cons rfl (by kernel_rfl) (opens_int Tryz.underlying3) (opensF_last rfl (by kernel_rfl) (opens_int Tryz.underlying3)))
end Go.Proofs.YtdkmmefmhfbgkaaGreat.P
