/- Whatever the arguments: FnAsked returns true, and each argument reads as it did. Written by mytail.py out of the law's pure statement (text YtjgonpcajedkjaaGreatUFnAsked) and its walk. -/
import Derived.Test.YtjgonpcajedkjaaGreatRows
import Derived.Test.YtjgonpcajedkjaaGreatFX00e
import Derived.Test.YtjgonpcajedkjaaGreatArgs
import Derived.Test.YtjgonpcajedkjaaGreatUFnAsked
import Derived.WalkKit
import Derived.ProofKit
import Derived.OpenShut
import Derived.ChangeOld
import Derived.Below
import Derived.SizedLaws
import Derived.Carry
namespace Go.Proofs.YtjgonpcajedkjaaGreat.fnAsked
open Go.ChangeShapes Go.WideShapes Go.ChangeAt Go.RowKit Go.Proofs.YtjgonpcajedkjaaGreatW.PrintWords Go.Proofs.YtjgonpcajedkjaaGreat.P Go.Proofs.YtjgonpcajedkjaaGreat.Open
set_option linter.unusedVariables false
theorem own:ownKnob Tryz.prog.godebug=none:=by kernel_rfl
theorem laidOut:laidOutB Tryz.prog=true:=by kernel_rfl
set_option maxRecDepth 100000 in
theorem lifted (os:Os) (started:os.Started) (H:Type) (enc:TypeId × Value→H) :
    ReturnsInHanded {} Tryz.checked os 3 .any (Rows.fnAskedSpec.pre6 enc Tryz.prog Tryz.f3 Rows.fnAskedRow.domain false) (Rows.fnAskedSpec.post enc Tryz.prog Tryz.f3 false true false false):=by
  refine returnsInHanded_of_change_sized (C:=Tryz.checked) own started (by kernel_rfl) Tryz.func3
    (ChangeSpec.witness6 (enc:=enc) (C:=Tryz.checked) false ⟨#[],#[.slice none 0 0],[]⟩ 8 (by kernel_rfl) (by kernel_rfl) (by kernel_rfl) (by kernel_rfl)) ?_
  intro W base args ds gs before hval0 hW hcnd hsz0 _
  have hval:∀ (j:Nat) t v,Tryz.f3.params[j]?=some t→args[j]?=some v→Value.okWide Tryz.prog W .any base t v:=hval0
  have hW':=hW
  obtain ⟨p,q,hA0,hV,rfl,hfz,hnd⟩:=hW
  have hA:DataW.TrodAll enc Tryz.prog W 0 (fun _=>true) true Tryz.f3.params.toList args.toList ds p:=hA0
  rw [Tryz.params3] at hA hval
  obtain ⟨v0,vs0,d0,ds0,p0,q0,hargs,rfl,rfl,h0,r0⟩:=trodAll_cons hA
  obtain ⟨rfl,rfl,rfl⟩:=trodAll_nil r0
  obtain rfl:args=#[v0]:=by cases args;simp_all
  obtain ⟨rfl,rfl⟩:=trodVars_none hV
  obtain ⟨A0,n0,c0,rfl⟩:=okWide_slice Tryz.underlying22 (hval 0 22 v0 rfl rfl)
  have k0:=h0
  have lt0:∀ x∈p0,x.block < W.heap.size:=by obtain ⟨m,hm⟩:=k0;exact DataW.trod_lt m _ _ _ hm
  obtain ⟨x0,hx0,ok0⟩:∃ x,(Kd.slice 5 (Kd.int .u8)).K W x [.slice A0 n0 c0]∧(okL okU) x:=by obtain ⟨fuel,hf⟩:=h0;exact (opens_slice Tryz.underlying22 (by kernel_rfl) (opens_u8 Tryz.underlying5)) W fuel _ _ hf
  obtain ⟨A0',c0',e0,hc0,hr0⟩:=hx0
  simp only [List.cons.injEq,and_true,Value.slice.injEq] at e0
  obtain ⟨rfl,rfl,rfl⟩:=e0
  obtain ⟨kk,hk⟩:=U.FnAsked x0 ok0
  refine (laws_FnAsked.calls kk A0 c0 x0 true W hr0 hc0 hk).mono fun e W' ⟨he,bel0⟩=>?_
  have bel:Below W.heap.size W W':=bel0
  subst he
  exact ⟨_,rfl,_,_,_,[],_,[],hW',trodAll_mk1 (shut_bool Tryz.underlying4 _),(trodAll_cons_mk (Below.trod laidOut (by kernel_rfl) (of_decide_eq_true (by kernel_rfl)) k0 bel lt0) trodAll_mk0),rfl,bel.frame _,fun h=>by cases h⟩
theorem over:Rows.fnAskedRow.holds Tryz.pinned (OpenSpec.ofChange Rows.fnAskedSpec) :=
  OpenClaim.holds_of_wide 3 Tryz.f3 rfl rfl rfl rfl rfl rfl rfl ⟨rfl,rfl,rfl,rfl,rfl⟩ rfl rfl rfl rfl rfl (by kernel_rfl) Tryz.func3 (by kernel_rfl)
    (of_decide_eq_true (by kernel_rfl)) (by unfold Func.isWrapper;first|(rw [if_pos (by decide +kernel)];kernel_rfl)|(rw [if_neg (by decide +kernel)];exact ⟨rfl,rfl⟩))
    (fun os started H enc _=>lifted os started H enc)
theorem proved:Rows.FnAskedSaid:=over
#print axioms proved
end Go.Proofs.YtjgonpcajedkjaaGreat.fnAsked
namespace Go.Proofs.YtjgonpcajedkjaaGreat
theorem fnAsked_holds:Rows.FnAskedSaid:=fnAsked.proved
end Go.Proofs.YtjgonpcajedkjaaGreat
