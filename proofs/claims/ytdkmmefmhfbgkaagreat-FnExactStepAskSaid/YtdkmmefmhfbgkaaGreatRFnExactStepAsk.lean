/- Whatever the arguments: FnExactStepAsk returns true, and each argument reads as it did. Written by mytail.py out of the law's pure statement (text YtdkmmefmhfbgkaaGreatUFnExactStepAsk) and its walk. -/
import Derived.Test.YtdkmmefmhfbgkaaGreatRows
import Derived.Test.YtdkmmefmhfbgkaaGreatFX00e
import Derived.Test.YtdkmmefmhfbgkaaGreatArgs
import Derived.Test.YtdkmmefmhfbgkaaGreatUFnExactStepAsk
import Derived.WalkKit
import Derived.ProofKit
import Derived.OpenShut
import Derived.ChangeOld
import Derived.Below
import Derived.SizedLaws
import Derived.Carry
namespace Go.Proofs.YtdkmmefmhfbgkaaGreat.fnExactStepAsk
open Go.ChangeShapes Go.WideShapes Go.ChangeAt Go.RowKit Go.Proofs.YtdkmmefmhfbgkaaGreatW.PrintWords Go.Proofs.YtdkmmefmhfbgkaaGreat.P Go.Proofs.YtdkmmefmhfbgkaaGreat.Open
set_option linter.unusedVariables false
theorem own:ownKnob Tryz.prog.godebug=none:=by kernel_rfl
theorem laidOut:laidOutB Tryz.prog=true:=by kernel_rfl
set_option maxRecDepth 100000 in
theorem lifted (os:Os) (started:os.Started) (H:Type) (enc:TypeId × Value→H) :
    ReturnsInHanded {} Tryz.checked os 4 .any (Rows.fnExactStepAskSpec.pre6 enc Tryz.prog Tryz.f4 Rows.fnExactStepAskRow.domain false) (Rows.fnExactStepAskSpec.post enc Tryz.prog Tryz.f4 false true false false):=by
  refine returnsInHanded_of_change_sized (C:=Tryz.checked) own started (by kernel_rfl) Tryz.func4
    (ChangeSpec.witness6 (enc:=enc) (C:=Tryz.checked) false ⟨#[],#[.slice none 0 0,.agg #[.slice none 0 0,.int .i64 0,.slice none 0 0,.int .i64 0],.slice none 0 0],[]⟩ 8 (by kernel_rfl) (by kernel_rfl) (by kernel_rfl) (by kernel_rfl)) ?_
  intro W base args ds gs before hval0 hW hcnd hsz0 _
  have hval:∀ (j:Nat) t v,Tryz.f4.params[j]?=some t→args[j]?=some v→Value.okWide Tryz.prog W .any base t v:=hval0
  have hW':=hW
  obtain ⟨p,q,hA0,hV,rfl,hfz,hnd⟩:=hW
  have hA:DataW.TrodAll enc Tryz.prog W 0 (fun _=>true) true Tryz.f4.params.toList args.toList ds p:=hA0
  rw [Tryz.params4] at hA hval
  obtain ⟨v0,vs0,d0,ds0,p0,q0,hargs,rfl,rfl,h0,r0⟩:=trodAll_cons hA
  obtain ⟨v1,vs1,d1,ds1,p1,q1,rfl,rfl,rfl,h1,r1⟩:=trodAll_cons r0
  obtain ⟨v2,vs2,d2,ds2,p2,q2,rfl,rfl,rfl,h2,r2⟩:=trodAll_cons r1
  obtain ⟨rfl,rfl,rfl⟩:=trodAll_nil r2
  obtain rfl:args=#[v0,v1,v2]:=by cases args;simp_all
  obtain ⟨rfl,rfl⟩:=trodVars_none hV
  obtain ⟨A0,n0,c0,rfl⟩:=okWide_slice Tryz.underlying22 (hval 0 22 v0 rfl rfl)
  have k0:=h0
  have lt0:∀ x∈p0,x.block < W.heap.size:=by obtain ⟨m,hm⟩:=k0;exact DataW.trod_lt m _ _ _ hm
  obtain ⟨x0,hx0,ok0⟩:∃ x,(Kd.slice 71 k71).K W x [.slice A0 n0 c0]∧(okL okS71) x:=by obtain ⟨fuel,hf⟩:=h0;exact (opens_slice Tryz.underlying22 (by kernel_rfl) (opens_t71 enc)) W fuel _ _ hf
  obtain ⟨A0',c0',e0,hc0,hr0⟩:=hx0
  simp only [List.cons.injEq,and_true,Value.slice.injEq] at e0
  obtain ⟨rfl,rfl,rfl⟩:=e0
  obtain ⟨cs1,rfl,_⟩:=okWide_struct Tryz.underlying46 (hval 1 46 v1 rfl rfl)
  have k1:=h1
  have lt1:∀ x∈p1,x.block < W.heap.size:=by obtain ⟨m,hm⟩:=k1;exact DataW.trod_lt m _ _ _ hm
  obtain ⟨x1,hx1,ok1⟩:∃ x,k46.K W x cs1.toList∧okS46 x:=by obtain ⟨fuel,hf⟩:=h1;exact opens_t46 enc W fuel _ _ hf
  obtain ⟨A1_0,c1_0,A1_2,c1_2,e1,hc1_0,hr1_0,hc1_2,hr1_2⟩:=k46_open hx1
  obtain rfl:cs1=#[.slice A1_0 x1.f0.length c1_0,.int .i64 x1.f1,.slice A1_2 x1.f2.length c1_2,.int .i64 x1.f3]:=by cases cs1;simpa using e1
  obtain ⟨A2,n2,c2,rfl⟩:=okWide_slice Tryz.underlying47 (hval 2 47 v2 rfl rfl)
  have k2:=h2
  have lt2:∀ x∈p2,x.block < W.heap.size:=by obtain ⟨m,hm⟩:=k2;exact DataW.trod_lt m _ _ _ hm
  obtain ⟨x2,hx2,ok2⟩:∃ x,(Kd.slice 95 k95).K W x [.slice A2 n2 c2]∧(okL okS95) x:=by obtain ⟨fuel,hf⟩:=h2;exact (opens_slice Tryz.underlying47 (by kernel_rfl) (opens_t95 enc)) W fuel _ _ hf
  obtain ⟨A2',c2',e2,hc2,hr2⟩:=hx2
  simp only [List.cons.injEq,and_true,Value.slice.injEq] at e2
  obtain ⟨rfl,rfl,rfl⟩:=e2
  obtain ⟨kk,hk⟩:=U.FnExactStepAsk x0 x1 x2 ok0 ok1 ok2
  refine (laws_FnExactStepAsk.calls kk A0 c0 x0 A1_0 c1_0 x1.f0 x1.f1 A1_2 c1_2 x1.f2 x1.f3 A2 c2 x2 true W hr0 hc0 hr1_0 hc1_0 hr1_2 hc1_2 hr2 hc2 hk).mono fun e W' ⟨he,bel0⟩=>?_
  have bel:Below W.heap.size W W':=bel0
  subst he
  exact ⟨_,rfl,_,_,_,[],_,[],hW',trodAll_mk1 (shut_bool Tryz.underlying4 _),(trodAll_cons_mk (Below.trod laidOut (by kernel_rfl) (of_decide_eq_true (by kernel_rfl)) k0 bel lt0) (trodAll_cons_mk (Below.trod laidOut (by kernel_rfl) (of_decide_eq_true (by kernel_rfl)) k1 bel lt1) (trodAll_cons_mk (Below.trod laidOut (by kernel_rfl) (of_decide_eq_true (by kernel_rfl)) k2 bel lt2) trodAll_mk0))),rfl,bel.frame _,fun h=>by cases h⟩
theorem over:Rows.fnExactStepAskRow.holds Tryz.pinned (OpenSpec.ofChange Rows.fnExactStepAskSpec) :=
  OpenClaim.holds_of_wide 4 Tryz.f4 rfl rfl rfl rfl rfl rfl rfl ⟨rfl,rfl,rfl,rfl,rfl⟩ rfl rfl rfl rfl rfl (by kernel_rfl) Tryz.func4 (by kernel_rfl)
    (of_decide_eq_true (by kernel_rfl)) (by unfold Func.isWrapper;first|(rw [if_pos (by decide +kernel)];kernel_rfl)|(rw [if_neg (by decide +kernel)];exact ⟨rfl,rfl⟩))
    (fun os started H enc _=>lifted os started H enc)
theorem proved:Rows.FnExactStepAskSaid:=over
#print axioms proved
end Go.Proofs.YtdkmmefmhfbgkaaGreat.fnExactStepAsk
namespace Go.Proofs.YtdkmmefmhfbgkaaGreat
theorem fnExactStepAsk_holds:Rows.FnExactStepAskSaid:=fnExactStepAsk.proved
end Go.Proofs.YtdkmmefmhfbgkaaGreat
