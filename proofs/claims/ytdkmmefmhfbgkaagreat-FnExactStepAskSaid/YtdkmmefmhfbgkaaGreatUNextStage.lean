/- The stage that is next: the program's way and the reference's. -/
import Derived.Test.YtdkmmefmhfbgkaaGreatFX00b
import Derived.Test.YtdkmmefmhfbgkaaGreatFX00c
import Derived.Test.YtdkmmefmhfbgkaaGreatUStage
import Derived.Test.YtdkmmefmhfbgkaaGreatUControl
import Derived.Test.YtdkmmefmhfbgkaaGreatULongest
import Derived.Test.YtdkmmefmhfbgkaaGreatUWants
set_option linter.unusedVariables false
set_option linter.unusedSimpArgs false
namespace Go.Proofs.YtdkmmefmhfbgkaaGreat.U
open Go.RowKit Go.Proofs.YtdkmmefmhfbgkaaGreatW.PrintWords Go.Proofs.YtdkmmefmhfbgkaaGreatW.PrintLast Go.Proofs.YtdkmmefmhfbgkaaGreat.P
theorem nextStage_ex (l:List S69) (c:S50) (w:List S92) (h:l.length≤1048576) (h0:c.f0.length≤1048576) (h2:c.f2.length≤1048576) (hw:w.length≤1048576) :
    ∃ v:List Int,v.length≤l.length + 1∧Ev (fun k=>spec_NextStage.f k l c.f0 c.f1 c.f2 c.f3 w) v∧Ev (fun k=>impl_NextStage.f k l c.f0 c.f1 c.f2 c.f3 w) v:=by
  unfold spec_NextStage.f impl_NextStage.f
  have s0:=spec_longest w c.f0 hw h0
  have i0:=impl_longest w c.f0 hw h0
  obtain ⟨v,s1,i1⟩:=control_ex l c h h0 h2
  have s2:=spec_areWants l w h (by omega)
  have i2:=impl_areWants l w h (by omega)
  have s3:=spec_addTo l [longest w c.f0] h (by simp)
  have i3:=impl_addTo l [longest w c.f0] h (by simp)
  have hl:=addV_len l [longest w c.f0]
  rw [List.length_singleton] at hl
  by_cases e:longest w c.f0=0
  · exact ⟨[],by simp,Ev.bind s0 (ev_t e (Ev.now _)),Ev.bind i0 (ev_t e (Ev.now _))⟩
  · cases v with
    | false=>exact ⟨[],by simp,Ev.bind s0 (ev_f e (Ev.bind s1 (ev_f (by decide) (Ev.now _)))),Ev.bind i0 (ev_f e (Ev.bind i1 (ev_f (by decide) (Ev.now _))))⟩
    | true =>
      by_cases a:areW l w=true
      · exact ⟨addV l [longest w c.f0],by omega,Ev.bind s0 (ev_f e (Ev.bind s1 (ev_t rfl (Ev.bind s2 (ev_t a (Ev.bind s3 (Ev.now _))))))),Ev.bind i0 (ev_f e (Ev.bind i1 (ev_t rfl (Ev.bind i2 (ev_t a (Ev.bind i3 (Ev.now _)))))))⟩
      · exact ⟨[],by simp,Ev.bind s0 (ev_f e (Ev.bind s1 (ev_t rfl (Ev.bind s2 (ev_f a (Ev.now _)))))),Ev.bind i0 (ev_f e (Ev.bind i1 (ev_t rfl (Ev.bind i2 (ev_f a (Ev.now _))))))⟩
end Go.Proofs.YtdkmmefmhfbgkaaGreat.U
