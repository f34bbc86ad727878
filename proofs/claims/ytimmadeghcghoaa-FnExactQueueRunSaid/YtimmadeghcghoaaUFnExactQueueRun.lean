/- FnExactQueueRun, the pure side: the program's QueueRun and the reference's are one function. -/
import Derived.Test.YtimmadeghcghoaaFCFnExactQueueRun
import Derived.Test.YtimmadeghcghoaaUQueueRun
import Derived.Test.YtimmadeghcghoaaULInt
import Derived.Test.YtimmadeghcghoaaULBool
import Derived.Test.YtimmadeghcghoaaArgs
namespace Go.Proofs.Ytimmadeghcghoaa.U
open Go.RowKit Go.Proofs.YtimmadeghcghoaaW.PrintWords Go.Proofs.YtimmadeghcghoaaW.PrintLast Go.Proofs.Ytimmadeghcghoaa.P Go.Proofs.Ytimmadeghcghoaa.Open
theorem FnExactQueueRun : ∀ (x0 : List Int) (x1 : List Bool), (okL okI) x0 → (okL okB) x1 → ∃ k, laws_FnExactQueueRun.f k x0 x1 = some true := by
  intro a b _ _
  refine Ev.rounds ?_
  unfold laws_FnExactQueueRun.f
  refine ev_ite (fun _ => Ev.now _) (fun h1 => ev_ite (fun _ => Ev.now _) (fun h2 => ?_))
  have ha : a.length ≤ 1048576 := by omega
  have hb : b.length ≤ 1048576 := by omega
  have ta := toIntS a ha
  have tb := toBoolS b hb
  have hq := queueRun_len a b
  have sq := spec_queueRun a b ha hb
  have iq := impl_queueRun a b ha hb
  have e := eqIntS (queueRun a b) (by omega)
  obtain ⟨y, _, em⟩ := markBoolS b (1 + a.length) (by omega) (by omega) (by omega)
  refine Ev.bind ta (Ev.bind tb (Ev.bind sq (Ev.bind ta (Ev.bind tb (Ev.bind iq (Ev.bind e (ev_t rfl (Ev.bind ta (Ev.bind (eqIntS a (by omega)) (ev_t rfl (Ev.bind tb (Ev.bind (eqBoolS b (by omega)) (ev_t rfl ?_)))))))))))))
  refine Ev.bind (markIntS a 1 (by omega) (by omega) (by omega)) (Ev.bind em (ev_f (by show ¬ (1 + (a.length : Int) + 1 * b.length < 0); omega) (Ev.bind e ?_)))
  refine Ev.step (fun k => by rw [laws_FnExactQueueRun.j0]) (ev_f (by decide) ?_)
  have hh := heldIntS (queueRun a b) 1 (by omega) (by omega) (by omega)
  refine Ev.bind (markIntS (queueRun a b) 1 (by omega) (by omega) (by omega)) (Ev.bind hh (ev_f (by omega) (ev_t rfl (Ev.bind ta (Ev.bind tb (Ev.bind iq (Ev.bind e (ev_t rfl ?_))))))))
  exact Ev.bind hh (ev_f (by omega) (ev_t rfl (Ev.now _)))
end Go.Proofs.Ytimmadeghcghoaa.U
