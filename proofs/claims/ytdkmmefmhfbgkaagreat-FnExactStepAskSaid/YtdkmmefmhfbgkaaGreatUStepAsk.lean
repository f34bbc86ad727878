/- A second of asking: the program's way and the reference's. -/
import Derived.Test.YtdkmmefmhfbgkaaGreatFX00b
import Derived.Test.YtdkmmefmhfbgkaaGreatFX00c
import Derived.Test.YtdkmmefmhfbgkaaGreatFX00d
import Derived.Test.YtdkmmefmhfbgkaaGreatULgts
import Derived.Test.YtdkmmefmhfbgkaaGreatUMustChange
import Derived.Test.YtdkmmefmhfbgkaaGreatUWants
set_option linter.unusedVariables false
set_option linter.unusedSimpArgs false
namespace Go.Proofs.YtdkmmefmhfbgkaaGreat.U
open Go.RowKit Go.Proofs.YtdkmmefmhfbgkaaGreatW.PrintWords Go.Proofs.YtdkmmefmhfbgkaaGreatW.PrintLast Go.Proofs.YtdkmmefmhfbgkaaGreat.P
/-- Of the first i wants those whose path shows no green, a second older. -/
def ww (l:List S69) (g:List Int) (q:List S92):Nat→List S92
  | 0=>[]
  | i + 1=>if rd g (impl_FindPath.ix (rd_T92 q (i:Int)).f0 l 0)=1 then ww l g q i else ww l g q i ++ [⟨(rd_T92 q (i:Int)).f0,min 100000 ((rd_T92 q (i:Int)).f1 + 1)⟩]
theorem ww_t {l:List S69} {g:List Int} {q:List S92} {i:Nat} (h:rd g (impl_FindPath.ix (rd_T92 q (i:Int)).f0 l 0)=1):ww l g q (i + 1)=ww l g q i:=by rw [ww,if_pos h]
theorem ww_f {l:List S69} {g:List Int} {q:List S92} {i:Nat} (h:¬ rd g (impl_FindPath.ix (rd_T92 q (i:Int)).f0 l 0)=1):ww l g q (i + 1)=ww l g q i ++ [⟨(rd_T92 q (i:Int)).f0,min 100000 ((rd_T92 q (i:Int)).f1 + 1)⟩]:=by rw [ww,if_neg h]
theorem ww_len (l:List S69) (g:List Int) (q:List S92):∀ i,(ww l g q i).length≤i
  | 0=>by simp [ww]
  | i + 1=>by
    have ih:=ww_len l g q i
    by_cases h:rd g (impl_FindPath.ix (rd_T92 q (i:Int)).f0 l 0)=1
    · rw [ww_t h];omega
    · rw [ww_f h,List.length_append];simp;omega
theorem areW_iff {l:List S69} {q:List S92}:areW l q=true↔(∀ i,i < q.length→wStep l q i)∧areP l=true:=by
  unfold areW
  rw [Bool.and_eq_true]
  exact and_congr_left fun _=>bo_iff
theorem spec_wait {l:List S69} {g:List Int} {q:List S92} (h:areW l q=true) (hl:l.length≤1048576) (hg:g.length=l.length) (hq:q.length≤1048576) (a:List Int) (b:Int) (c:List Int) (d:Int) :
    Ev (fun k=>spec_StepAsk.l0 k l q [] g 0 a b c d) (a,b,c,d,ww l g q q.length):=by
  refine ev_for0 (F:=fun k i=>spec_StepAsk.l0 k l q (ww l g q i) g (i:Int) a b c d) q.length (fun i hi ih=>?_) ?_
  · obtain ⟨p1,p2,_⟩:=(areW_iff.1 h).1 i hi
    have p3:impl_FindPath.ix (rd_T92 q (i:Int)).f0 l 0 < (g.length:Int):=by rw [hg];exact (fp_bound _ l).2
    have hw:=ww_len l g q i
    refine Ev.step (fun k=>by rw [spec_StepAsk.l0]) (ev_t (by omega) (ev_t (by omega) (Ev.bind (spec_findPath l _ (by omega)) (ev_t p1 (ev_t p3 ?_)))))
    rw [w_succ hi (by omega)]
    by_cases e:rd g (impl_FindPath.ix (rd_T92 q (i:Int)).f0 l 0)=1
    · rw [ww_t e] at ih
      exact ev_t e ih
    · rw [ww_f e] at ih
      refine ev_f e ?_
      rw [w64 (n:=(rd_T92 q (i:Int)).f1 + 1) (by omega) (by omega)]
      exact ev_call (spec_Min_eq _ _) (ev_t (by omega) ih)
  · refine Ev.step (fun k=>by rw [spec_StepAsk.l0]) ?_
    exact ev_f (by omega) (Ev.now _)
theorem impl_wait {l:List S69} {y:S50} {q:List S92} (w:CW l y) (hy:ctl l y=true) (h:areW l q=true) (hq:q.length≤1048576) :
    Ev (fun k=>impl_waited.f k l y.f0 y.f1 y.f2 y.f3 q) (ww l (lgts l y l.length) q q.length):=by
  have hl:=w.hl
  have hg:(lgts l y l.length).length=l.length:=lgts_len _ _ _
  unfold impl_waited.f
  refine Ev.bind (impl_lgts w hy) ?_
  generalize lgts l y l.length=g at hg
  refine ev_for0 (F:=fun k i=>impl_waited.l0 k l (ww l g q i) g q (q.length:Int) (i:Int)) q.length (fun i hi ih=>?_) ?_
  · obtain ⟨p1,p2,_⟩:=(areW_iff.1 h).1 i hi
    have p3:impl_FindPath.ix (rd_T92 q (i:Int)).f0 l 0 < (g.length:Int):=by rw [hg];exact (fp_bound _ l).2
    have hw:=ww_len l g q i
    refine Ev.step (fun k=>by rw [impl_waited.l0]) (ev_t (by omega) (ev_t (by omega) (ev_t (by omega) (ev_call (impl_findPath l _) (ev_f (Int.not_lt.2 p1) (ev_f (Int.not_le.2 p3) (ev_t p1 (ev_t p3 ?_))))))))
    rw [w_succ hi (by omega)]
    by_cases e:rd g (impl_FindPath.ix (rd_T92 q (i:Int)).f0 l 0)=1
    · rw [ww_t e] at ih
      exact ev_t e ih
    · rw [ww_f e] at ih
      refine ev_f e (ev_t (by omega) ?_)
      rw [w64 (n:=(rd_T92 q (i:Int)).f1 + 1) (by omega) (by omega),mn_eq,Int.min_comm]
      exact ih
  · refine Ev.step (fun k=>by rw [impl_waited.l0]) ?_
    exact ev_f (by omega) (Ev.now _)
theorem asked_ex {l:List S69} {c:S50} (w:CW l c) (q:List S92) (hq:q.length≤1048576) (hl:l.length + 1≤1048576) (h:ctl l c=true) :
    ∃ y:S50,CW l y∧ctl l y=true∧Ev (fun k=>impl_asked.f k l c.f0 c.f1 c.f2 c.f3 q) (y.f0,y.f1,y.f2,y.f3) ∧
      ∀ r,Ev (fun k=>spec_StepAsk.j1 k l q [] y.f0 y.f1 y.f2 y.f3) r→Ev (fun k=>spec_StepAsk.j0 k l q [] false c.f0 c.f1 c.f2 c.f3) r:=by
  obtain ⟨m,sm,im⟩:=mustChange_ex l c q w.hl w.h0 w.h2 hq
  obtain ⟨s,hs,sn,in_⟩:=nextStage_ex l c q w.hl w.h0 w.h2 hq
  have st:=spec_tick w
  have it:=impl_tick w
  have lt:=tickV_len w
  have sa:=spec_ask w s (by omega)
  have ia:=impl_ask w s (by omega)
  have la:=askV_len w s (by omega)
  unfold impl_asked.f
  cases m with
  | true =>
    refine ⟨⟨(askV l c s).1,(askV l c s).2.1,(askV l c s).2.2.1,(askV l c s).2.2.2.1⟩,⟨w.hl,la.1,la.2⟩,ask_ctl s h,Ev.bind im (ev_t rfl (Ev.bind in_ (Ev.bind ia (Ev.now _)))),fun r hr=>?_⟩
    exact Ev.step (fun k=>by rw [spec_StepAsk.j0]) (ev_f Bool.false_ne_true (Ev.bind st (Ev.bind sm (ev_t rfl (Ev.bind sn (Ev.bind sa hr))))))
  | false =>
    refine ⟨⟨(tickV l c).1,(tickV l c).2.1,(tickV l c).2.2.1,(tickV l c).2.2.2⟩,⟨w.hl,lt.1,lt.2⟩,tick_ctl h,Ev.bind im (ev_f Bool.false_ne_true (Ev.bind it (Ev.now _))),fun r hr=>?_⟩
    exact Ev.step (fun k=>by rw [spec_StepAsk.j0]) (ev_f Bool.false_ne_true (Ev.bind st (Ev.bind sm (ev_f Bool.false_ne_true hr))))
theorem wclone (q:List S92) (h:q.length≤1048576):impl_Want_62.f q=some q:=by
  unfold impl_Want_62.f
  rw [if_pos (by omega)]
theorem step_ex {l:List S69} {c:S50} (w:CW l c) (q:List S92) (hq:q.length≤1048576) (hl:l.length + c.f0.length≤1048576) :
    ∃ (y:S50) (v:List S92),CW l y∧v.length≤q.length∧Ev (fun k=>spec_StepAsk.f k l c.f0 c.f1 c.f2 c.f3 q) (y.f0,y.f1,y.f2,y.f3,v)∧Ev (fun k=>impl_StepAsk.f k l c.f0 c.f1 c.f2 c.f3 q) (y.f0,y.f1,y.f2,y.f3,v) ∧
      (ctl l c=true∧areW l q=true→ctl l y=true∧v=ww l (lgts l y l.length) q q.length)∧(¬ (ctl l c=true∧areW l q=true)→y=c∧v=q):=by
  have no1:Ev (fun k=>spec_StepAsk.j0 k l q [] true c.f0 c.f1 c.f2 c.f3) (c.f0,c.f1,c.f2,c.f3,q):=by
    have z:([]:List S92).length + q.length < 8796093022208:=by rw [List.length_nil];omega
    exact Ev.step (fun k=>by rw [spec_StepAsk.j0]) (ev_t rfl (ev_call (spec_copyC w) (ev_t z (ev_now rfl))))
  have no2:Ev (fun k=>impl_StepAsk.j0 k l q true c.f0 c.f1 c.f2 c.f3) (c.f0,c.f1,c.f2,c.f3,q):=by
    refine Ev.step (fun k=>by rw [impl_StepAsk.j0]) (ev_t rfl (ev_call (impl_cloneC w) ?_))
    refine ev_call (wclone q hq) ?_
    exact Ev.now _
  unfold spec_StepAsk.f impl_StepAsk.f
  have sw:=spec_areWants l q w.hl (by omega)
  have iw:=impl_areWants l q w.hl (by omega)
  by_cases hc:ctl l c=true
  · by_cases ha:areW l q=true
    · have p0:=(ctl_iff.1 hc).1
      obtain ⟨y,wy,cy,iy,sy⟩:=asked_ex w q hq (by omega) hc
      refine ⟨y,ww l (lgts l y l.length) q q.length,wy,ww_len _ _ _ _,?_,?_,fun _=>⟨cy,rfl⟩,fun n=>absurd ⟨hc,ha⟩ n⟩
      · refine ev_some (Ev.bind (spec_ctl w) (ev_t hc (Ev.bind sw ?_)))
        rw [ha]
        exact sy _ (Ev.step (fun k=>by rw [spec_StepAsk.j1]) (Ev.bind (spec_lgts wy cy) (spec_wait ha w.hl (lgts_len _ _ _) hq _ _ _ _)))
      · refine Ev.bind (impl_ctl w) (ev_t hc (Ev.bind iw ?_))
        rw [ha]
        show Ev (fun k=>impl_StepAsk.j0 k l q false c.f0 c.f1 c.f2 c.f3) _
        refine Ev.step (fun k=>by rw [impl_StepAsk.j0]) (ev_f Bool.false_ne_true (Ev.bind iy ?_))
        refine Ev.bind (impl_wait wy cy ha hq) ?_
        exact Ev.now _
    · refine ⟨c,q,w,Nat.le_refl _,ev_some (Ev.bind (spec_ctl w) (ev_t hc (Ev.bind sw ?_))),Ev.bind (impl_ctl w) (ev_t hc (Ev.bind iw ?_)),fun n=>absurd n.2 ha,fun _=>⟨rfl,rfl⟩⟩
      · rw [Bool.eq_false_iff.2 ha];exact no1
      · rw [Bool.eq_false_iff.2 ha];exact no2
  · exact ⟨c,q,w,Nat.le_refl _,ev_some (Ev.bind (spec_ctl w) (ev_f hc no1)),Ev.bind (impl_ctl w) (ev_f hc no2),fun n=>absurd n.1 hc,fun _=>⟨rfl,rfl⟩⟩
end Go.Proofs.YtdkmmefmhfbgkaaGreat.U
