/- What a second of asking leaves: the program's way alone, and what is told of it. -/
import Derived.Test.YtjgonpcajedkjaaGreatFX00c
import Derived.Test.YtjgonpcajedkjaaGreatFX00d
import Derived.Test.YtjgonpcajedkjaaGreatFX00e
import Derived.Test.YtjgonpcajedkjaaGreatUStepAsk
import Derived.Test.YtjgonpcajedkjaaGreatUStage
import Derived.Test.YtjgonpcajedkjaaGreatULongest
import Derived.Test.YtjgonpcajedkjaaGreatUAddWant
import Derived.Test.YtjgonpcajedkjaaGreatUGids
set_option linter.unusedVariables false
set_option linter.unusedSimpArgs false
namespace Go.Proofs.YtjgonpcajedkjaaGreat.U
open Go.RowKit Go.Proofs.YtjgonpcajedkjaaGreatW.PrintWords Go.Proofs.YtjgonpcajedkjaaGreatW.PrintLast Go.Proofs.YtjgonpcajedkjaaGreat.P
theorem nextI {l:List S58} {c:S27} (w:CW l c) (q:List S39) (hq:q.length≤1048576) :
    ∃ s:List Int,s.length≤l.length + 1∧(s=[]∨s=addV l [longest q c.f0])∧Ev (fun k=>impl_NextStage.f k l c.f0 c.f1 c.f2 c.f3 q) s:=by
  unfold impl_NextStage.f
  have i0:=impl_longest q c.f0 hq w.h0
  have i1:=impl_ctl w
  have i2:=impl_areWants l q w.hl (by omega)
  have i3:=impl_addTo l [longest q c.f0] w.hl (by simp)
  have hl:=addV_len l [longest q c.f0]
  rw [List.length_singleton] at hl
  by_cases e:longest q c.f0=0
  · exact ⟨[],by simp,.inl rfl,Ev.bind i0 (ev_t e (Ev.now _))⟩
  · by_cases hc:ctl l c=true
    · by_cases ha:areW l q=true
      · exact ⟨addV l [longest q c.f0],by omega,.inr rfl,Ev.bind i0 (ev_f e (Ev.bind i1 (ev_t hc (Ev.bind i2 (ev_t ha (Ev.bind i3 (Ev.now _)))))))⟩
      · exact ⟨[],by simp,.inl rfl,Ev.bind i0 (ev_f e (Ev.bind i1 (ev_t hc (Ev.bind i2 (ev_f ha (Ev.now _))))))⟩
    · exact ⟨[],by simp,.inl rfl,Ev.bind i0 (ev_f e (Ev.bind i1 (ev_f hc (Ev.now _))))⟩
theorem mustI {l:List S58} {c:S27} (w:CW l c) (q:List S39) (hq:q.length≤1048576) :
    ∃ (m:Bool) (s:List Int),s.length≤l.length + 1∧Ev (fun k=>impl_NextStage.f k l c.f0 c.f1 c.f2 c.f3 q) s∧Ev (fun k=>impl_MustChange.f k l c.f0 c.f1 c.f2 c.f3 q) m∧(m=true→endV l c=true∧s=addV l [longest q c.f0]):=by
  obtain ⟨s,hs,hv,i2⟩:=nextI w q hq
  unfold impl_MustChange.f
  have i1:=impl_end w
  by_cases e:endV l c=true
  · by_cases z:s.length=0
    · exact ⟨false,s,hs,i2,Ev.bind i1 (ev_t e (Ev.bind i2 (ev_t z (Ev.now _)))),fun hh=>Bool.noConfusion hh⟩
    · have hs':s=addV l [longest q c.f0]:=hv.resolve_left (fun h=>z (by rw [h];rfl))
      by_cases g:60≤c.f1
      · exact ⟨true,s,hs,i2,Ev.bind i1 (ev_t e (Ev.bind i2 (ev_f z (ev_t g (Ev.now _))))),fun _=>⟨e,hs'⟩⟩
      · exact ⟨_,s,hs,i2,Ev.bind i1 (ev_t e (Ev.bind i2 (ev_f z (ev_f g (Ev.now _))))),fun _=>⟨e,hs'⟩⟩
  · exact ⟨false,s,hs,i2,Ev.bind i1 (ev_f e (Ev.now _)),fun hh=>Bool.noConfusion hh⟩
theorem askedI {l:List S58} {c:S27} (w:CW l c) (q:List S39) (hq:q.length≤1048576) (hl:l.length + 1≤1048576) (h:ctl l c=true) :
    ∃ y:S27,CW l y∧ctl l y=true∧Ev (fun k=>impl_asked.f k l c.f0 c.f1 c.f2 c.f3 q) (y.f0,y.f1,y.f2,y.f3):=by
  obtain ⟨m,s,hs,in_,im,_⟩:=mustI w q hq
  have it:=impl_tick w
  have lt:=tickV_len w
  have ia:=impl_ask w s (by omega)
  have la:=askV_len w s (by omega)
  unfold impl_asked.f
  cases m with
  | true=>exact ⟨⟨(askV l c s).1,(askV l c s).2.1,(askV l c s).2.2.1,(askV l c s).2.2.2.1⟩,⟨w.hl,la.1,la.2⟩,ask_ctl s h,Ev.bind im (ev_t rfl (Ev.bind in_ (Ev.bind ia (Ev.now _))))⟩
  | false=>exact ⟨⟨(tickV l c).1,(tickV l c).2.1,(tickV l c).2.2.1,(tickV l c).2.2.2⟩,⟨w.hl,lt.1,lt.2⟩,tick_ctl h,Ev.bind im (ev_f Bool.false_ne_true (Ev.bind it (Ev.now _)))⟩
theorem stepI {l:List S58} {c:S27} (w:CW l c) (q:List S39) (hq:q.length≤1048576) (hl:l.length + 1≤1048576) :
    ∃ (y:S27) (v:List S39),CW l y∧v.length≤q.length∧Ev (fun k=>impl_StepAsk.f k l c.f0 c.f1 c.f2 c.f3 q) (y.f0,y.f1,y.f2,y.f3,v) ∧
      (ctl l c=true∧areW l q=true→ctl l y=true∧v=ww l (lgts l y l.length) q q.length)∧(¬ (ctl l c=true∧areW l q=true)→y=c∧v=q):=by
  have no2:Ev (fun k=>impl_StepAsk.j0 k l q true c.f0 c.f1 c.f2 c.f3) (c.f0,c.f1,c.f2,c.f3,q):=by
    refine Ev.step (fun k=>by rw [impl_StepAsk.j0]) (ev_t rfl (ev_call (impl_cloneC w) ?_))
    refine ev_call (wclone q hq) ?_
    exact Ev.now _
  unfold impl_StepAsk.f
  have iw:=impl_areWants l q w.hl (by omega)
  by_cases hc:ctl l c=true
  · by_cases ha:areW l q=true
    · obtain ⟨y,wy,cy,iy⟩:=askedI w q hq hl hc
      refine ⟨y,ww l (lgts l y l.length) q q.length,wy,ww_len _ _ _ _,?_,fun _=>⟨cy,rfl⟩,fun n=>absurd ⟨hc,ha⟩ n⟩
      refine Ev.bind (impl_ctl w) (ev_t hc (Ev.bind iw ?_))
      rw [ha]
      show Ev (fun k=>impl_StepAsk.j0 k l q false c.f0 c.f1 c.f2 c.f3) _
      refine Ev.step (fun k=>by rw [impl_StepAsk.j0]) (ev_f Bool.false_ne_true (Ev.bind iy ?_))
      refine Ev.bind (impl_wait wy cy ha hq) ?_
      exact Ev.now _
    · refine ⟨c,q,w,Nat.le_refl _,Ev.bind (impl_ctl w) (ev_t hc (Ev.bind iw ?_)),fun n=>absurd n.2 ha,fun _=>⟨rfl,rfl⟩⟩
      rw [Bool.eq_false_iff.2 ha];exact no2
  · exact ⟨c,q,w,Nat.le_refl _,Ev.bind (impl_ctl w) (ev_f hc no2),fun n=>absurd n.1 hc,fun _=>⟨rfl,rfl⟩⟩
theorem iput_mem {x a:Int} {s:List Int} (h:x∈s):x∈iput a s:=by
  unfold iput
  split
  · exact h
  · unfold iins
    rw [← List.take_append_drop (ipos a s) s] at h
    rw [List.mem_append,List.mem_append]
    rcases List.mem_append.1 h with h1|h1
    · exact .inl (.inl h1)
    · exact .inr h1
theorem stg_mem {l:List S58} {s:List Int} {x:Int} (h:x∈s):∀ i,x∈stg l s i
  | 0=>h
  | i + 1=>by
    have ih:=stg_mem (l:=l) h i
    by_cases e:togeth l (iput (rd_T58 l (i:Int)).f0 (stg l s i))=true
    · rw [stg_t e];exact iput_mem ih
    · rw [stg_f e];exact ih
theorem addV_mem {l:List S58} {s:List Int} {x:Int} (h:x∈s):x∈addV l s:=by
  unfold addV
  split
  · exact stg_mem h _
  · exact h
theorem ww_mem (l:List S58) (g:List Int) (q:List S39):∀ (n:Nat) (x:S39),x∈ww l g q n→∃ j:Nat,j < n∧x.f0=(rd_T39 q (j:Int)).f0∧¬ rd g (impl_FindPath.ix x.f0 l 0)=1
  | 0,x,h=>absurd h (by simp [ww])
  | n + 1,x,h=>by
    by_cases e:rd g (impl_FindPath.ix (rd_T39 q (n:Int)).f0 l 0)=1
    · rw [ww_t e] at h
      obtain ⟨j,hj,r⟩:=ww_mem l g q n x h
      exact ⟨j,by omega,r⟩
    · rw [ww_f e] at h
      rcases List.mem_append.1 h with h1|h1
      · obtain ⟨j,hj,r⟩:=ww_mem l g q n x h1
        exact ⟨j,by omega,r⟩
      · rw [List.mem_singleton.1 h1]
        exact ⟨n,by omega,rfl,e⟩
theorem ww_ok {l:List S58} {g:List Int} {q:List S39} (h:areW l q=true):∀ n,n≤q.length→∀ i,i < (ww l g q n).length→wStep l (ww l g q n) i
  | 0,_,i,hi=>absurd hi (by simp [ww])
  | n + 1,hn,i,hi=>by
    have ih:=ww_ok (g:=g) h n (by omega)
    by_cases e:rd g (impl_FindPath.ix (rd_T39 q (n:Int)).f0 l 0)=1
    · rw [ww_t e] at hi ⊢
      exact ih i hi
    · rw [ww_f e] at hi ⊢
      rw [List.length_append,List.length_singleton] at hi
      obtain ⟨p1,p2,_⟩:=(areW_iff.1 h).1 n (by omega)
      have mem:=ww_mem l g q n
      generalize ww l g q n=v at ih mem hi
      have left:∀ j:Nat,j < v.length→∀ x:S39,rd_T39 (v ++ [x]) (j:Int)=rd_T39 v (j:Int):=fun j hj x=>by
        rw [rd39 _ j (by rw [List.length_append];omega),rd39 _ j hj,List.getElem_append_left hj]
      rcases Nat.lt_or_ge i v.length with c|c
      · obtain ⟨a1,a2,a3⟩:=ih i c
        unfold wStep
        rw [left i c]
        refine ⟨a1,a2,fun h0=>?_⟩
        have a4:=a3 h0
        rw [show (i:Int) - 1=((i - 1:Nat):Int) by omega] at a4 ⊢
        rw [left (i - 1) (by omega)]
        exact a4
      · obtain rfl:i=v.length:=by omega
        have e1:∀ x:S39,rd_T39 (v ++ [x]) ((v.length:Nat):Int)=x:=fun x=>by
          rw [rd39 _ v.length (by simp),List.getElem_append_right (Nat.le_refl _)]
          simp
        unfold wStep
        rw [e1]
        refine ⟨p1,?_,fun h0=>?_⟩
        · show 0≤min 100000 ((rd_T39 q (n:Int)).f1 + 1)∧min 100000 ((rd_T39 q (n:Int)).f1 + 1)≤100000
          omega
        · rw [show (v.length:Int) - 1=((v.length - 1:Nat):Int) by omega,left (v.length - 1) (by omega)]
          obtain ⟨j,hj,e2,_⟩:=mem (rd_T39 v ((v.length - 1:Nat):Int)) (by rw [rd39 _ (v.length - 1) (by omega)];exact List.getElem_mem _)
          rw [e2]
          have o:=areW_asc h (n - j - 1) j (by omega)
          rw [show j + (n - j - 1) + 1=n by omega] at o
          exact o
theorem ww_are {l:List S58} {g:List Int} {q:List S39} (h:areW l q=true):areW l (ww l g q q.length)=true :=
  areW_iff.2 ⟨ww_ok h q.length (Nat.le_refl _),(areW_iff.1 h).2⟩
theorem ww_dark {l:List S58} {g:List Int} {q:List S39} (h:areP l=true) {i:Nat} (hi:i < (ww l g q q.length).length):(rd_T39 (ww l g q q.length) (i:Int)).f0 ∉ gids l g l.length:=fun hm=>by
  obtain ⟨j,hj,e1,e2⟩:=(gids_mem l g _ l.length).1 hm
  obtain ⟨_,_,_,n⟩:=ww_mem l g q q.length (rd_T39 (ww l g q q.length) (i:Int)) (by rw [rd39 _ i hi];exact List.getElem_mem _)
  rw [← e2,ix_self h hj] at n
  exact n e1
end Go.Proofs.YtjgonpcajedkjaaGreat.U
