/- A second of asking: the program's way and the reference's. -/
import Derived.Test.YtjgonpcajedkjaaGreatFX00c
import Derived.Test.YtjgonpcajedkjaaGreatFX00d
import Derived.Test.YtjgonpcajedkjaaGreatFX00e
import Derived.Test.YtjgonpcajedkjaaGreatULgts
import Derived.Test.YtjgonpcajedkjaaGreatUMustChange
import Derived.Test.YtjgonpcajedkjaaGreatUWants
set_option linter.unusedVariables false
set_option linter.unusedSimpArgs false
namespace Go.Proofs.YtjgonpcajedkjaaGreat.U
open Go.RowKit Go.Proofs.YtjgonpcajedkjaaGreatW.PrintWords Go.Proofs.YtjgonpcajedkjaaGreatW.PrintLast Go.Proofs.YtjgonpcajedkjaaGreat.P
/-- Of the first i wants those whose path shows no green, a second older. -/
def ww (l:List S58) (g:List Int) (q:List S39):Nat→List S39
  | 0=>[]
  | i + 1=>if rd g (impl_FindPath.ix (rd_T39 q (i:Int)).f0 l 0)=1 then ww l g q i else ww l g q i ++ [⟨(rd_T39 q (i:Int)).f0,min 100000 ((rd_T39 q (i:Int)).f1 + 1)⟩]
theorem ww_t {l:List S58} {g:List Int} {q:List S39} {i:Nat} (h:rd g (impl_FindPath.ix (rd_T39 q (i:Int)).f0 l 0)=1):ww l g q (i + 1)=ww l g q i:=by rw [ww,if_pos h]
theorem ww_f {l:List S58} {g:List Int} {q:List S39} {i:Nat} (h:¬ rd g (impl_FindPath.ix (rd_T39 q (i:Int)).f0 l 0)=1):ww l g q (i + 1)=ww l g q i ++ [⟨(rd_T39 q (i:Int)).f0,min 100000 ((rd_T39 q (i:Int)).f1 + 1)⟩]:=by rw [ww,if_neg h]
theorem ww_len (l:List S58) (g:List Int) (q:List S39):∀ i,(ww l g q i).length≤i
  | 0=>by simp [ww]
  | i + 1=>by
    have ih:=ww_len l g q i
    by_cases h:rd g (impl_FindPath.ix (rd_T39 q (i:Int)).f0 l 0)=1
    · rw [ww_t h];omega
    · rw [ww_f h,List.length_append];simp;omega
theorem areW_iff {l:List S58} {q:List S39}:areW l q=true↔(∀ i,i < q.length→wStep l q i)∧areP l=true:=by
  unfold areW
  rw [Bool.and_eq_true]
  exact and_congr_left fun _=>bo_iff
theorem impl_wait {l:List S58} {y:S27} {q:List S39} (w:CW l y) (hy:ctl l y=true) (h:areW l q=true) (hq:q.length≤1048576) :
    Ev (fun k=>impl_waited.f k l y.f0 y.f1 y.f2 y.f3 q) (ww l (lgts l y l.length) q q.length):=by
  have hl:=w.hl
  have hg:(lgts l y l.length).length=l.length:=lgts_len _ _ _
  unfold impl_waited.f
  refine Ev.bind (impl_lgts w hy) ?_
  generalize lgts l y l.length=g at hg
  refine ev_for0 (F:=fun k i=>impl_waited.l0 k l (ww l g q i) g q (q.length:Int) (i:Int)) q.length (fun i hi ih=>?_) ?_
  · obtain ⟨p1,p2,_⟩:=(areW_iff.1 h).1 i hi
    have p3:impl_FindPath.ix (rd_T39 q (i:Int)).f0 l 0 < (g.length:Int):=by rw [hg];exact (fp_bound _ l).2
    have hw:=ww_len l g q i
    refine Ev.step (fun k=>by rw [impl_waited.l0]) (ev_t (by omega) (ev_t (by omega) (ev_t (by omega) (ev_call (impl_findPath l _) (ev_f (Int.not_lt.2 p1) (ev_f (Int.not_le.2 p3) (ev_t p1 (ev_t p3 ?_))))))))
    rw [w_succ hi (by omega)]
    by_cases e:rd g (impl_FindPath.ix (rd_T39 q (i:Int)).f0 l 0)=1
    · rw [ww_t e] at ih
      exact ev_t e ih
    · rw [ww_f e] at ih
      refine ev_f e (ev_t (by omega) ?_)
      rw [w64 (n:=(rd_T39 q (i:Int)).f1 + 1) (by omega) (by omega),mn_eq,Int.min_comm]
      exact ih
  · refine Ev.step (fun k=>by rw [impl_waited.l0]) ?_
    exact ev_f (by omega) (Ev.now _)
theorem wclone (q:List S39) (h:q.length≤1048576):impl_Want_21.f q=some q:=by
  unfold impl_Want_21.f
  rw [if_pos (by omega)]
end Go.Proofs.YtjgonpcajedkjaaGreat.U
