/- The least green of a stage: the program's way and the reference's. -/
import Derived.Test.YtjgonpcajedkjaaGreatFX00b
import Derived.Test.YtjgonpcajedkjaaGreatFX00c
import Derived.Test.YtjgonpcajedkjaaGreatFX00d
import Derived.Test.YtjgonpcajedkjaaGreatUFind
set_option linter.unusedVariables false
set_option linter.unusedSimpArgs false
namespace Go.Proofs.YtjgonpcajedkjaaGreat.U
open Go.RowKit Go.Proofs.YtjgonpcajedkjaaGreatW.PrintWords Go.Proofs.YtjgonpcajedkjaaGreatW.PrintLast Go.Proofs.YtjgonpcajedkjaaGreat.P
def isWalk (l:List S58) (id:Int):Prop:=0≤impl_FindPath.ix id l 0∧(rd_T58 l (impl_FindPath.ix id l 0)).f1=2
noncomputable def leastG (l:List S58) (st:List Int):Int:=if bo (∀ i:Nat,i < st.length→¬ isWalk l (rd st (i:Int)))=true then 5 else 7
theorem leastG_t {l:List S58} {st:List Int} (h:∀ i:Nat,i < st.length→¬ isWalk l (rd st (i:Int))):leastG l st=5:=if_pos (bo_t h)
theorem leastG_f {l:List S58} {st:List Int} (h:¬ ∀ i:Nat,i < st.length→¬ isWalk l (rd st (i:Int))):leastG l st=7:=if_neg (by rw [bo_f h];decide)
theorem spec_leastGreen (l:List S58) (st:List Int) (h:l.length≤9223372036854775807) (hs:st.length≤9223372036854775807):Ev (fun k=>spec_LeastGreen.f k l st) (leastG l st):=by
  unfold spec_LeastGreen.f
  have hmiss:∀ i:Nat,i < st.length→¬ isWalk l (rd st (i:Int))→∀ r,Ev (fun k=>spec_LeastGreen.l0 k l st ((i + 1:Nat):Int)) r→Ev (fun k=>spec_LeastGreen.l0 k l st (i:Int)) r:=by
    intro i hi hn r ih
    obtain ⟨b1,b2⟩:=fp_bound (rd st (i:Int)) l
    refine Ev.step (fun k=>by rw [spec_LeastGreen.l0]) (ev_t (by omega) (ev_t (by omega) (Ev.bind (spec_findPath l _ h) ?_)))
    rw [w_succ hi hs]
    by_cases h0:impl_FindPath.ix (rd st (i:Int)) l 0≥0
    · exact ev_t h0 (ev_t h0 (ev_t b2 (ev_f (fun e=>hn ⟨h0,e⟩) ih)))
    · exact ev_f h0 ih
  by_cases hall:∀ i:Nat,i < st.length→¬ isWalk l (rd st (i:Int))
  · rw [leastG_t hall]
    refine ev_for0 (F:=fun k i=>spec_LeastGreen.l0 k l st (i:Int)) st.length (fun i hi ih=>hmiss i hi (hall i hi) _ ih) ?_
    refine Ev.step (fun k=>by rw [spec_LeastGreen.l0]) ?_
    exact ev_f (by omega) (Ev.now _)
  · rw [leastG_f hall]
    obtain ⟨m,hm,h1,h2⟩:=first_fail st.length hall
    obtain ⟨w1,w2⟩:=Classical.not_not.1 h1
    obtain ⟨b1,b2⟩:=fp_bound (rd st (m:Int)) l
    refine ev_for0 (F:=fun k i=>spec_LeastGreen.l0 k l st (i:Int)) m (fun i hi ih=>hmiss i (by omega) (h2 i hi) _ ih) ?_
    refine Ev.step (fun k=>by rw [spec_LeastGreen.l0]) (ev_t (by omega) (ev_t (by omega) (Ev.bind (spec_findPath l _ h) ?_)))
    exact ev_t w1 (ev_t w1 (ev_t b2 (ev_t w2 (Ev.now _))))
theorem impl_leastGreen (l:List S58) (st:List Int) (hs:st.length≤9223372036854775807):Ev (fun k=>impl_LeastGreen.f k l st) (leastG l st):=by
  unfold impl_LeastGreen.f
  have hmiss:∀ i:Nat,i < st.length→¬ isWalk l (rd st (i:Int))→∀ r,Ev (fun k=>impl_LeastGreen.l0 k l st (st.length:Int) ((i + 1:Nat):Int)) r→Ev (fun k=>impl_LeastGreen.l0 k l st (st.length:Int) (i:Int)) r:=by
    intro i hi hn r ih
    obtain ⟨b1,b2⟩:=fp_bound (rd st (i:Int)) l
    refine Ev.step (fun k=>by rw [impl_LeastGreen.l0]) (ev_t (by omega) (ev_t (by omega) (ev_t (by omega) (ev_call (impl_findPath l _) ?_))))
    rw [w_succ hi hs]
    by_cases h0:impl_FindPath.ix (rd st (i:Int)) l 0≥0
    · exact ev_t h0 (ev_t h0 (ev_t b2 (ev_f (fun e=>hn ⟨h0,e⟩) ih)))
    · exact ev_f h0 ih
  by_cases hall:∀ i:Nat,i < st.length→¬ isWalk l (rd st (i:Int))
  · rw [leastG_t hall]
    refine ev_for0 (F:=fun k i=>impl_LeastGreen.l0 k l st (st.length:Int) (i:Int)) st.length (fun i hi ih=>hmiss i hi (hall i hi) _ ih) ?_
    refine Ev.step (fun k=>by rw [impl_LeastGreen.l0]) ?_
    exact ev_f (by omega) (Ev.now _)
  · rw [leastG_f hall]
    obtain ⟨m,hm,h1,h2⟩:=first_fail st.length hall
    obtain ⟨w1,w2⟩:=Classical.not_not.1 h1
    obtain ⟨b1,b2⟩:=fp_bound (rd st (m:Int)) l
    refine ev_for0 (F:=fun k i=>impl_LeastGreen.l0 k l st (st.length:Int) (i:Int)) m (fun i hi ih=>hmiss i (by omega) (h2 i hi) _ ih) ?_
    refine Ev.step (fun k=>by rw [impl_LeastGreen.l0]) (ev_t (by omega) (ev_t (by omega) (ev_t (by omega) (ev_call (impl_findPath l _) ?_))))
    exact ev_t w1 (ev_t w1 (ev_t b2 (ev_t w2 (Ev.now _))))
end Go.Proofs.YtjgonpcajedkjaaGreat.U
