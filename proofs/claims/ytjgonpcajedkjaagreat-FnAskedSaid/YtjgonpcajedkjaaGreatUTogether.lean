/- May these go together: the program's way and the reference's. -/
import Derived.Test.YtjgonpcajedkjaaGreatFX00
import Derived.Test.YtjgonpcajedkjaaGreatFX00c
import Derived.Test.YtjgonpcajedkjaaGreatUConf
import Derived.Test.YtjgonpcajedkjaaGreatUFind
set_option linter.unusedVariables false
set_option linter.unusedSimpArgs false
namespace Go.Proofs.YtjgonpcajedkjaaGreat.U
open Go.RowKit Go.Proofs.YtjgonpcajedkjaaGreatW.PrintWords Go.Proofs.YtjgonpcajedkjaaGreatW.PrintLast Go.Proofs.YtjgonpcajedkjaaGreat.P
def pAt (l:List S58) (id:Int):S58:=rd_T58 l (impl_FindPath.ix id l 0)
def tHead (l:List S58) (s:List Int) (i:Nat):Prop:=0≤impl_FindPath.ix (rd s (i:Int)) l 0∧(0 < i→rd s ((i:Int) - 1) < rd s (i:Int))
def tFree (l:List S58) (s:List Int) (i j:Nat):Prop:=conf (pAt l (rd s (i:Int))) (pAt l (rd s (j:Int)))=false
def tStep (l:List S58) (s:List Int) (i:Nat):Prop:=tHead l s i∧∀ j,j < i→tFree l s i j
noncomputable def togeth (l:List S58) (s:List Int):Bool:=bo (∀ i,i < s.length→tStep l s i) && areP l
theorem spec_isTogether (l:List S58) (s:List Int) (h:l.length≤9223372036854775807) (hs:s.length≤9223372036854775807):Ev (fun k=>spec_IsTogether.f k l s) (togeth l s):=by
  unfold spec_IsTogether.f togeth
  have hin:∀ i:Nat,i < s.length→(∀ j,j < i→tStep l s j)→tHead l s i→∀ r,((∀ j,j < i→tFree l s i j)→Ev (fun k=>spec_IsTogether.l0 k l s ((i + 1:Nat):Int)) r)→Ev (fun k=>spec_IsTogether.l1 k l s (i:Int) (impl_FindPath.ix (rd s (i:Int)) l 0) 0) (bo (∀ j,j < i→tFree l s i j) && r):=by
    intro i hi hp hh r ih
    have b1:=fp_bound (rd s (i:Int)) l
    have run:∀ j:Nat,j < i→∀ r,(tFree l s i j→Ev (fun k=>spec_IsTogether.l1 k l s (i:Int) (impl_FindPath.ix (rd s (i:Int)) l 0) ((j + 1:Nat):Int)) r)→(¬ tFree l s i j→r=false)→Ev (fun k=>spec_IsTogether.l1 k l s (i:Int) (impl_FindPath.ix (rd s (i:Int)) l 0) (j:Int)) r:=by
      intro j hj r c1 c2
      have b2:=fp_bound (rd s (j:Int)) l
      refine Ev.step (fun k=>by rw [spec_IsTogether.l1]) (ev_t (by omega) (ev_t hh.1 (ev_t b1.2 (ev_t (by omega) (ev_t (by omega) (Ev.bind (spec_findPath l _ h) (ev_t (hp j hj).1.1 (ev_t b2.2 ?_))))))))
      refine Ev.bind (spec_conflict (pAt l (rd s (i:Int))) (pAt l (rd s (j:Int)))) ?_
      rw [w_succ (n:=s.length) (by omega) hs]
      by_cases c:tFree l s i j
      · refine ev_f ?_ (c1 c)
        unfold tFree at c
        rw [c];decide
      · rw [c2 c]
        exact ev_t (by unfold tFree at c;simpa using c) (Ev.now _)
    refine ev_all (F:=fun k j=>spec_IsTogether.l1 k l s (i:Int) (impl_FindPath.ix (rd s (i:Int)) l 0) (j:Int)) (tFree l s i) i (fun j hj c r ih=>run j hj r (fun _=>ih) (fun hn=>absurd c hn)) (fun j hj c=>run j hj false (fun hc=>absurd hc c) (fun _=>rfl)) (fun hall=>?_)
    refine Ev.step (fun k=>by rw [spec_IsTogether.l1]) (ev_f (by omega) ?_)
    rw [w_succ hi hs]
    exact ih hall
  have hout:∀ i:Nat,i < s.length→∀ r,(tHead l s i→Ev (fun k=>spec_IsTogether.l1 k l s (i:Int) (impl_FindPath.ix (rd s (i:Int)) l 0) 0) r)→(¬ tHead l s i→r=false)→Ev (fun k=>spec_IsTogether.l0 k l s (i:Int)) r:=by
    intro i hi r c1 c2
    have bad:¬ tHead l s i→Ev (fun k=>spec_IsTogether.j1 k l s (i:Int) (impl_FindPath.ix (rd s (i:Int)) l 0) true) r:=fun hb=>by
      rw [c2 hb]
      exact Ev.step (fun k=>by rw [spec_IsTogether.j1]) (ev_t rfl (Ev.now _))
    have good:tHead l s i→Ev (fun k=>spec_IsTogether.j1 k l s (i:Int) (impl_FindPath.ix (rd s (i:Int)) l 0) false) r:=fun hb =>
      Ev.step (fun k=>by rw [spec_IsTogether.j1]) (ev_f (by decide) (c1 hb))
    refine Ev.step (fun k=>by rw [spec_IsTogether.l0]) (ev_t (by omega) (ev_t (by omega) (Ev.bind (spec_findPath l _ h) ?_)))
    refine ev_ite (fun d=>bad (fun hh=>absurd hh.1 (by omega))) (fun d=>ev_ite (fun d0=>?_) (fun d0=>good ⟨by omega,fun hh=>absurd hh (by omega)⟩))
    rw [w64 (n:=(i:Int) - 1) (by omega) (by omega)]
    refine ev_t (by omega) (ev_t (by omega) ?_)
    by_cases d1:rd s ((i:Int) - 1)≥rd s (i:Int)
    · rw [decide_eq_true d1]
      exact bad (fun hh=>absurd (hh.2 (by omega)) (by omega))
    · rw [decide_eq_false d1]
      exact good ⟨by omega,fun _=>by omega⟩
  refine ev_all2 (F:=fun k i=>spec_IsTogether.l0 k l s (i:Int)) (tStep l s) s.length (fun i hi hp hc r ih=>?_) (fun i hi hp hc=>?_) (fun _=>?_)
  · refine hout i hi r (fun hh=>?_) (fun hn=>absurd hc.1 hn)
    have:=hin i hi hp hh r (fun _=>ih)
    rw [bo_t hc.2,Bool.true_and] at this
    exact this
  · by_cases hh:tHead l s i
    · refine hout i hi false (fun _=>?_) (fun _=>rfl)
      have hn:¬ ∀ j,j < i→tFree l s i j:=fun hf=>hc ⟨hh,hf⟩
      have:=hin i hi hp hh false (fun hf=>absurd hf hn)
      rw [Bool.and_false] at this
      exact this
    · exact hout i hi false (fun h=>absurd h hh) (fun _=>rfl)
  · refine Ev.step (fun k=>by rw [spec_IsTogether.l0]) (ev_f (by omega) ?_)
    exact Ev.bind (spec_arePaths l h) (Ev.now _)
theorem rd_takeI (d:List Int) (i j:Nat) (h:j < i) (hi:i≤d.length):rd (d.take i) (j:Int)=rd d (j:Int):=by
  rw [rd_at _ j (by rw [List.length_take];omega),rd_at _ j (by omega),List.getElem_take]
theorem impl_isTogether (l:List S58) (s:List Int) (h:l.length≤9223372036854775807) (hs:s.length≤9223372036854775807):Ev (fun k=>impl_IsTogether.f k l s) (togeth l s):=by
  unfold impl_IsTogether.f
  refine Ev.bind (impl_arePaths l h) ?_
  cases hpp:areP l with
  | false=>exact ev_f (by decide) (ev_now (by unfold togeth;rw [hpp,Bool.and_false]))
  | true =>
  refine ev_t rfl ?_
  unfold togeth
  rw [hpp]
  have run:∀ (i j:Nat),i < s.length→j < i→(∀ j,j < i→tStep l s j)→tHead l s i→∀ r,(tFree l s i j→Ev (fun k=>impl_IsTogether.l1 k l s (impl_FindPath.ix (rd s (i:Int)) l 0) s (s.length:Int) (i:Int) (s.take i) (i:Int) ((j + 1:Nat):Int)) r)→(¬ tFree l s i j→r=false)→Ev (fun k=>impl_IsTogether.l1 k l s (impl_FindPath.ix (rd s (i:Int)) l 0) s (s.length:Int) (i:Int) (s.take i) (i:Int) (j:Int)) r:=by
    intro i j hi hj hp hh r c1 c2
    have hlen:(s.take i).length=i:=by rw [List.length_take];omega
    have b1:=fp_bound (rd s (i:Int)) l
    have b2:=fp_bound (rd s (j:Int)) l
    have hr:=rd_takeI s i j hj (by omega)
    refine Ev.step (fun k=>by rw [impl_IsTogether.l1]) (ev_t (by omega) (ev_t (by omega) (ev_t (by rw [hlen];omega) (ev_t hh.1 (ev_t b1.2 (ev_call (impl_findPath l _) ?_))))))
    rw [hr]
    refine ev_t (hp j hj).1.1 (ev_t b2.2 ?_)
    refine Ev.bind (impl_conflict (pAt l (rd s (i:Int))) (pAt l (rd s (j:Int)))) ?_
    rw [w_succ (n:=s.length) (by omega) hs]
    by_cases c:tFree l s i j
    · refine ev_f ?_ (c1 c)
      unfold tFree at c
      rw [c];decide
    · rw [c2 c]
      exact ev_t (by unfold tFree at c;simpa using c) (Ev.now _)
  have hin:∀ i:Nat,i < s.length→(∀ j,j < i→tStep l s j)→tHead l s i→∀ r,((∀ j,j < i→tFree l s i j)→Ev (fun k=>impl_IsTogether.l0 k l s s (s.length:Int) ((i + 1:Nat):Int)) r)→Ev (fun k=>impl_IsTogether.l1 k l s (impl_FindPath.ix (rd s (i:Int)) l 0) s (s.length:Int) (i:Int) (s.take i) (i:Int) 0) (bo (∀ j,j < i→tFree l s i j) && r):=by
    intro i hi hp hh r ih
    refine ev_all (F:=fun k j=>impl_IsTogether.l1 k l s (impl_FindPath.ix (rd s (i:Int)) l 0) s (s.length:Int) (i:Int) (s.take i) (i:Int) (j:Int)) (tFree l s i) i (fun j hj c r ih=>run i j hi hj hp hh r (fun _=>ih) (fun hn=>absurd c hn)) (fun j hj c=>run i j hi hj hp hh false (fun hc=>absurd hc c) (fun _=>rfl)) (fun hall=>?_)
    refine Ev.step (fun k=>by rw [impl_IsTogether.l1]) (ev_f (by omega) ?_)
    rw [w_succ hi hs]
    exact ih hall
  have hout:∀ i:Nat,i < s.length→∀ r,(tHead l s i→Ev (fun k=>impl_IsTogether.l1 k l s (impl_FindPath.ix (rd s (i:Int)) l 0) s (s.length:Int) (i:Int) (s.take i) (i:Int) 0) r)→(¬ tHead l s i→r=false)→Ev (fun k=>impl_IsTogether.l0 k l s s (s.length:Int) (i:Int)) r:=by
    intro i hi r c1 c2
    have hlen:(s.take i).length=i:=by rw [List.length_take];omega
    have bad:¬ tHead l s i→Ev (fun k=>impl_IsTogether.j1 k l s (i:Int) (impl_FindPath.ix (rd s (i:Int)) l 0) s (s.length:Int) (i:Int) true) r:=fun hb=>by
      rw [c2 hb]
      exact Ev.step (fun k=>by rw [impl_IsTogether.j1]) (ev_t rfl (Ev.now _))
    have good:tHead l s i→Ev (fun k=>impl_IsTogether.j1 k l s (i:Int) (impl_FindPath.ix (rd s (i:Int)) l 0) s (s.length:Int) (i:Int) false) r:=fun hb=>by
      have c3:=c1 hb
      refine Ev.step (fun k=>by rw [impl_IsTogether.j1]) (ev_f (by decide) (ev_t (by omega) (ev_t (by omega) ?_)))
      rw [Int.toNat_natCast,hlen]
      exact c3
    refine Ev.step (fun k=>by rw [impl_IsTogether.l0]) (ev_t (by omega) (ev_t (by omega) (ev_t (by omega) (ev_call (impl_findPath l _) ?_))))
    refine ev_ite (fun d=>bad (fun hh=>absurd hh.1 (by omega))) (fun d=>ev_ite (fun d0=>?_) (fun d0=>good ⟨by omega,fun hh=>absurd hh (by omega)⟩))
    rw [w64 (n:=(i:Int) - 1) (by omega) (by omega)]
    refine ev_t (by omega) (ev_t (by omega) ?_)
    by_cases d1:rd s (i:Int)≤rd s ((i:Int) - 1)
    · rw [decide_eq_true d1]
      exact bad (fun hh=>absurd (hh.2 (by omega)) (by omega))
    · rw [decide_eq_false d1]
      exact good ⟨by omega,fun _=>by omega⟩
  refine ev_all2 (F:=fun k i=>impl_IsTogether.l0 k l s s (s.length:Int) (i:Int)) (tStep l s) s.length (fun i hi hp hc r ih=>?_) (fun i hi hp hc=>?_) (fun _=>?_)
  · refine hout i hi r (fun hh=>?_) (fun hn=>absurd hc.1 hn)
    have:=hin i hi hp hh r (fun _=>ih)
    rw [bo_t hc.2,Bool.true_and] at this
    exact this
  · by_cases hh:tHead l s i
    · refine hout i hi false (fun _=>?_) (fun _=>rfl)
      have hn:¬ ∀ j,j < i→tFree l s i j:=fun hf=>hc ⟨hh,hf⟩
      have:=hin i hi hp hh false (fun hf=>absurd hf hn)
      rw [Bool.and_false] at this
      exact this
    · exact hout i hi false (fun h=>absurd h hh) (fun _=>rfl)
  · refine Ev.step (fun k=>by rw [impl_IsTogether.l0]) ?_
    exact ev_f (by omega) (Ev.now _)
end Go.Proofs.YtjgonpcajedkjaaGreat.U
