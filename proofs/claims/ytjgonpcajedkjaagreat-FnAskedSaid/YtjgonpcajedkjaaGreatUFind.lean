/- Where a path stands in a list: the program's way and the reference's. -/
import Derived.Test.YtjgonpcajedkjaaGreatFX00
import Derived.Test.YtjgonpcajedkjaaGreatFX00c
import Derived.Test.YtjgonpcajedkjaaGreatEv
set_option linter.unusedVariables false
set_option linter.unusedSimpArgs false
namespace Go.Proofs.YtjgonpcajedkjaaGreat.U
open Go.RowKit Go.Proofs.YtjgonpcajedkjaaGreatW.PrintWords Go.Proofs.YtjgonpcajedkjaaGreatW.PrintLast Go.Proofs.YtjgonpcajedkjaaGreat.P
theorem fp_q (id:Int) (x:S58):impl_FindPath.q id x=false↔x.f0≠id:=by
  unfold impl_FindPath.q;simp
theorem fp_cases (id:Int) (l:List S58):(∃ m,m < l.length∧(rd_T58 l (m:Int)).f0=id∧(∀ i:Nat,i < m→(rd_T58 l (i:Int)).f0≠id)∧impl_FindPath.ix id l 0=(m:Int))∨((∀ i:Nat,i < l.length→(rd_T58 l (i:Int)).f0≠id)∧impl_FindPath.ix id l 0=-1):=by
  by_cases h:∀ i:Nat,i < l.length→(rd_T58 l (i:Int)).f0≠id
  · exact Or.inr ⟨h,impl_FindPath.ix_miss id l 0 (fun j hj=>(fp_q id _).2 (by rw [← impl_FindPath.rd_ l j hj];exact h j hj))⟩
  · obtain ⟨m,hm,h1,h2⟩:=first_fail l.length h
    refine Or.inl ⟨m,hm,Classical.not_not.1 h1,h2,?_⟩
    rw [impl_FindPath.ix_hit id l 0 m hm (fun j hj=>(fp_q id _).2 (by rw [← impl_FindPath.rd_ l j (by omega)];exact h2 j hj)) (by
      have:=Classical.not_not.1 h1
      rw [impl_FindPath.rd_ l m hm] at this
      unfold impl_FindPath.q
      simpa using this)]
    omega
theorem fp_bound (id:Int) (l:List S58):-1≤impl_FindPath.ix id l 0∧impl_FindPath.ix id l 0 < l.length:=by
  rcases fp_cases id l with ⟨m,h,_,_,e⟩|⟨_,e⟩ <;> omega
theorem spec_findPath (l:List S58) (id:Int) (h:l.length≤9223372036854775807):Ev (fun k=>spec_FindPath.f k l id) (impl_FindPath.ix id l 0):=by
  unfold spec_FindPath.f
  rcases fp_cases id l with ⟨m,hm,h1,h2,e⟩|⟨h2,e⟩
  · rw [e]
    refine ev_for0 (F:=fun k i=>spec_FindPath.l0 k l id (i:Int)) m (fun i hi ih=>?_) ?_
    · have h3:=h2 i hi
      refine Ev.step (fun k=>by rw [spec_FindPath.l0]) (ev_t (by omega) (ev_t (by omega) (ev_f h3 ?_)))
      rw [w_succ (n:=l.length) (by omega) h]
      exact ih
    · refine Ev.step (fun k=>by rw [spec_FindPath.l0]) (ev_t (by omega) (ev_t (by omega) ?_))
      exact ev_t h1 (Ev.now _)
  · rw [e]
    refine ev_for0 (F:=fun k i=>spec_FindPath.l0 k l id (i:Int)) l.length (fun i hi ih=>?_) ?_
    · have h3:=h2 i hi
      refine Ev.step (fun k=>by rw [spec_FindPath.l0]) (ev_t (by omega) (ev_t (by omega) (ev_f h3 ?_)))
      rw [w_succ hi h]
      exact ih
    · refine Ev.step (fun k=>by rw [spec_FindPath.l0]) ?_
      exact ev_f (by omega) (Ev.now _)
theorem impl_findPath (l:List S58) (id:Int):impl_FindPath.f l id=some (impl_FindPath.ix id l 0):=rfl
end Go.Proofs.YtjgonpcajedkjaaGreat.U
