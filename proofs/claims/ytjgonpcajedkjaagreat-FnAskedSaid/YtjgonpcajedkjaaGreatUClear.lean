/- The clearing time between two stages: the program's way and the reference's. -/
import Derived.Test.YtjgonpcajedkjaaGreatFX00b
import Derived.Test.YtjgonpcajedkjaaGreatFX00c
import Derived.Test.YtjgonpcajedkjaaGreatFX00d
import Derived.Test.YtjgonpcajedkjaaGreatUTogether
import Derived.Test.YtjgonpcajedkjaaGreatUHas
set_option linter.unusedVariables false
set_option linter.unusedSimpArgs false
namespace Go.Proofs.YtjgonpcajedkjaaGreat.U
open Go.RowKit Go.Proofs.YtjgonpcajedkjaaGreatW.PrintWords Go.Proofs.YtjgonpcajedkjaaGreatW.PrintLast Go.Proofs.YtjgonpcajedkjaaGreat.P
/-- Those of the first i of a that are not in b. -/
def cl (a b:List Int):Nat→List Int
  | 0=>[]
  | i + 1=>if rd a (i:Int)∈b then cl a b i else cl a b i ++ [rd a (i:Int)]
theorem cl_t {a b:List Int} {i:Nat} (h:rd a (i:Int)∈b):cl a b (i + 1)=cl a b i:=by rw [cl,if_pos h]
theorem cl_f {a b:List Int} {i:Nat} (h:¬ rd a (i:Int)∈b):cl a b (i + 1)=cl a b i ++ [rd a (i:Int)]:=by rw [cl,if_neg h]
theorem cl_len (a b:List Int):∀ i,(cl a b i).length≤i
  | 0=>by simp [cl]
  | i + 1=>by
    have:=cl_len a b i
    by_cases h:rd a (i:Int)∈b
    · rw [cl_t h];omega
    · rw [cl_f h,List.length_append];simp;omega
theorem cl_mem (a b:List Int) (z:Int):∀ i,z∈cl a b i→∃ m,m < i∧rd a (m:Int)=z
  | 0,h=>by simp [cl] at h
  | i + 1,h=>by
    by_cases c:rd a (i:Int)∈b
    · rw [cl_t c] at h
      obtain ⟨m,h1,h2⟩:=cl_mem a b z i h
      exact ⟨m,by omega,h2⟩
    · rw [cl_f c,List.mem_append] at h
      rcases h with h|h
      · obtain ⟨m,h1,h2⟩:=cl_mem a b z i h
        exact ⟨m,by omega,h2⟩
      · exact ⟨i,by omega,(List.mem_singleton.1 h).symm⟩
def closes (a b:List Int):List Int:=cl a b a.length
theorem closes_len (a b:List Int):(closes a b).length≤a.length:=cl_len a b a.length
theorem spec_closes (a b:List Int) (ha:a.length≤1048576) (hb:b.length≤1048576):Ev (fun k=>spec_Closes.f k a b) (closes a b):=by
  unfold spec_Closes.f closes
  refine ev_for0 (F:=fun k i=>spec_Closes.l0 k a b (cl a b i) (i:Int)) a.length (fun i hi ih=>?_) ?_
  · have h1:=cl_len a b i
    have h2:(cl a b i).length < 17592186044416:=by omega
    refine Ev.step (fun k=>by rw [spec_Closes.l0]) (ev_t (by omega) (ev_t (by omega) (Ev.bind (spec_has b _ (by omega)) ?_)))
    rw [w_succ hi (by omega)]
    by_cases c:rd a (i:Int)∈b
    · rw [cl_t c] at ih
      exact ev_dt c ih
    · rw [cl_f c] at ih
      exact ev_df c (ev_t h2 ih)
  · refine Ev.step (fun k=>by rw [spec_Closes.l0]) ?_
    exact ev_f (by omega) (Ev.now _)
theorem impl_closes (a b:List Int) (ha:a.length≤1048576) (hb:b.length≤1048576):Ev (fun k=>impl_Closes.f k a b) (closes a b):=by
  unfold impl_Closes.f closes
  have e:Ev (fun k=>impl_sieve.f k a b false) (cl a b a.length):=by
    unfold impl_sieve.f
    refine ev_for0 (F:=fun k i=>impl_sieve.l0 k b false (cl a b i) a (a.length:Int) (i:Int)) a.length (fun i hi ih=>?_) ?_
    · have h1:=cl_len a b i
      have h2:(cl a b i).length < 17592186044416:=by omega
      refine Ev.step (fun k=>by rw [impl_sieve.l0]) (ev_t (by omega) (ev_t (by omega) (ev_t (by omega) (Ev.bind (slices_contains b _ (by omega)) ?_))))
      rw [w_succ hi (by omega)]
      by_cases c:rd a (i:Int)∈b
      · rw [cl_t c] at ih
        rw [decide_eq_true c]
        exact ev_f (by decide) ih
      · rw [cl_f c] at ih
        rw [decide_eq_false c]
        exact ev_t rfl (ev_t h2 ih)
    · refine Ev.step (fun k=>by rw [impl_sieve.l0]) ?_
      exact ev_f (by omega) (Ev.now _)
  exact Ev.bind e (Ev.now _)
def clr (x:S58):Int:=if isP x=true then (if x.f1=1 then 2 else if x.f1=3 then 3 else 5) else 0
theorem clr_t {x:S58} (h:isP x=true):clr x=(if x.f1=1 then 2 else if x.f1=3 then 3 else 5):=if_pos h
theorem clr_f {x:S58} (h:¬ isP x=true):clr x=0:=if_neg h
theorem spec_clearOf (x:S58):spec_ClearOf.f x.f0 x.f1 x.f2 x.f3=some (clr x):=by
  unfold spec_ClearOf.f
  rw [spec_isPath,Option.bind_some]
  by_cases h:isP x=true
  · obtain ⟨_,h1,_⟩:=(isP_iff x).1 h
    rw [if_pos h,clr_t h,Option.bind_some,if_pos (by omega),if_pos (by simp;omega)]
    have:x.f1=1∨x.f1=2∨x.f1=3:=by omega
    rcases this with e|e|e <;> rw [e] <;> rfl
  · rw [if_neg h,clr_f h]
theorem impl_clearOf (x:S58):impl_ClearOf.f x.f0 x.f1 x.f2 x.f3=some (clr x):=by
  unfold impl_ClearOf.f
  rw [impl_isPath,Option.bind_some]
  by_cases h:isP x=true
  · obtain ⟨_,h1,_⟩:=(isP_iff x).1 h
    rw [if_pos h,clr_t h]
    have:x.f1=1∨x.f1=2∨x.f1=3:=by omega
    rcases this with e|e|e <;> rw [e] <;> rfl
  · rw [if_neg h,clr_f h]
theorem tog_ix {l:List S58} {s:List Int} (h:togeth l s=true) {i:Nat} (hi:i < s.length):0≤impl_FindPath.ix (rd s (i:Int)) l 0:=by
  unfold togeth at h
  rw [Bool.and_eq_true] at h
  exact (bo_iff.1 h.1 i hi).1.1
theorem closes_ix {l:List S58} {a b:List Int} (h:togeth l a=true) {i:Nat} (hi:i < (closes a b).length):0≤impl_FindPath.ix (rd (closes a b) (i:Int)) l 0:=by
  obtain ⟨m,h1,h2⟩:=cl_mem a b (rd (closes a b) (i:Int)) a.length (by
    rw [rd_at _ i hi];exact List.getElem_mem hi)
  rw [← h2]
  exact tog_ix h h1
noncomputable def cbJ (l:List S58) (p:S58) (y:List Int) (n:Int):Nat→Int
  | 0=>n
  | j + 1=>if conf p (pAt l (rd y (j:Int)))=true then max (cbJ l p y n j) (clr p) else cbJ l p y n j
theorem cbJ_t {l:List S58} {p:S58} {y:List Int} {n:Int} {j:Nat} (h:conf p (pAt l (rd y (j:Int)))=true):cbJ l p y n (j + 1)=max (cbJ l p y n j) (clr p):=by rw [cbJ,if_pos h]
theorem cbJ_f {l:List S58} {p:S58} {y:List Int} {n:Int} {j:Nat} (h:¬ conf p (pAt l (rd y (j:Int)))=true):cbJ l p y n (j + 1)=cbJ l p y n j:=by rw [cbJ,if_neg h]
noncomputable def cbI (l:List S58) (x y:List Int):Nat→Int
  | 0=>0
  | i + 1=>cbJ l (pAt l (rd x (i:Int))) y (cbI l x y i) y.length
noncomputable def clearB (l:List S58) (a b:List Int):Int:=if togeth l a=true∧togeth l b=true then cbI l (closes a b) (closes b a) (closes a b).length else 0
theorem clearB_t {l:List S58} {a b:List Int} (h:togeth l a=true∧togeth l b=true):clearB l a b=cbI l (closes a b) (closes b a) (closes a b).length:=if_pos h
theorem clearB_f {l:List S58} {a b:List Int} (h:¬ (togeth l a=true∧togeth l b=true)):clearB l a b=0:=if_neg h
theorem spec_clearBetween (l:List S58) (a b:List Int) (h:l.length≤1048576) (ha:a.length≤1048576) (hb:b.length≤1048576):Ev (fun k=>spec_ClearBetween.f k l a b) (clearB l a b):=by
  unfold spec_ClearBetween.f
  refine Ev.bind (spec_closes a b ha hb) (Ev.bind (spec_closes b a hb ha) ?_)
  have l1:=closes_len a b
  have l2:=closes_len b a
  have jf:∀ n i,Ev (fun k=>spec_ClearBetween.j1 k l a b n (closes a b) (closes b a) i false) n:=fun n i=>Ev.step (fun k=>by rw [spec_ClearBetween.j1]) (ev_f (by decide) (Ev.now _))
  by_cases ht:togeth l a=true∧togeth l b=true
  · rw [clearB_t ht]
    refine ev_for0 (F:=fun k i=>spec_ClearBetween.l0 k l a b (cbI l (closes a b) (closes b a) i) (closes a b) (closes b a) (i:Int)) (closes a b).length (fun i hi ih=>?_) ?_
    · have t1:=spec_isTogether l a (by omega) (by omega)
      have t2:=spec_isTogether l b (by omega) (by omega)
      rw [ht.1] at t1
      rw [ht.2] at t2
      refine Ev.step (fun k=>by rw [spec_ClearBetween.l0]) (ev_t (by omega) (Ev.bind t1 (ev_t rfl (Ev.bind t2 ?_))))
      refine Ev.step (fun k=>by rw [spec_ClearBetween.j1]) (ev_t rfl ?_)
      refine ev_for0 (F:=fun k j=>spec_ClearBetween.l1 k l a b (cbJ l (pAt l (rd (closes a b) (i:Int))) (closes b a) (cbI l (closes a b) (closes b a) i) j) (closes a b) (closes b a) (i:Int) (j:Int)) (closes b a).length (fun j hj ih2=>?_) ?_
      · have b1:=fp_bound (rd (closes a b) (i:Int)) l
        have b2:=fp_bound (rd (closes b a) (j:Int)) l
        have c1:=closes_ix (b:=b) ht.1 hi
        have c2:=closes_ix (b:=a) ht.2 hj
        refine Ev.step (fun k=>by rw [spec_ClearBetween.l1]) (ev_t (by omega) (ev_t (by omega) (ev_t (by omega) (Ev.bind (spec_findPath l _ (by omega)) (ev_t c1 (ev_t b1.2 ?_))))))
        refine ev_t (by omega) (Ev.bind (spec_findPath l _ (by omega)) (ev_t c2 (ev_t b2.2 ?_)))
        refine Ev.bind (spec_conflict (pAt l (rd (closes a b) (i:Int))) (pAt l (rd (closes b a) (j:Int)))) ?_
        rw [w_succ hj (by omega)]
        by_cases c:conf (pAt l (rd (closes a b) (i:Int))) (pAt l (rd (closes b a) (j:Int)))=true
        · rw [cbJ_t c] at ih2
          exact ev_t c (ev_call (spec_clearOf (pAt l (rd (closes a b) (i:Int)))) (ev_call (spec_Max_eq _ _) ih2))
        · rw [cbJ_f c] at ih2
          exact ev_f c ih2
      · refine Ev.step (fun k=>by rw [spec_ClearBetween.l1]) (ev_f (by omega) ?_)
        rw [w_succ hi (by omega)]
        exact ih
    · refine Ev.step (fun k=>by rw [spec_ClearBetween.l0]) ?_
      exact ev_f (by omega) (jf _ _)
  · rw [clearB_f ht]
    have t1:=spec_isTogether l a (by omega) (by omega)
    have t2:=spec_isTogether l b (by omega) (by omega)
    refine Ev.step (fun k=>by rw [spec_ClearBetween.l0]) (ev_ite (fun _=>Ev.bind t1 ?_) (fun _=>jf _ _))
    refine ev_ite (fun c=>Ev.bind t2 ?_) (fun _=>jf _ _)
    cases hb2:togeth l b with
    | true=>exact absurd ⟨c,hb2⟩ ht
    | false=>exact jf _ _
theorem impl_clearBetween (l:List S58) (a b:List Int) (h:l.length≤1048576) (ha:a.length≤1048576) (hb:b.length≤1048576):Ev (fun k=>impl_ClearBetween.f k l a b) (clearB l a b):=by
  unfold impl_ClearBetween.f
  have l1:=closes_len a b
  have l2:=closes_len b a
  refine Ev.bind (impl_isTogether l a (by omega) (by omega)) ?_
  by_cases ht:togeth l a=true∧togeth l b=true
  · rw [clearB_t ht]
    refine ev_t ht.1 (Ev.bind (impl_isTogether l b (by omega) (by omega)) ?_)
    rw [ht.2]
    refine Ev.step (fun k=>by rw [impl_ClearBetween.j0]) (ev_f (by decide) (Ev.bind (impl_closes a b ha hb) ?_))
    refine ev_for0 (F:=fun k i=>impl_ClearBetween.l0 k l a b (cbI l (closes a b) (closes b a) i) (closes a b) ((closes a b).length:Int) (i:Int)) (closes a b).length (fun i hi ih=>?_) ?_
    · refine Ev.step (fun k=>by rw [impl_ClearBetween.l0]) (ev_t (by omega) (ev_t (by omega) (ev_t (by omega) (Ev.bind (impl_closes b a hb ha) ?_))))
      refine ev_for0 (F:=fun k j=>impl_ClearBetween.l1 k l a b (cbJ l (pAt l (rd (closes a b) (i:Int))) (closes b a) (cbI l (closes a b) (closes b a) i) j) (rd (closes a b) (i:Int)) (closes a b) ((closes a b).length:Int) (i:Int) (closes b a) ((closes b a).length:Int) (j:Int)) (closes b a).length (fun j hj ih2=>?_) ?_
      · have b1:=fp_bound (rd (closes a b) (i:Int)) l
        have b2:=fp_bound (rd (closes b a) (j:Int)) l
        have c1:=closes_ix (b:=b) ht.1 hi
        have c2:=closes_ix (b:=a) ht.2 hj
        refine Ev.step (fun k=>by rw [impl_ClearBetween.l1]) (ev_t (by omega) (ev_t (by omega) (ev_t (by omega) (ev_call (impl_findPath l _) (ev_t c1 (ev_t b1.2 (ev_call (impl_findPath l _) (ev_t c2 (ev_t b2.2 ?_)))))))))
        refine Ev.bind (impl_conflict (pAt l (rd (closes a b) (i:Int))) (pAt l (rd (closes b a) (j:Int)))) ?_
        rw [w_succ hj (by omega)]
        by_cases c:conf (pAt l (rd (closes a b) (i:Int))) (pAt l (rd (closes b a) (j:Int)))=true
        · rw [cbJ_t c] at ih2
          refine ev_t c (ev_call (impl_clearOf (pAt l (rd (closes a b) (i:Int)))) ?_)
          rw [mx_eq]
          exact ih2
        · rw [cbJ_f c] at ih2
          exact ev_f c ih2
      · refine Ev.step (fun k=>by rw [impl_ClearBetween.l1]) (ev_f (by omega) ?_)
        rw [w_succ hi (by omega)]
        exact ih
    · refine Ev.step (fun k=>by rw [impl_ClearBetween.l0]) ?_
      exact ev_f (by omega) (Ev.now _)
  · rw [clearB_f ht]
    have jt:Ev (fun k=>impl_ClearBetween.j0 k l a b 0 true) 0:=Ev.step (fun k=>by rw [impl_ClearBetween.j0]) (ev_t rfl (Ev.now _))
    have t2:=impl_isTogether l b (by omega) (by omega)
    refine ev_ite (fun c=>Ev.bind t2 ?_) (fun _=>jt)
    cases hb2:togeth l b with
    | true=>exact absurd ⟨c,hb2⟩ ht
    | false=>exact jt
theorem clr_bound (x:S58):0≤clr x∧clr x≤5:=by
  by_cases h:isP x=true
  · rw [clr_t h];omega
  · rw [clr_f h];omega
theorem cbJ_bound (l:List S58) (p:S58) (y:List Int) (n:Int) (hn:0≤n∧n≤5):∀ j,0≤cbJ l p y n j∧cbJ l p y n j≤5
  | 0=>hn
  | j + 1=>by
    have h1:=cbJ_bound l p y n hn j
    have h2:=clr_bound p
    by_cases c:conf p (pAt l (rd y (j:Int)))=true
    · rw [cbJ_t c];omega
    · rw [cbJ_f c];exact h1
theorem cbI_bound (l:List S58) (x y:List Int):∀ i,0≤cbI l x y i∧cbI l x y i≤5
  | 0=>by simp [cbI]
  | i + 1=>by
    unfold cbI
    exact cbJ_bound l _ y _ (cbI_bound l x y i) _
theorem clearB_bound (l:List S58) (a b:List Int):0≤clearB l a b∧clearB l a b≤5:=by
  by_cases h:togeth l a=true∧togeth l b=true
  · rw [clearB_t h];exact cbI_bound l _ _ _
  · rw [clearB_f h];omega
end Go.Proofs.YtjgonpcajedkjaaGreat.U
