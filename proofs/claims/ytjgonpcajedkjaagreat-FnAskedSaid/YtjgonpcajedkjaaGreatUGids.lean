/- Which paths show green, and a path's place by its id. -/
import Derived.Test.YtjgonpcajedkjaaGreatFX00c
import Derived.Test.YtjgonpcajedkjaaGreatFX00e
import Derived.Test.YtjgonpcajedkjaaGreatUFind
import Derived.Test.YtjgonpcajedkjaaGreatUPaths
import Derived.Test.YtjgonpcajedkjaaGreatUHas
import Derived.Test.YtjgonpcajedkjaaGreatURd
set_option linter.unusedVariables false
set_option linter.unusedSimpArgs false
namespace Go.Proofs.YtjgonpcajedkjaaGreat.U
open Go.RowKit Go.Proofs.YtjgonpcajedkjaaGreatW.PrintWords Go.Proofs.YtjgonpcajedkjaaGreatW.PrintLast Go.Proofs.YtjgonpcajedkjaaGreat.P
/-- The ids among the first n paths that show green. -/
def gids (l:List S58) (x:List Int):Nat→List Int
  | 0=>[]
  | i + 1=>if rd x (i:Int)=1 then gids l x i ++ [(rd_T58 l (i:Int)).f0] else gids l x i
theorem gids_t {l:List S58} {x:List Int} {i:Nat} (h:rd x (i:Int)=1):gids l x (i + 1)=gids l x i ++ [(rd_T58 l (i:Int)).f0]:=by rw [gids,if_pos h]
theorem gids_f {l:List S58} {x:List Int} {i:Nat} (h:¬ rd x (i:Int)=1):gids l x (i + 1)=gids l x i:=by rw [gids,if_neg h]
theorem gids_len (l:List S58) (x:List Int):∀ i,(gids l x i).length≤i
  | 0=>by simp [gids]
  | i + 1=>by
    have:=gids_len l x i
    by_cases c:rd x (i:Int)=1
    · rw [gids_t c,List.length_append];simp;omega
    · rw [gids_f c];omega
theorem gids_mem (l:List S58) (x:List Int) (z:Int):∀ n:Nat,z∈gids l x n↔∃ i:Nat,i < n∧rd x (i:Int)=1∧(rd_T58 l (i:Int)).f0=z
  | 0=>by simp [gids]
  | n + 1=>by
    have ih:=gids_mem l x z n
    by_cases c:rd x (n:Int)=1
    · rw [gids_t c,List.mem_append,ih,List.mem_singleton]
      constructor
      · rintro (⟨i,h1,h2⟩|h)
        · exact ⟨i,by omega,h2⟩
        · exact ⟨n,by omega,c,h.symm⟩
      · rintro ⟨i,h1,h2,h3⟩
        rcases Nat.lt_or_ge i n with h4|h4
        · exact .inl ⟨i,h4,h2,h3⟩
        · obtain rfl:i=n:=by omega
          exact .inr h3.symm
    · rw [gids_f c,ih]
      constructor
      · rintro ⟨i,h1,h2⟩
        exact ⟨i,by omega,h2⟩
      · rintro ⟨i,h1,h2,h3⟩
        rcases Nat.lt_or_ge i n with h4|h4
        · exact ⟨i,h4,h2,h3⟩
        · obtain rfl:i=n:=by omega
          exact absurd h2 c
theorem laws_greens_val (l:List S58) (x:List Int) (h:x.length=l.length) (hl:l.length≤1048576):Ev (fun k=>laws_greens.f k l x) (gids l x l.length):=by
  unfold laws_greens.f
  refine ev_for0 (F:=fun k i=>laws_greens.l0 k l x (gids l x i) (i:Int)) l.length (fun i hi ih=>?_) ?_
  · have h1:=gids_len l x i
    refine Ev.step (fun k=>by rw [laws_greens.l0]) (ev_t (by omega) ?_)
    rw [decide_eq_true (show (i:Int) < (x.length:Int) by omega)]
    refine Ev.step (fun k=>by rw [laws_greens.j1]) (ev_t rfl (ev_t (by omega) (ev_t (by omega) ?_)))
    rw [w_succ hi (by omega)]
    by_cases c:rd x (i:Int)=1
    · rw [gids_t c] at ih
      exact ev_t c (ev_t (by omega) (ev_t (by omega) ih))
    · rw [gids_f c] at ih
      exact ev_f c ih
  · refine Ev.step (fun k=>by rw [laws_greens.l0]) (ev_f (by omega) ?_)
    exact Ev.step (fun k=>by rw [laws_greens.j1]) (ev_f (by decide) (Ev.now _))
theorem ids_lt {l:List S58} (h:areP l=true) {i j:Nat} (hij:i < j) (hj:j < l.length):(rd_T58 l (i:Int)).f0 < (rd_T58 l (j:Int)).f0:=by
  have far:∀ d i:Nat,i + d + 1 < l.length→(rd_T58 l (i:Int)).f0 < (rd_T58 l ((i + d + 1:Nat):Int)).f0:=by
    have step:∀ i:Nat,i + 1 < l.length→(rd_T58 l (i:Int)).f0 < (rd_T58 l ((i + 1:Nat):Int)).f0:=fun i hi=>by
      have h3:=(areP_at h (i + 1) hi).2 (by omega)
      rw [show ((i + 1:Nat):Int) - 1=(i:Int) by omega] at h3
      exact h3
    intro d
    induction d with
    | zero=>exact fun i hi=>step i hi
    | succ d ih=>exact fun i hi=>Int.lt_trans (ih i (by omega)) (step (i + d + 1) (by omega))
  have h2:=far (j - i - 1) i (by omega)
  rw [show i + (j - i - 1) + 1=j by omega] at h2
  exact h2
theorem ix_self {l:List S58} (h:areP l=true) {i:Nat} (hi:i < l.length):impl_FindPath.ix (rd_T58 l (i:Int)).f0 l 0=(i:Int):=by
  rcases fp_cases (rd_T58 l (i:Int)).f0 l with ⟨m,h1,h2,_,e⟩|⟨h2,_⟩
  · rcases Nat.lt_trichotomy m i with c|c|c
    · have:=ids_lt h c hi;omega
    · rw [e,c]
    · have:=ids_lt h c h1;omega
  · exact absurd rfl (h2 i hi)
end Go.Proofs.YtjgonpcajedkjaaGreat.U
