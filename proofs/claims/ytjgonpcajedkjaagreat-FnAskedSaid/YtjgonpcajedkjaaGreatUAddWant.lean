/- One want more: the program's way and the reference's. -/
import Derived.Test.YtjgonpcajedkjaaGreatFX00e
import Derived.Test.YtjgonpcajedkjaaGreatUWants
import Derived.Test.YtjgonpcajedkjaaGreatURd
set_option linter.unusedVariables false
set_option linter.unusedSimpArgs false
namespace Go.Proofs.YtjgonpcajedkjaaGreat.U
open Go.RowKit Go.Proofs.YtjgonpcajedkjaaGreatW.PrintWords Go.Proofs.YtjgonpcajedkjaaGreatW.PrintLast Go.Proofs.YtjgonpcajedkjaaGreat.P
theorem pos_le (a:Int):∀ (w:List S39),impl_AddWant.pos a w≤w.length
  | []=>by simp [impl_AddWant.pos]
  | x::l=>by
    unfold impl_AddWant.pos
    have:=pos_le a l
    split <;> simp <;> omega
theorem pos_lt (a:Int):∀ (w:List S39) (i:Nat) (h:i < impl_AddWant.pos a w),(w[i]'(Nat.lt_of_lt_of_le h (pos_le a w))).f0 < a
  | [],i,h=>absurd h (by simp [impl_AddWant.pos])
  | x::l,i,h=>by
    by_cases hx:x.f0 < a
    · cases i with
      | zero=>exact hx
      | succ i =>
        have h2:i < impl_AddWant.pos a l:=by
          have h3:=h
          unfold impl_AddWant.pos at h3
          rw [if_pos hx] at h3
          omega
        exact pos_lt a l i h2
    · exfalso
      unfold impl_AddWant.pos at h
      rw [if_neg hx] at h
      omega
def insW (a:Int) (w:List S39):List S39:=w.take (impl_AddWant.pos a w) ++ [⟨a,0⟩] ++ w.drop (impl_AddWant.pos a w)
theorem insW_len (a:Int) (w:List S39):(insW a w).length=w.length + 1:=by
  have:=pos_le a w
  simp [insW]
  omega
theorem insW_at (a:Int) (w:List S39):(insW a w)[impl_AddWant.pos a w]?=some ⟨a,0⟩:=by
  have:=pos_le a w
  unfold insW
  rw [List.append_assoc,List.getElem?_append_right (by rw [List.length_take];omega),List.length_take,Nat.min_eq_left this,Nat.sub_self]
  rfl
theorem insW_off (a:Int) (w:List S39) (j:Nat) (h:impl_AddWant.pos a w≤j):(insW a w)[j + 1]?=w[j]?:=by
  have:=pos_le a w
  unfold insW
  have hl:(w.take (impl_AddWant.pos a w) ++ [(⟨a,0⟩:S39)]).length=impl_AddWant.pos a w + 1:=by simp;omega
  rw [List.getElem?_append_right (by rw [hl];omega),hl,List.getElem?_drop]
  congr 1
  omega
noncomputable def awV (l:List S58) (w:List S39) (a:Int):List S39 × Bool:=if areW l (insW a w)=true then (insW a w,true) else (w,false)
theorem areW_asc {l:List S58} {v:List S39} (h:areW l v=true):∀ (d i:Nat),i + d + 1 < v.length→(rd_T39 v (i:Int)).f0 < (rd_T39 v ((i + d + 1:Nat):Int)).f0:=by
  unfold areW at h
  have h1:∀ i,i < v.length→wStep l v i:=by
    have h2:=(Bool.and_eq_true _ _).mp h |>.1
    unfold bo at h2
    exact @of_decide_eq_true _ (Classical.propDecidable _) h2
  have step:∀ i,i + 1 < v.length→(rd_T39 v (i:Int)).f0 < (rd_T39 v ((i + 1:Nat):Int)).f0:=fun i hi=>by
    have h3:=(h1 (i + 1) hi).2.2 (by omega)
    have e:((i + 1:Nat):Int) - 1=(i:Int):=by omega
    rw [e] at h3
    exact h3
  intro d
  induction d with
  | zero=>exact fun i hi=>step i hi
  | succ d ih=>exact fun i hi=>Int.lt_trans (ih i (by omega)) (step (i + d + 1) (by omega))
theorem areW_twice {l:List S58} {w:List S39} {a:Int} {j:Nat} (hj:j < w.length) (h:(w[j]).f0=a):areW l (insW a w)≠true:=by
  intro ht
  have hp:impl_AddWant.pos a w≤j:=by
    rcases Nat.lt_or_ge j (impl_AddWant.pos a w) with h1|h1
    · have h2:=pos_lt a w j h1
      rw [h] at h2
      exact absurd h2 (Int.lt_irrefl _)
    · exact h1
  have hl:=insW_len a w
  have h1:=areW_asc ht (j - impl_AddWant.pos a w) (impl_AddWant.pos a w) (by omega)
  have e:impl_AddWant.pos a w + (j - impl_AddWant.pos a w) + 1=j + 1:=by omega
  rw [e,rd39 _ _ (by omega),rd39 _ _ (by omega)] at h1
  have h2:=insW_at a w
  rw [List.getElem?_eq_getElem (by omega)] at h2
  have h3:=insW_off a w j hp
  rw [List.getElem?_eq_getElem (by omega),List.getElem?_eq_getElem hj] at h3
  rw [Option.some.inj h2,Option.some.inj h3,h] at h1
  exact absurd h1 (Int.lt_irrefl _)
theorem impl_addWant (l:List S58) (w:List S39) (a:Int) (h:l.length≤1048576) (hw:w.length≤1048576):Ev (fun k=>impl_AddWant.f k l w a) (awV l w a):=by
  unfold impl_AddWant.f
  refine ev_t (by omega) ?_
  by_cases hq:0≤impl_AddWant.ix a w 0
  · refine ev_t hq (ev_now ?_)
    have hex:∃ j,∃ hj:j < w.length,(w[j]).f0=a:=by
      rcases Classical.em (∃ j,∃ hj:j < w.length,(w[j]).f0=a) with h1|h1
      · exact h1
      · exfalso
        have h2:=impl_AddWant.ix_miss a w 0 (fun j hj=>by
          unfold impl_AddWant.q
          exact decide_eq_false (fun h3=>h1 ⟨j,hj,h3⟩))
        rw [h2] at hq
        exact absurd hq (by decide)
    obtain ⟨j,hj,hja⟩:=hex
    unfold awV
    rw [if_neg (areW_twice hj hja)]
  · refine ev_f hq ?_
    refine Ev.bind (impl_areWants l (insW a w) h (by rw [insW_len];omega)) ?_
    unfold awV
    cases hv:areW l (insW a w) with
    | true=>exact ev_t rfl (by rw [if_pos rfl];exact Ev.now _)
    | false=>exact ev_f (by decide) (by rw [if_neg (by decide)];exact Ev.now _)
end Go.Proofs.YtjgonpcajedkjaaGreat.U
