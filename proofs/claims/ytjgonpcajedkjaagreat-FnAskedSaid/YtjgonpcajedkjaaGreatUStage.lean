/- A stage with as many more as may go with it: the program's way and the reference's. -/
import Derived.Test.YtjgonpcajedkjaaGreatFX00
import Derived.Test.YtjgonpcajedkjaaGreatFX00d
import Derived.Test.YtjgonpcajedkjaaGreatUTogether
import Derived.Test.YtjgonpcajedkjaaGreatUHas
set_option linter.unusedVariables false
set_option linter.unusedSimpArgs false
namespace Go.Proofs.YtjgonpcajedkjaaGreat.U
open Go.RowKit Go.Proofs.YtjgonpcajedkjaaGreatW.PrintWords Go.Proofs.YtjgonpcajedkjaaGreatW.PrintLast Go.Proofs.YtjgonpcajedkjaaGreat.P
def ipos (a:Int):List Int→Nat
  | []=>0
  | x::l=>if x < a then ipos a l + 1 else 0
theorem ipos_le (a:Int):∀ (s:List Int),ipos a s≤s.length
  | []=>by simp [ipos]
  | x::l=>by
    unfold ipos
    have:=ipos_le a l
    split <;> simp <;> omega
theorem ipos_lt (a:Int):∀ (s:List Int) (i:Nat) (h:i < ipos a s),(s[i]'(Nat.lt_of_lt_of_le h (ipos_le a s))) < a
  | [],i,h=>absurd h (by simp [ipos])
  | x::l,i,h=>by
    by_cases hx:x < a
    · cases i with
      | zero=>exact hx
      | succ i =>
        have h2:i < ipos a l:=by
          have h3:=h
          unfold ipos at h3
          rw [if_pos hx] at h3
          omega
        exact ipos_lt a l i h2
    · exfalso
      unfold ipos at h
      rw [if_neg hx] at h
      omega
theorem ipos_at (a:Int):∀ (s:List Int) (h:ipos a s < s.length),¬ (s[ipos a s]) < a
  | [],h=>absurd h (by simp)
  | x::l,h=>by
    by_cases hx:x < a
    · have e:ipos a (x::l)=ipos a l + 1:=by
        show (if x < a then ipos a l + 1 else 0)=_
        rw [if_pos hx]
      have h2:ipos a l < l.length:=by rw [e] at h;simpa using h
      have h3:=ipos_at a l h2
      simp only [e,List.getElem_cons_succ]
      exact h3
    · have e:ipos a (x::l)=0:=by
        show (if x < a then ipos a l + 1 else 0)=_
        rw [if_neg hx]
      simp only [e,List.getElem_cons_zero]
      exact hx
def iins (a:Int) (s:List Int):List Int:=s.take (ipos a s) ++ [a] ++ s.drop (ipos a s)
theorem iins_len (a:Int) (s:List Int):(iins a s).length=s.length + 1:=by
  have:=ipos_le a s
  simp [iins]
  omega
def Asc (s:List Int):Prop:=∀ i j:Nat,i < j→j < s.length→rd s (i:Int) < rd s (j:Int)
theorem asc_of {l:List S58} {s:List Int} (h:togeth l s=true):Asc s:=by
  unfold togeth at h
  have h1:∀ i,i < s.length→tStep l s i:=by
    have h2:=(Bool.and_eq_true _ _).mp h |>.1
    exact bo_iff.1 h2
  have step:∀ i:Nat,i + 1 < s.length→rd s (i:Int) < rd s ((i + 1:Nat):Int):=fun i hi=>by
    have h3:=(h1 (i + 1) hi).1.2 (by omega)
    have e:((i + 1:Nat):Int) - 1=(i:Int):=by omega
    rw [e] at h3
    exact h3
  have far:∀ d i:Nat,i + d + 1 < s.length→rd s (i:Int) < rd s ((i + d + 1:Nat):Int):=by
    intro d
    induction d with
    | zero=>exact fun i hi=>step i hi
    | succ d ih=>exact fun i hi=>Int.lt_trans (ih i (by omega)) (step (i + d + 1) (by omega))
  intro i j hij hj
  have h2:=far (j - i - 1) i (by omega)
  have e:i + (j - i - 1) + 1=j:=by omega
  rw [e] at h2
  exact h2
/-- From the place on nothing is below. -/
theorem asc_ge {s:List Int} (h:Asc s) (a:Int) (j:Nat) (hj:j < s.length) (hp:ipos a s≤j):¬ rd s (j:Int) < a:=by
  have h1:=ipos_at a s (by omega)
  rcases Nat.lt_or_ge (ipos a s) j with h2|h2
  · have h3:=h _ _ h2 hj
    rw [rd_at s (ipos a s) (by omega)] at h3
    omega
  · have e:ipos a s=j:=by omega
    rw [← e,rd_at s _ (by omega)]
    exact h1
def iput (a:Int) (s:List Int):List Int:=if a∈s then s else iins a s
theorem iput_len (a:Int) (s:List Int):(iput a s).length≤s.length + 1:=by
  unfold iput
  split
  · exact Nat.le_succ _
  · exact Nat.le_of_eq (iins_len a s)
/-- The stage behind the first i paths. -/
noncomputable def stg (l:List S58) (s:List Int):Nat→List Int
  | 0=>s
  | i + 1=>if togeth l (iput (rd_T58 l (i:Int)).f0 (stg l s i))=true then iput (rd_T58 l (i:Int)).f0 (stg l s i) else stg l s i
theorem stg_t {l:List S58} {s:List Int} {i:Nat} (h:togeth l (iput (rd_T58 l (i:Int)).f0 (stg l s i))=true):stg l s (i + 1)=iput (rd_T58 l (i:Int)).f0 (stg l s i):=by rw [stg,if_pos h]
theorem stg_f {l:List S58} {s:List Int} {i:Nat} (h:¬ togeth l (iput (rd_T58 l (i:Int)).f0 (stg l s i))=true):stg l s (i + 1)=stg l s i:=by rw [stg,if_neg h]
theorem stg_len (l:List S58) (s:List Int):∀ i,(stg l s i).length≤s.length + i
  | 0=>Nat.le_refl _
  | i + 1=>by
    have h1:=stg_len l s i
    have h2:=iput_len (rd_T58 l (i:Int)).f0 (stg l s i)
    unfold stg
    split <;> omega
theorem stg_ok (l:List S58) (s:List Int) (h:togeth l s=true):∀ i,togeth l (stg l s i)=true
  | 0=>h
  | i + 1=>by
    unfold stg
    split
    · assumption
    · exact stg_ok l s h i
def pv (a:Int) (s:List Int):List Int:=if ipos a s < s.length∧rd s (ipos a s:Int)=a then s else iins a s
theorem pv_len (a:Int) (s:List Int):(pv a s).length≤s.length + 1:=by
  unfold pv
  split
  · exact Nat.le_succ _
  · exact Nat.le_of_eq (iins_len a s)
theorem spec_put0 (s:List Int) (a:Int) (h:s.length≤4194304):Ev (fun k=>spec_l6Put.f k s a) (pv a s):=by
  unfold spec_l6Put.f
  have hp:=ipos_le a s
  refine ev_for0 (F:=fun k i=>spec_l6Put.l0 k s a (i:Int)) (ipos a s) (fun i hi ih=>?_) ?_
  · refine Ev.step (fun k=>by rw [spec_l6Put.l0]) (ev_t (by omega) (ev_t (by omega) (ev_t ?_ ?_)))
    · rw [rd_at s i (by omega)]
      exact ipos_lt a s i hi
    · rw [w_succ (n:=ipos a s) hi (by omega)]
      exact ih
  · refine Ev.step (fun k=>by rw [spec_l6Put.l0]) ?_
    have e:((ipos a s:Nat):Int).toNat=ipos a s:=Int.toNat_natCast _
    have q1:(s.take (ipos a s)).length≤s.length:=by rw [List.length_take];omega
    have q2:(s.drop (ipos a s)).length≤s.length:=by rw [List.length_drop];omega
    by_cases hlt:ipos a s < s.length
    · refine ev_t (by omega) (ev_t (by omega) (ev_f (by rw [rd_at s _ hlt];exact ipos_at a s hlt) ?_))
      by_cases he:rd s (ipos a s:Int)=a
      · refine ev_t he (ev_call rfl (ev_t (by simp;omega) (ev_now ?_)))
        unfold pv
        rw [if_pos ⟨hlt,he⟩]
        rfl
      · refine ev_f he (ev_call rfl (ev_t (by omega) (ev_t (by rw [e];simp;omega) (ev_call rfl (ev_call rfl (ev_t (by rw [e];simp;omega) (ev_call rfl (ev_t (by rw [e];simp;omega) (ev_now ?_)))))))))
        unfold pv
        rw [if_neg (fun hh=>he hh.2),e]
        rfl
    · refine ev_f (by omega) (ev_call rfl (ev_t (by omega) (ev_t (by omega) (ev_t (by rw [e];simp;omega) (ev_call rfl (ev_call rfl (ev_t (by rw [e];simp;omega) (ev_call rfl (ev_t (by rw [e];simp;omega) (ev_now ?_))))))))))
      unfold pv
      rw [if_neg (fun hh=>hlt hh.1),e]
      rfl
theorem less_eq (a b:Int):cmp_Less_int.f a b=some (decide (a < b)):=by simp [cmp_Less_int.f,cmp_isNaN_int.f]
theorem nan_eq (a:Int):slices_isNaN_int.f a=some false:=by simp [slices_isNaN_int.f]
theorem mid_eq {i j n:Nat} (h:i≤n) (h2:j≤n) (hn:n≤4194304):wrap64 (IntKind.u64.wrap (wrap64 ((i:Int) + (j:Int))) / 2)=(((i + j) / 2:Nat):Int):=by
  rw [w64 (n:=(i:Int) + (j:Int)) (by omega) (by omega),IntKind.wrap_u64,w64 (by omega) (by omega)]
  omega
theorem bs_run (s:List Int) (a:Int) (ha:Asc s) (h:s.length≤4194304):∀ d i j:Nat,j - i≤d→i≤ipos a s→ipos a s≤j→j≤s.length→∃ b,Ev (fun k=>slices_BinarySearch_int_int.l0 k s a (s.length:Int) (i:Int) (j:Int)) ((ipos a s:Int),b):=by
  intro d
  induction d with
  | zero =>
    intro i j hd h1 h2 h3
    obtain rfl:i=ipos a s:=by omega
    by_cases hi:ipos a s < s.length
    · by_cases hr:rd s (ipos a s:Int)=a
      · exact ⟨true,Ev.step (fun k=>by rw [slices_BinarySearch_int_int.l0]) (ev_f (by omega) (ev_t (by omega) (ev_t (by omega) (ev_t (by omega) (ev_t hr (Ev.now _))))))⟩
      · exact ⟨false,Ev.step (fun k=>by rw [slices_BinarySearch_int_int.l0]) (ev_f (by omega) (ev_t (by omega) (ev_t (by omega) (ev_t (by omega) (ev_f hr (ev_call (nan_eq _) (ev_f (c:=false=true) (by decide) (Ev.now _))))))))⟩
    · exact ⟨false,Ev.step (fun k=>by rw [slices_BinarySearch_int_int.l0]) (ev_f (by omega) (ev_f (by omega) (Ev.now _)))⟩
  | succ d ih =>
    intro i j hd h1 h2 h3
    by_cases hij:i < j
    · have hm:=mid_eq (i:=i) (j:=j) (n:=s.length) (by omega) h3 h
      have hq:i≤(i + j) / 2∧(i + j) / 2 < j:=by omega
      generalize (i + j) / 2=m at hm hq
      by_cases hl:rd s (m:Int) < a
      · have hg:m + 1≤ipos a s:=by
          rcases Nat.lt_or_ge m (ipos a s) with h4|h4
          · exact h4
          · exact absurd hl (asc_ge ha a m (by omega) h4)
        obtain ⟨b,hb⟩:=ih (m + 1) j (by omega) hg h2 h3
        refine ⟨b,Ev.step (fun k=>by rw [slices_BinarySearch_int_int.l0,hm]) (ev_t (by omega) (ev_t (by omega) (ev_t (by omega) (ev_call (less_eq _ _) (ev_dt hl ?_)))))⟩
        rw [w_succ (i:=m) (n:=s.length) (by omega) (by omega)]
        exact hb
      · have hg:ipos a s≤m:=by
          rcases Nat.lt_or_ge m (ipos a s) with h4|h4
          · have h5:=ipos_lt a s m h4
            rw [rd_at s m (by omega)] at hl
            exact absurd h5 hl
          · exact h4
        obtain ⟨b,hb⟩:=ih i m (by omega) h1 hg (by omega)
        exact ⟨b,Ev.step (fun k=>by rw [slices_BinarySearch_int_int.l0,hm]) (ev_t (by omega) (ev_t (by omega) (ev_t (by omega) (ev_call (less_eq _ _) (ev_df hl hb)))))⟩
    · exact ih i j (by omega) h1 h2 h3
theorem impl_ins (s:List Int) (a:Int) (ha:Asc s) (h:s.length≤4194304):Ev (fun k=>impl_inserted.f k s a) (iins a s):=by
  unfold impl_inserted.f
  have hp:=ipos_le a s
  obtain ⟨b,hb⟩:=bs_run s a ha h s.length 0 s.length (by omega) (by omega) hp (Nat.le_refl _)
  refine ev_t (by omega) (Ev.bind hb (ev_t ⟨by show 0≤(ipos a s:Int);omega,by show (ipos a s:Int).toNat≤_;omega⟩ (ev_now ?_)))
  show s.take (ipos a s:Int).toNat ++ [a] ++ s.drop (ipos a s:Int).toNat=iins a s
  rw [Int.toNat_natCast]
  rfl
noncomputable def addV (l:List S58) (s:List Int):List Int:=if togeth l s=true then stg l s l.length else s
theorem addV_len (l:List S58) (s:List Int):(addV l s).length≤s.length + l.length:=by
  unfold addV
  split
  · exact stg_len l s _
  · omega
theorem impl_addTo (l:List S58) (s:List Int) (h:l.length≤1048576) (hs:s.length≤1048577):Ev (fun k=>impl_AddToStage.f k l s) (addV l s):=by
  unfold impl_AddToStage.f
  refine ev_call (show slices_Clone_int_int.f s=some s from if_pos (by omega)) (Ev.bind (impl_isTogether l s (by omega) (by omega)) ?_)
  unfold addV
  cases ht:togeth l s with
  | false=>exact ev_f (by decide) (ev_now (if_neg (by decide)).symm)
  | true =>
    refine ev_t rfl ?_
    rw [if_pos rfl]
    refine ev_for0 (F:=fun k i=>impl_AddToStage.l0 k l (stg l s i) l (l.length:Int) (i:Int)) l.length (fun i hi ih=>?_) (Ev.step (fun k=>by rw [impl_AddToStage.l0]) (ev_f (by omega) (Ev.now _)))
    have hl:=stg_len l s i
    refine Ev.step (fun k=>by rw [impl_AddToStage.l0]) (ev_t (by omega) (ev_t (by omega) (ev_t (by omega) (Ev.bind (slices_contains (stg l s i) _ (by omega)) ?_))))
    rw [w_succ hi (by omega)]
    by_cases hm:(rd_T58 l (i:Int)).f0∈stg l s i
    · have e:iput (rd_T58 l (i:Int)).f0 (stg l s i)=stg l s i:=if_pos hm
      rw [stg_t (by rw [e];exact stg_ok l s ht i),e] at ih
      exact ev_dt hm ih
    · have e:iput (rd_T58 l (i:Int)).f0 (stg l s i)=iins (rd_T58 l (i:Int)).f0 (stg l s i):=if_neg hm
      have hl2:=iins_len (rd_T58 l (i:Int)).f0 (stg l s i)
      refine ev_df hm (Ev.bind (impl_ins (stg l s i) _ (asc_of (stg_ok l s ht i)) (by omega)) (Ev.bind (impl_isTogether l (iins (rd_T58 l (i:Int)).f0 (stg l s i)) (by omega) (by omega)) ?_))
      by_cases hq:togeth l (iins (rd_T58 l (i:Int)).f0 (stg l s i))=true
      · rw [stg_t (by rw [e];exact hq),e] at ih
        exact ev_t hq ih
      · rw [stg_f (by rw [e];exact hq)] at ih
        exact ev_f hq ih
end Go.Proofs.YtjgonpcajedkjaaGreat.U
