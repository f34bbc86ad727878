/- Marks in a row of wants, and the same found again. -/
import Derived.Test.YtdkmmefmhfbgkaaGreatFX00d
import Derived.Test.YtdkmmefmhfbgkaaGreatEv
import Derived.Test.YtdkmmefmhfbgkaaGreatURd
set_option linter.unusedVariables false
set_option linter.unusedSimpArgs false
namespace Go.Proofs.YtdkmmefmhfbgkaaGreat.U
open Go.RowKit Go.Proofs.YtdkmmefmhfbgkaaGreatW.PrintWords Go.Proofs.YtdkmmefmhfbgkaaGreatW.PrintLast Go.Proofs.YtdkmmefmhfbgkaaGreat.P
def wm (a:Int) (n:Nat):List S92:=(List.range n).map (fun j:Nat=>(⟨a + 2 * (j:Int),a + 2 * (j:Int) + 1⟩:S92))
theorem wm_len (a:Int) (n:Nat):(wm a n).length=n:=by simp [wm]
theorem wm_succ (a:Int) (n:Nat):wm a (n + 1)=wm a n ++ [(⟨a + 2 * (n:Int),a + 2 * (n:Int) + 1⟩:S92)]:=by
  unfold wm;rw [List.range_succ,List.map_append];rfl
theorem wm_rd (a:Int) (n i:Nat) (h:i < n):rd_T92 (wm a n) (i:Int)=⟨a + 2 * (i:Int),a + 2 * (i:Int) + 1⟩:=by
  rw [rd92 _ i (by rw [wm_len];exact h)]
  simp [wm]
theorem wm_all (l:List S92) (a:Int) (i:Nat) (h:i≤l.length):(wm a i ++ l.drop i).length=l.length:=by
  rw [List.length_append,wm_len,List.length_drop];omega
theorem wm_set (l:List S92) (a:Int) (i:Nat) (h:i < l.length) (y:Int) :
    List.set (List.set (wm a i ++ l.drop i) ((i:Int)).toNat (⟨a + 2 * (i:Int),y⟩:S92)) ((i:Int)).toNat (⟨(rd_T92 (List.set (wm a i ++ l.drop i) ((i:Int)).toNat (⟨a + 2 * (i:Int),y⟩:S92)) (i:Int)).f0,a + 2 * (i:Int) + 1⟩:S92)=wm a (i + 1) ++ l.drop (i + 1):=by
  have hm:=wm_all l a i (by omega)
  rw [Int.toNat_natCast,rd92 _ i (by rw [List.length_set];omega),List.getElem_set_self,List.set_set]
  rw [List.set_append_right _ _ (by rw [wm_len];omega),wm_len,Nat.sub_self,List.drop_eq_getElem_cons h,List.set_cons_zero,wm_succ,List.append_assoc]
  rfl
theorem markWantV (l:List S92) (a:Int) (h:l.length≤1099511627776) (h0:0≤a) (h1:a≤1099511627776):Ev (fun k=>laws_markWantS.f k l a) (a + 2 * l.length,wm a l.length):=by
  unfold laws_markWantS.f
  have e:Ev (fun k=>laws_markWantS.l0 k (wm a 0 ++ l.drop 0) (a + 2 * ((0:Nat):Int)) ((0:Nat):Int)) (a + 2 * l.length,wm a l.length):=by
    refine ev_for0 (F:=fun k i=>laws_markWantS.l0 k (wm a i ++ l.drop i) (a + 2 * (i:Int)) (i:Int)) l.length (fun i hi ih=>?_) ?_
    · have hm:=wm_all l a i (by omega)
      refine Ev.step (fun k=>by rw [laws_markWantS.l0]) ?_
      refine ev_t (by rw [hm];omega) (ev_t (by omega) ?_)
      refine ev_call rfl ?_
      rw [w64 (n:=a + 2 * (i:Int) + 1) (by omega) (by omega),wm_set l a i hi,w_succ hi (by omega),w64 (n:=a + 2 * (i:Int) + 1 + 1) (by omega) (by omega),show a + 2 * (i:Int) + 1 + 1=a + 2 * ((i + 1:Nat):Int) by omega]
      exact ih
    · have hm:=wm_all l a l.length (by omega)
      refine Ev.step (fun k=>by rw [laws_markWantS.l0]) ?_
      refine ev_f (by rw [hm];omega) (ev_now ?_)
      rw [List.drop_length,List.append_nil]
  have e0:a + 2 * ((0:Nat):Int)=a:=by omega
  rw [e0] at e
  exact e
theorem heldWantV (n:Nat) (a:Int) (h:n≤1099511627776) (h0:0≤a) (h1:a≤1099511627776):Ev (fun k=>laws_heldWantS.f k (wm a n) a) (a + 2 * n):=by
  unfold laws_heldWantS.f
  have hl:=wm_len a n
  have e:Ev (fun k=>laws_heldWantS.l0 k (wm a n) (a + 2 * ((0:Nat):Int)) ((0:Nat):Int)) (a + 2 * n):=by
    refine ev_for0 (F:=fun k i=>laws_heldWantS.l0 k (wm a n) (a + 2 * (i:Int)) (i:Int)) n (fun i hi ih=>?_) ?_
    · refine Ev.step (fun k=>by rw [laws_heldWantS.l0]) ?_
      refine ev_t (by rw [hl];omega) (ev_t (by omega) ?_)
      rw [wm_rd a n i hi]
      rw [w64 (n:=a + 2 * (i:Int) + 1) (by omega) (by omega),w64 (n:=a + 2 * (i:Int) + 1 + 1) (by omega) (by omega)]
      refine ev_t rfl (ev_t rfl ?_)
      rw [w_succ hi (by omega),show a + 2 * (i:Int) + 1 + 1=a + 2 * ((i + 1:Nat):Int) by omega]
      exact ih
    · refine Ev.step (fun k=>by rw [laws_heldWantS.l0]) ?_
      exact ev_f (by rw [hl];omega) (Ev.now _)
  have e0:a + 2 * ((0:Nat):Int)=a:=by omega
  rw [e0] at e
  exact e
end Go.Proofs.YtdkmmefmhfbgkaaGreat.U
