/- Stages, and controllers in them: the reference's search and its draws come to an end. -/
import Derived.Test.YtjgonpcajedkjaaGreatFX00
import Derived.Test.YtjgonpcajedkjaaGreatFX00b
import Derived.Test.YtjgonpcajedkjaaGreatFX00c
import Derived.Test.YtjgonpcajedkjaaGreatUAsk
import Derived.Test.YtjgonpcajedkjaaGreatUStage
import Derived.Test.YtjgonpcajedkjaaGreatUDraw
set_option linter.unusedVariables false
set_option linter.unusedSimpArgs false
namespace Go.Proofs.YtjgonpcajedkjaaGreat.U
open Go.RowKit Go.Proofs.YtjgonpcajedkjaaGreatW.PrintWords Go.Proofs.YtjgonpcajedkjaaGreatW.PrintLast Go.Proofs.YtjgonpcajedkjaaGreat.P
theorem fullStage_ex (l:List S58) (s:List Int) (h:l.length≤12) (hs:s.length≤4000):∃ t,Ev (fun k=>spec_IsFullStage.f k l s) t:=by
  unfold spec_IsFullStage.f
  have run:∀ e i:Nat,i + e=l.length→∃ t,Ev (fun k=>spec_IsFullStage.l0 k l s (i:Int)) t:=by
    intro e
    induction e with
    | zero =>
      intro i hi
      exact ⟨_,Ev.step (fun k=>by rw [spec_IsFullStage.l0]) (ev_f (by omega) (Ev.bind (spec_isTogether l s (by omega) (by omega)) (Ev.now _)))⟩
    | succ e ih =>
      intro i hi
      obtain ⟨t,e1⟩:=ih (i + 1) (by omega)
      rw [← w_succ (i:=i) (n:=l.length) (by omega) (by omega)] at e1
      by_cases hm:(rd_T58 l (i:Int)).f0∈s
      · exact ⟨t,Ev.step (fun k=>by rw [spec_IsFullStage.l0]) (ev_t (by omega) (ev_t (by omega) (Ev.bind (spec_has s _ (by omega)) (ev_dt hm e1))))⟩
      · have hp:=pv_len (rd_T58 l (i:Int)).f0 s
        have et:=spec_isTogether l (pv (rd_T58 l (i:Int)).f0 s) (by omega) (by omega)
        have ep:=spec_put0 s (rd_T58 l (i:Int)).f0 (by omega)
        by_cases ht:togeth l (pv (rd_T58 l (i:Int)).f0 s)=true
        · exact ⟨false,Ev.step (fun k=>by rw [spec_IsFullStage.l0]) (ev_t (by omega) (ev_t (by omega) (Ev.bind (spec_has s _ (by omega)) (ev_df hm (Ev.bind ep (Ev.bind et (ev_t ht (Ev.now _))))))))⟩
        · exact ⟨t,Ev.step (fun k=>by rw [spec_IsFullStage.l0]) (ev_t (by omega) (ev_t (by omega) (Ev.bind (spec_has s _ (by omega)) (ev_df hm (Ev.bind ep (Ev.bind et (ev_f ht e1)))))))⟩
  exact run l.length 0 (by omega)
def St40 (v:List (List Int)):Prop:=v.length≤40∧∀ s∈v,s.length≤12
theorem search_ex (l:List S58) (h:l.length≤12):∀ d i:Nat,i + d=l.length→∀ (s:List Int) (o:List (List Int)),s.length≤i→St40 o→∃ v,St40 v∧Ev (fun k=>spec_l6Search.f k l (i:Int) s o) v:=by
  intro d
  induction d with
  | zero =>
    intro i hi s o hs ho
    have ho1:=ho.1
    have jf:Ev (fun _=>spec_l6Search.j0 s o false) o:=by unfold spec_l6Search.j0;exact ev_f (by decide) (Ev.now _)
    have e0:(i:Int)=(l.length:Int):=by omega
    by_cases c1:(s.length:Int) > 0
    · by_cases c2:(o.length:Int) < 40
      · obtain ⟨t,e⟩:=fullStage_ex l s h (by omega)
        cases t with
        | true =>
          have jt:Ev (fun _=>spec_l6Search.j0 s o true) (o ++ [s]):=by unfold spec_l6Search.j0;exact ev_t rfl (ev_t (by omega) (ev_t (by omega) (Ev.now _)))
          refine ⟨o ++ [s],⟨by rw [List.length_append,List.length_singleton];omega,fun x hx=>?_⟩,Ev.step (fun k=>by rw [spec_l6Search.f]) (ev_t e0 (ev_t c1 (ev_t c2 (Ev.bind e jt))))⟩
          rcases List.mem_append.1 hx with h1|h1
          · exact ho.2 x h1
          · rw [List.mem_singleton.1 h1];omega
        | false=>exact ⟨o,ho,Ev.step (fun k=>by rw [spec_l6Search.f]) (ev_t e0 (ev_t c1 (ev_t c2 (Ev.bind e jf))))⟩
      · exact ⟨o,ho,Ev.step (fun k=>by rw [spec_l6Search.f]) (ev_t e0 (ev_t c1 (ev_f c2 jf)))⟩
    · exact ⟨o,ho,Ev.step (fun k=>by rw [spec_l6Search.f]) (ev_t e0 (ev_f c1 jf))⟩
  | succ d ih =>
    intro i hi s o hs ho
    have n1:¬ (i:Int)=(l.length:Int):=by omega
    have hw:(([] ++ s) ++ [(rd_T58 l (i:Int)).f0]).length=s.length + 1:=by simp
    have et:=spec_isTogether l (([] ++ s) ++ [(rd_T58 l (i:Int)).f0]) (by omega) (by omega)
    by_cases t:togeth l (([] ++ s) ++ [(rd_T58 l (i:Int)).f0])=true
    · obtain ⟨v1,hv1,e1⟩:=ih (i + 1) (by omega) (([] ++ s) ++ [(rd_T58 l (i:Int)).f0]) o (by omega) ho
      obtain ⟨v2,hv2,e2⟩:=ih (i + 1) (by omega) s v1 (by omega) hv1
      rw [← w_succ (i:=i) (n:=l.length) (by omega) (by omega)] at e1 e2
      refine ⟨v2,hv2,Ev.step (fun k=>by rw [spec_l6Search.f]) (ev_f n1 (ev_some ?_))⟩
      refine ev_t (show ([]:List Int).length + s.length < 17592186044416 by simp;omega) (ev_some (ev_t (by omega) (ev_t (by omega) (ev_some ?_))))
      refine ev_t (by simp;omega) (Ev.bind et ?_)
      exact ev_t t (Ev.bind e1 e2)
    · obtain ⟨v2,hv2,e2⟩:=ih (i + 1) (by omega) s o (by omega) ho
      rw [← w_succ (i:=i) (n:=l.length) (by omega) (by omega)] at e2
      refine ⟨v2,hv2,Ev.step (fun k=>by rw [spec_l6Search.f]) (ev_f n1 (ev_some ?_))⟩
      refine ev_t (show ([]:List Int).length + s.length < 17592186044416 by simp;omega) (ev_some (ev_t (by omega) (ev_t (by omega) (ev_some ?_))))
      refine ev_t (by simp;omega) (Ev.bind et ?_)
      exact ev_f t e2
theorem stagesOf_ex (l:List S58) (h:l.length≤12):∃ v,St40 v∧Ev (fun k=>spec_StagesOf.f k l) v:=by
  unfold spec_StagesOf.f
  by_cases ha:areP l=true
  · obtain ⟨v,hv,e⟩:=search_ex l h l.length 0 (by omega) [] [] (by simp) ⟨by simp,by simp⟩
    exact ⟨v,hv,Ev.bind (spec_arePaths l (by omega)) (ev_t ha (Ev.bind e (Ev.now _)))⟩
  · exact ⟨[],⟨by simp,by simp⟩,Ev.bind (spec_arePaths l (by omega)) (ev_f ha (Ev.now _))⟩
theorem St40.row {v:List (List Int)} (h:St40 v) {x:Int} (h0:0≤x) (h1:x < (v.length:Int)):(rd_L4 v x).length≤12:=by
  unfold rd_L4
  rw [List.getD_eq_getElem?_getD,List.getElem?_eq_getElem (show x.toNat < v.length by omega)]
  exact h.2 _ (List.getElem_mem _)
theorem l14Draw_ex (b:List Int) (i h:Int) (l:List S58) (h0:0≤i) (hl:b.length≤1048576) (hp:l.length≤12):∃ (c:S27) (i' h':Int),Ev (fun k=>spec_l14Draw.f k b i h l) (c.f0,c.f1,c.f2,c.f3,i',h')∧CW l c∧0≤i':=by
  unfold spec_l14Draw.f
  obtain ⟨v,hv,es⟩:=stagesOf_ex l hp
  have hv1:=hv.1
  by_cases n:(v.length:Int)=0
  · exact ⟨⟨[1],0,[],0⟩,i,h,Ev.bind es (ev_t n (Ev.now _)),⟨by omega,by simp,by simp⟩,h0⟩
  obtain ⟨x1,i1,h1,e1,a1,b1,j1⟩:=l1Below_ex b i h (v.length:Int) h0 hl (by omega) (by omega)
  obtain ⟨x2,i2,h2,e2,a2,b2,j2⟩:=l1Below_ex b i1 h1 12 j1 hl (by decide) (by decide)
  obtain ⟨o,i3,h3,e3,j3⟩:=l1Once_ex b i2 h2 3 j2 hl (by decide) (by decide)
  have r1:=hv.row a1 b1
  have w1:CW l ⟨[] ++ rd_L4 v x1,x2,[],0⟩:=⟨by omega,by simp;omega,by simp⟩
  cases o with
  | false=>exact ⟨⟨[] ++ rd_L4 v x1,x2,[],0⟩,i3,h3,Ev.bind es (ev_f n (ev_some (ev_call e1 (ev_t a1 (ev_t b1 (ev_t (by simp;omega) (ev_some (ev_call e2 (ev_call e3 (ev_f (fun hh=>Bool.noConfusion hh) (Ev.now _))))))))))),w1,j3⟩
  | true =>
    obtain ⟨x4,i4,h4,e4,a4,b4,j4⟩:=l1Below_ex b i3 h3 (v.length:Int) j3 hl (by omega) (by omega)
    obtain ⟨x5,i5,h5,e5,a5,b5,j5⟩:=l1Below_ex b i4 h4 3 j4 hl (by decide) (by decide)
    have r4:=hv.row a4 b4
    have ea:=spec_ask w1 (rd_L4 v x4) (by omega)
    have la:=askV_len w1 (rd_L4 v x4) (by omega)
    obtain ⟨m,rfl⟩:∃ m:Nat,x5=(m:Int):=⟨x5.toNat,by omega⟩
    have run:∀ m:Nat,m≤100→∀ c:S27,CW l c→∃ c':S27,Ev (fun k=>spec_l14Draw.l0 k l (m:Int) b i5 h5 c.f0 c.f1 c.f2 c.f3) (c'.f0,c'.f1,c'.f2,c'.f3,i5,h5)∧CW l c':=by
      intro m
      induction m with
      | zero=>exact fun _ c w=>⟨c,Ev.step (fun k=>by rw [spec_l14Draw.l0]) (ev_f (by omega) (Ev.now _)),w⟩
      | succ m ih =>
        intro hm c w
        have lt:=tickV_len w
        obtain ⟨c',e',w'⟩:=ih (by omega) ⟨(tickV l c).1,(tickV l c).2.1,(tickV l c).2.2.1,(tickV l c).2.2.2⟩ ⟨w.hl,lt.1,lt.2⟩
        refine ⟨c',Ev.step (fun k=>by rw [spec_l14Draw.l0]) (ev_t (by omega) (Ev.bind (spec_tick w) ?_)),w'⟩
        rw [w64 (n:=((m + 1:Nat):Int) - 1) (by omega) (by omega),show ((m + 1:Nat):Int) - 1=(m:Int) by omega]
        exact e'
    obtain ⟨c',e',w'⟩:=run m (by omega) ⟨(askV l ⟨[] ++ rd_L4 v x1,x2,[],0⟩ (rd_L4 v x4)).1,(askV l ⟨[] ++ rd_L4 v x1,x2,[],0⟩ (rd_L4 v x4)).2.1,(askV l ⟨[] ++ rd_L4 v x1,x2,[],0⟩ (rd_L4 v x4)).2.2.1,(askV l ⟨[] ++ rd_L4 v x1,x2,[],0⟩ (rd_L4 v x4)).2.2.2.1⟩ ⟨by omega,la.1,la.2⟩
    exact ⟨c',i5,h5,Ev.bind es (ev_f n (ev_some (ev_call e1 (ev_t a1 (ev_t b1 (ev_t (by simp;omega) (ev_some (ev_call e2 (ev_call e3 (ev_t rfl (ev_call e4 (ev_t a4 (ev_t b4 (Ev.bind ea (ev_call e5 e'))))))))))))))),w',j5⟩
theorem l14Any_ex (b:List Int) (i h:Int) (h0:0≤i) (hl:b.length≤1048576):∃ (l:List S58) (c:S27) (i' h':Int),Ev (fun k=>spec_l14Any.f k b i h) (l,c.f0,c.f1,c.f2,c.f3,i',h')∧l.length≤7∧CW l c∧0≤i':=by
  unfold spec_l14Any.f
  obtain ⟨l,i1,h1,e1,_,r1,j1⟩:=l5Any_ex b i h h0 hl
  obtain ⟨c,i2,h2,e2,w,j2⟩:=l14Draw_ex b i1 h1 l j1 hl (by omega)
  obtain ⟨x,i3,h3,e3,x0,x1,j3⟩:=l1Below_ex b i2 h2 10 j2 hl (by decide) (by decide)
  by_cases c0:x=0
  · obtain ⟨y,i4,h4,e4,_,j4⟩:=l1Int_ex b i3 h3 [-1,1000000,1000001] j3 hl (by decide) (by decide)
    exact ⟨l,⟨c.f0,y,c.f2,c.f3⟩,i4,h4,Ev.bind e1 (Ev.bind e2 (ev_call e3 (ev_t c0 (ev_call e4 (Ev.now _))))),r1,⟨w.hl,w.h0,w.h2⟩,j4⟩
  by_cases c1:x=1
  · obtain ⟨y,i4,h4,e4,_,j4⟩:=l1Int_ex b i3 h3 [-1,1,9] j3 hl (by decide) (by decide)
    exact ⟨l,⟨c.f0,c.f1,c.f2,y⟩,i4,h4,Ev.bind e1 (Ev.bind e2 (ev_call e3 (ev_f c0 (ev_t c1 (ev_call e4 (Ev.now _)))))),r1,⟨w.hl,w.h0,w.h2⟩,j4⟩
  by_cases c2:x=2
  · exact ⟨l,⟨c.f0,c.f1,[1],c.f3⟩,i3,h3,Ev.bind e1 (Ev.bind e2 (ev_call e3 (ev_f c0 (ev_f c1 (ev_t c2 (Ev.now _)))))),r1,⟨w.hl,w.h0,by simp⟩,j3⟩
  by_cases c3:x=3
  · exact ⟨l,⟨[],c.f1,c.f2,c.f3⟩,i3,h3,Ev.bind e1 (Ev.bind e2 (ev_call e3 (ev_f c0 (ev_f c1 (ev_f c2 (ev_t c3 (Ev.now _))))))),r1,⟨w.hl,by simp,w.h2⟩,j3⟩
  · exact ⟨l,c,i3,h3,Ev.bind e1 (Ev.bind e2 (ev_call e3 (ev_f c0 (ev_f c1 (ev_f c2 (ev_f c3 (Ev.now _))))))),r1,w,j3⟩
end Go.Proofs.YtjgonpcajedkjaaGreat.U
