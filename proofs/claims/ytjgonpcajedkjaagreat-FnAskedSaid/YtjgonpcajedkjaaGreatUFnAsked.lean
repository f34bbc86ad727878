/- FnAsked, the pure side: asking keeps a controller and its wants in form, nobody who sees green goes on waiting, and one want more is one want more. -/
import Derived.Test.YtjgonpcajedkjaaGreatFX00
import Derived.Test.YtjgonpcajedkjaaGreatFX00c
import Derived.Test.YtjgonpcajedkjaaGreatFX00e
import Derived.Test.YtjgonpcajedkjaaGreatUAsked
import Derived.Test.YtjgonpcajedkjaaGreatUDraw14
import Derived.Test.YtjgonpcajedkjaaGreatUHelp
import Derived.Test.YtjgonpcajedkjaaGreatArgs
set_option linter.unusedVariables false
set_option linter.unusedSimpArgs false
namespace Go.Proofs.YtjgonpcajedkjaaGreat.U
open Go.RowKit Go.Proofs.YtjgonpcajedkjaaGreatW.PrintWords Go.Proofs.YtjgonpcajedkjaaGreatW.PrintLast Go.Proofs.YtjgonpcajedkjaaGreat.P Go.Proofs.YtjgonpcajedkjaaGreat.Open
theorem l15Wants_ex (b:List Int) (i h:Int) (l:List S58) (h0:0≤i) (hl:b.length≤1048576) (hp:l.length≤7):∃ (q:List S39) (i' h':Int),Ev (fun k=>spec_l15Wants.f k b i h l) (q,i',h')∧q.length≤7∧0≤i':=by
  unfold spec_l15Wants.f
  have run:∀ d n:Nat,n + d=l.length→∀ (q:List S39) (i h:Int),q.length≤n→0≤i→∃ (q':List S39) (i' h':Int),Ev (fun k=>spec_l15Wants.l0 k l q (n:Int) b i h) (q',i',h')∧q'.length≤7∧0≤i':=by
    intro d
    induction d with
    | zero=>exact fun n hn q i h hq hi=>⟨q,i,h,Ev.step (fun k=>by rw [spec_l15Wants.l0]) (ev_f (by omega) (Ev.now _)),by omega,hi⟩
    | succ d ih =>
      intro n hn q i h hq hi
      obtain ⟨o,i1,h1,e1,j1⟩:=l1Once_ex b i h 2 hi hl (by decide) (by decide)
      cases o with
      | false =>
        obtain ⟨q',i',h',e',r1,r2⟩:=ih (n + 1) (by omega) q i1 h1 (by omega) j1
        refine ⟨q',i',h',Ev.step (fun k=>by rw [spec_l15Wants.l0]) (ev_t (by omega) (ev_call e1 (ev_f Bool.false_ne_true ?_))),r1,r2⟩
        rw [w_succ (i:=n) (n:=l.length) (by omega) (by omega)]
        exact e'
      | true =>
        obtain ⟨x,i2,h2,e2,_,_,j2⟩:=l1Below_ex b i1 h1 30 j1 hl (by decide) (by decide)
        obtain ⟨q',i',h',e',r1,r2⟩:=ih (n + 1) (by omega) (q ++ [⟨(rd_T58 l (n:Int)).f0,x⟩]) i2 h2 (by rw [List.length_append,List.length_singleton];omega) j2
        refine ⟨q',i',h',Ev.step (fun k=>by rw [spec_l15Wants.l0]) (ev_t (by omega) (ev_call e1 (ev_t rfl ?_))),r1,r2⟩
        refine ev_t (by omega) (ev_call e2 ?_)
        refine ev_t (by omega) ?_
        rw [w_succ (i:=n) (n:=l.length) (by omega) (by omega)]
        exact e'
  exact run l.length 0 (by omega) [] i h (by simp) h0
theorem l15Any_ex (b:List Int) (i h:Int) (h0:0≤i) (hl:b.length≤1048576):∃ (l:List S58) (c:S27) (q:List S39) (i' h':Int),Ev (fun k=>spec_l15Any.f k b i h) (l,c.f0,c.f1,c.f2,c.f3,q,i',h')∧l.length≤7∧CW l c∧q.length≤7:=by
  unfold spec_l15Any.f
  obtain ⟨l,c,i1,h1,e1,r1,w,j1⟩:=l14Any_ex b i h h0 hl
  obtain ⟨q,i2,h2,e2,r2,j2⟩:=l15Wants_ex b i1 h1 l j1 hl r1
  have fin:∀ (q:List S39) (i h:Int),0≤i→q.length≤7→∃ (c':S27) (i' h':Int),Ev (fun k=>spec_l15Any.j0 k l q b i h c.f0 c.f1 c.f2 c.f3) (l,c'.f0,c'.f1,c'.f2,c'.f3,q,i',h')∧CW l c':=by
    intro q i h hi _
    obtain ⟨o,i1,h1,e1,j1⟩:=l1Once_ex b i h 6 hi hl (by decide) (by decide)
    cases o with
    | false=>exact ⟨c,i1,h1,Ev.step (fun k=>by rw [spec_l15Any.j0]) (ev_call e1 (ev_f Bool.false_ne_true (Ev.now _))),w⟩
    | true =>
      by_cases c2:(c.f2.length:Int)=0
      · by_cases c0:(c.f0.length:Int) > 0
        · obtain ⟨y,i4,h4,e4,_,_⟩:=l1Int_ex b i1 h1 [59,60,61] j1 hl (by decide) (by decide)
          refine ⟨⟨c.f0,y,c.f2,c.f3⟩,i4,h4,Ev.step (fun k=>by rw [spec_l15Any.j0]) (ev_call e1 (ev_t rfl (ev_t c2 (ev_t c0 ?_)))),⟨w.hl,w.h0,w.h2⟩⟩
          refine ev_call e4 ?_
          exact Ev.now _
        · exact ⟨c,i1,h1,Ev.step (fun k=>by rw [spec_l15Any.j0]) (ev_call e1 (ev_t rfl (ev_t c2 (ev_f c0 (Ev.now _))))),w⟩
      · exact ⟨c,i1,h1,Ev.step (fun k=>by rw [spec_l15Any.j0]) (ev_call e1 (ev_t rfl (ev_f c2 (Ev.now _)))),w⟩
  by_cases n:(q.length:Int) > 0
  · obtain ⟨x,i3,h3,e3,_,_,j3⟩:=l1Below_ex b i2 h2 10 j2 hl (by decide) (by decide)
    by_cases x0:x=0
    · obtain ⟨y,i4,h4,e4,_,_,j4⟩:=l1Below_ex b i3 h3 22 j3 hl (by decide) (by decide)
      obtain ⟨c',i5,h5,e5,w5⟩:=fin (q.set (0:Int).toNat ⟨y,(rd_T39 q 0).f1⟩) i4 h4 j4 (by rw [List.length_set];exact r2)
      exact ⟨l,c',_,i5,h5,Ev.bind e1 (Ev.bind e2 (ev_t n (ev_call e3 (ev_t x0 (ev_call e4 (ev_t n e5)))))),r1,w5,by rw [List.length_set];exact r2⟩
    · by_cases x1:x=1
      · obtain ⟨y,i4,h4,e4,_,j4⟩:=l1Int_ex b i3 h3 [-1,100000,100001] j3 hl (by decide) (by decide)
        obtain ⟨c',i5,h5,e5,w5⟩:=fin (q.set (0:Int).toNat ⟨(rd_T39 q 0).f0,y⟩) i4 h4 j4 (by rw [List.length_set];exact r2)
        exact ⟨l,c',_,i5,h5,Ev.bind e1 (Ev.bind e2 (ev_t n (ev_call e3 (ev_f x0 (ev_t x1 (ev_call e4 (ev_t n e5))))))),r1,w5,by rw [List.length_set];exact r2⟩
      · obtain ⟨c',i5,h5,e5,w5⟩:=fin q i3 h3 j3 r2
        exact ⟨l,c',q,i5,h5,Ev.bind e1 (Ev.bind e2 (ev_t n (ev_call e3 (ev_f x0 (ev_f x1 e5))))),r1,w5,r2⟩
  · obtain ⟨c',i5,h5,e5,w5⟩:=fin q i2 h2 j2 r2
    exact ⟨l,c',q,i5,h5,Ev.bind e1 (Ev.bind e2 (ev_f n e5)),r1,w5,r2⟩
theorem drawStep_ex (b:List Int) (hl:b.length≤1048576):∃ (l:List S58) (c:S27) (q:List S39),Ev (fun k=>spec_DrawStepAsk.f k b) (l,c.f0,c.f1,c.f2,c.f3,q)∧l.length≤7∧CW l c∧q.length≤7:=by
  unfold spec_DrawStepAsk.f spec_DrawNextStage.f
  obtain ⟨h,e0⟩:=l1New_ex b hl
  obtain ⟨l,c,q,i1,h1,e1,r1,w,r2⟩:=l15Any_ex b 0 h (by decide) hl
  exact ⟨l,c,q,Ev.bind (Ev.bind e0 (Ev.bind e1 (Ev.now _))) (Ev.now _),r1,w,r2⟩
theorem drawAdd_ex (b:List Int) (hl:b.length≤1048576):∃ (l:List S58) (q:List S39) (x:Int),Ev (fun k=>spec_DrawAddWant.f k b) (l,q,x)∧l.length≤7∧q.length≤7:=by
  unfold spec_DrawAddWant.f spec_DrawAreWants.f
  obtain ⟨h,e0⟩:=l1New_ex b hl
  obtain ⟨l,c,q,i1,h1,e1,r1,_,r2⟩:=l15Any_ex b 0 h (by decide) hl
  obtain ⟨x,i2,h2,e2,_,_,_⟩:=l1Below_ex b 0 h 10 (by decide) hl (by decide) (by decide)
  exact ⟨l,q,x,Ev.bind (Ev.bind e0 (Ev.bind e1 (Ev.now _))) (Ev.bind e0 (ev_call e2 (Ev.now _))),r1,r2⟩
theorem asked_end (b:List Int) (hl:b.length≤1048576):Ev (fun k=>laws_FnAsked.j3 k b false) true∧Ev (fun k=>laws_FnAsked.j4 k b false) true:=by
  obtain ⟨l,q,x,e,r1,r2⟩:=drawAdd_ex b hl
  have a:=impl_addWant l q x (by omega) (by omega)
  unfold awV at a
  have n1:=insW_len x q
  by_cases h:areW l (insW x q)=true
  · rw [if_pos h] at a
    have e1:=impl_areWants l (insW x q) (by omega) (by omega)
    have e2:((insW x q).length:Int)=wrap64 ((q.length:Int) + 1):=by rw [w64 (n:=(q.length:Int) + 1) (by omega) (by omega),n1];omega
    exact ⟨Ev.step (fun k=>by rw [laws_FnAsked.j3]) (ev_f Bool.false_ne_true (Ev.bind e (Ev.bind a (ev_t rfl (Ev.bind e1 (ev_t h (ev_t e2 (Ev.now _)))))))),
      Ev.step (fun k=>by rw [laws_FnAsked.j4]) (ev_f Bool.false_ne_true (Ev.bind e (Ev.bind a (ev_t rfl (Ev.bind e1 (ev_t h (ev_t e2 (Ev.now _))))))))⟩
  · rw [if_neg h] at a
    exact ⟨Ev.step (fun k=>by rw [laws_FnAsked.j3]) (ev_f Bool.false_ne_true (Ev.bind e (Ev.bind a (ev_f Bool.false_ne_true (ev_now (beq_self_eq_true _)))))),
      Ev.step (fun k=>by rw [laws_FnAsked.j4]) (ev_f Bool.false_ne_true (Ev.bind e (Ev.bind a (ev_f Bool.false_ne_true (ev_now (beq_self_eq_true _))))))⟩
theorem impl_eqC {l:List S58} {c:S27} (w:CW l c):Ev (fun k=>impl_EqualControls.f k c.f0 c.f1 c.f2 c.f3 c.f0 c.f1 c.f2 c.f3) true:=by
  have h0:=w.h0
  have h2:=w.h2
  unfold impl_EqualControls.f
  exact ev_t rfl (ev_t rfl (Ev.bind (slices_equal _ _ (by omega)) (ev_dt rfl (Ev.bind (slices_equal _ _ (by omega)) (ev_now (by simp))))))
theorem FnAsked:∀ (x0:List Int),(okL okU) x0→∃ k,laws_FnAsked.f k x0=some true:=by
  intro b _
  refine ev_rounds ?_
  unfold laws_FnAsked.f
  by_cases hbig:(b.length:Int) > 1048576
  · exact ev_call (show laws_big.f b=some true from congrArg some (decide_eq_true hbig)) (ev_t rfl (Ev.now _))
  refine ev_call (show laws_big.f b=some false from congrArg some (decide_eq_false hbig)) (ev_f (by decide) ?_)
  obtain ⟨l,c,q,e,r1,w,r2⟩:=drawStep_ex b (by omega)
  obtain ⟨t3,t4⟩:=asked_end b (by omega)
  obtain ⟨y,v,wy,hv,ey,p1,p2⟩:=stepI w q (by omega) (by omega)
  have ia:=impl_areWants l q w.hl (by omega)
  refine Ev.bind e (Ev.bind ey (Ev.bind (impl_ctl w) ?_))
  have no:¬ (ctl l c=true∧areW l q=true)→Ev (fun k=>laws_FnAsked.j0 k b l q v false c.f0 c.f1 c.f2 c.f3 y.f0 y.f1 y.f2 y.f3) true:=fun n=>by
    obtain ⟨rfl,rfl⟩:=p2 n
    refine Ev.step (fun k=>by rw [laws_FnAsked.j0]) (ev_f Bool.false_ne_true (Ev.bind (impl_eqC w) (ev_t rfl ?_)))
    rw [bne_self_eq_false]
    exact t4
  by_cases hc:ctl l c=true
  · refine ev_t hc (Ev.bind ia ?_)
    by_cases ha:areW l q=true
    · obtain ⟨cy,hvw⟩:=p1 ⟨hc,ha⟩
      have hP:=(areW_iff.1 ha).2
      have av:areW l v=true:=by rw [hvw];exact ww_are ha
      have lg:(lgts l y l.length).length=l.length:=lgts_len _ _ _
      have gl:=gids_len l (lgts l y l.length) l.length
      have hd:decide ((v.length:Int) > (q.length:Int))=false:=decide_eq_false (by omega)
      have dark:∀ i:Nat,i < v.length→(rd_T39 v (i:Int)).f0 ∉ gids l (lgts l y l.length) l.length:=fun i hi=>by
        rw [hvw] at hi ⊢
        exact ww_dark hP hi
      rw [ha]
      refine Ev.step (fun k=>by rw [laws_FnAsked.j0]) (ev_t rfl (Ev.bind (impl_ctl wy) (ev_t cy (Ev.bind (impl_areWants l v w.hl (by omega)) (ev_t av ?_)))))
      rw [hd]
      refine Ev.step (fun k=>by rw [laws_FnAsked.j1]) (ev_f Bool.false_ne_true (Ev.bind (impl_lgts wy cy) (Ev.bind (laws_greens_val l _ lg (by omega)) ?_)))
      refine ev_for0 (F:=fun k i=>laws_FnAsked.l0 k b l q v (gids l (lgts l y l.length) l.length) (i:Int) c.f0 c.f1 c.f2 c.f3) v.length (fun i hi ih=>?_) ?_
      · refine Ev.step (fun k=>by rw [laws_FnAsked.l0]) (ev_t (by omega) (ev_t (by omega) (Ev.bind (laws_contains_eq _ _ (by omega)) (ev_df (dark i hi) ?_))))
        rw [w_succ hi (by omega)]
        exact ih
      · refine Ev.step (fun k=>by rw [laws_FnAsked.l0]) (ev_f (by omega) ?_)
        obtain ⟨m,s,hs,is,im,hm⟩:=mustI w q (by omega)
        cases m with
        | false=>exact Ev.bind im (ev_f Bool.false_ne_true t3)
        | true =>
          obtain ⟨he,hs'⟩:=hm rfl
          have mm:longest q c.f0∈s:=by rw [hs'];exact addV_mem (List.mem_singleton.2 rfl)
          have cm:=laws_contains_eq s (longest q c.f0) (by omega)
          rw [decide_eq_true mm] at cm
          exact Ev.bind im (ev_t rfl (Ev.bind (impl_end w) (ev_t he (Ev.bind is (Ev.bind (impl_longest q c.f0 (by omega) w.h0) (Ev.bind cm t3))))))
    · rw [Bool.eq_false_iff.2 ha]
      exact no (fun n=>ha n.2)
  · exact ev_f hc (no (fun n=>hc n.1))
end Go.Proofs.YtjgonpcajedkjaaGreat.U
