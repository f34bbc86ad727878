/- Do two paths cross: the program's way and the reference's come to one answer. -/
import Derived.Test.YtjgonpcajedkjaaGreatFX00
import Derived.Test.YtjgonpcajedkjaaGreatFX00c
import Derived.Test.YtjgonpcajedkjaaGreatUPaths
set_option linter.unusedVariables false
set_option linter.unusedSimpArgs false
namespace Go.Proofs.YtjgonpcajedkjaaGreat.U
open Go.RowKit Go.Proofs.YtjgonpcajedkjaaGreatW.PrintWords Go.Proofs.YtjgonpcajedkjaaGreatW.PrintLast Go.Proofs.YtjgonpcajedkjaaGreat.P
def ilvOk (a b c d:Fin 4):Bool :=
  match spec_Interleave.f 40 (2 * (a.val:Int)) (2 * (b.val:Int) + 1) (2 * (c.val:Int)) (2 * (d.val:Int) + 1) with
  | some v=>decide (impl_Interleave.f 40 (2 * (a.val:Int)) (2 * (b.val:Int) + 1) (2 * (c.val:Int)) (2 * (d.val:Int) + 1)=some v) && (decide (a≠c) || !v)
  | none=>false
set_option maxRecDepth 100000 in
theorem ilv_all:∀ a b c d:Fin 4,ilvOk a b c d=true:=by decide +kernel
theorem ilv_ex {a b c d:Int} (ha:0≤a∧a≤3) (hb:0≤b∧b≤3) (hc:0≤c∧c≤3) (hd:0≤d∧d≤3) :
    ∃ v,Ev (fun k=>spec_Interleave.f k (2 * a) (2 * b + 1) (2 * c) (2 * d + 1)) v∧Ev (fun k=>impl_Interleave.f k (2 * a) (2 * b + 1) (2 * c) (2 * d + 1)) v∧(a=c→v=false):=by
  have h:=ilv_all ⟨a.toNat,by omega⟩ ⟨b.toNat,by omega⟩ ⟨c.toNat,by omega⟩ ⟨d.toNat,by omega⟩
  unfold ilvOk at h
  simp only [Int.toNat_of_nonneg ha.1,Int.toNat_of_nonneg hb.1,Int.toNat_of_nonneg hc.1,Int.toNat_of_nonneg hd.1] at h
  cases hs:spec_Interleave.f 40 (2 * a) (2 * b + 1) (2 * c) (2 * d + 1) with
  | none=>rw [hs] at h;cases h
  | some v =>
    rw [hs] at h
    simp only [Bool.and_eq_true,decide_eq_true_eq,Bool.or_eq_true] at h
    refine ⟨v,ev_of (fun k=>spec_Interleave.mono _ _ _ _ k) hs,ev_of (fun k=>impl_Interleave.mono _ _ _ _ k) h.1,fun e=>?_⟩
    rcases h.2 with h2|h2
    · exact absurd (by simp [e]) h2
    · cases v
      · rfl
      · cases h2
theorem spec_inPlace {a:Int} (h:0≤a∧a≤3):spec_InPlace.f a=some (2 * a):=by
  unfold spec_InPlace.f;rw [spec_l1In_eq,Option.bind_some,if_pos (decide_eq_true h),w64 (by omega) (by omega)]
theorem impl_inPlace {a:Int} (h:0≤a∧a≤3):impl_InPlace.f a=some (2 * a):=by
  unfold impl_InPlace.f;rw [impl_InRange_eq,Option.bind_some,if_pos (decide_eq_true h),w64 (by omega) (by omega)]
theorem spec_outPlace {a:Int} (h:0≤a∧a≤3):spec_OutPlace.f a=some (2 * a + 1):=by
  unfold spec_OutPlace.f;rw [spec_l1In_eq,Option.bind_some,if_pos (decide_eq_true h),w64 (n:=2 * a) (by omega) (by omega),w64 (by omega) (by omega)]
theorem impl_outPlace {a:Int} (h:0≤a∧a≤3):impl_OutPlace.f a=some (2 * a + 1):=by
  unfold impl_OutPlace.f;rw [impl_InRange_eq,Option.bind_some,if_pos (decide_eq_true h),w64 (n:=2 * a) (by omega) (by omega),w64 (by omega) (by omega)]
theorem conf_ex (x y:S58):∃ v,Ev (fun k=>spec_Conflict.f k x.f0 x.f1 x.f2 x.f3 y.f0 y.f1 y.f2 y.f3) v∧Ev (fun k=>impl_Conflict.f k x.f0 x.f1 x.f2 x.f3 y.f0 y.f1 y.f2 y.f3) v:=by
  have st:Ev (fun k=>spec_Conflict.j0 k true x.f0 x.f1 x.f2 x.f3 y.f0 y.f1 y.f2 y.f3) false:=Ev.step (fun k=>by rw [spec_Conflict.j0]) (ev_t rfl (Ev.now _))
  have it:Ev (fun k=>impl_Conflict.j0 k true x.f0 x.f1 x.f2 x.f3 y.f0 y.f1 y.f2 y.f3) false:=Ev.step (fun k=>by rw [impl_Conflict.j0]) (ev_t rfl (Ev.now _))
  by_cases h1:isP x=true
  · by_cases h2:isP y=true
    · obtain ⟨_,_,x2,x3,_⟩:=(isP_iff x).1 h1
      obtain ⟨_,_,y2,y3,_⟩:=(isP_iff y).1 h2
      -- both stand: what the rest comes to
      have rest:∀ b,(x.f1=2→b=(y.f1 == 2))→(x.f1≠2→b=false)→∃ v,Ev (fun k=>spec_Conflict.j0 k b x.f0 x.f1 x.f2 x.f3 y.f0 y.f1 y.f2 y.f3) v∧Ev (fun k=>impl_Conflict.j0 k b x.f0 x.f1 x.f2 x.f3 y.f0 y.f1 y.f2 y.f3) v:=by
        intro b hb1 hb2
        by_cases hx:x.f1=2
        · by_cases hy:y.f1=2
          · rw [hb1 hx,beq_iff_eq.2 hy];exact ⟨false,st,it⟩
          · rw [hb1 hx,beq_eq_false_iff_ne.2 hy]
            by_cases c:y.f2=x.f2
            · exact ⟨true,Ev.step (fun k=>by rw [spec_Conflict.j0]) (ev_f (by decide) (ev_t hx (ev_t c (Ev.now _)))),Ev.step (fun k=>by rw [impl_Conflict.j0]) (ev_f (by decide) (ev_t hx (ev_t c (Ev.now _))))⟩
            · exact ⟨_,Ev.step (fun k=>by rw [spec_Conflict.j0]) (ev_f (by decide) (ev_t hx (ev_f c (Ev.now _)))),Ev.step (fun k=>by rw [impl_Conflict.j0]) (ev_f (by decide) (ev_t hx (ev_f c (Ev.now _))))⟩
        · rw [hb2 hx]
          by_cases hy:y.f1=2
          · by_cases c:x.f2=y.f2
            · exact ⟨true,Ev.step (fun k=>by rw [spec_Conflict.j0]) (ev_f (by decide) (ev_f hx (ev_t hy (ev_t c (Ev.now _))))),Ev.step (fun k=>by rw [impl_Conflict.j0]) (ev_f (by decide) (ev_f hx (ev_t hy (ev_t c (Ev.now _)))))⟩
            · exact ⟨_,Ev.step (fun k=>by rw [spec_Conflict.j0]) (ev_f (by decide) (ev_f hx (ev_t hy (ev_f c (Ev.now _))))),Ev.step (fun k=>by rw [impl_Conflict.j0]) (ev_f (by decide) (ev_f hx (ev_t hy (ev_f c (Ev.now _)))))⟩
          · obtain ⟨v,v1,v2,v3⟩:=ilv_ex x2 x3 y2 y3
            have ic:Ev (fun k=>(impl_InPlace.f x.f2).bind fun t=>((impl_OutPlace.f x.f3).bind fun t2=>((impl_InPlace.f y.f2).bind fun t3=>((impl_OutPlace.f y.f3).bind fun t4=>((impl_Interleave.f k t t2 t3 t4).bind fun t5=>(some t5)))))) v :=
              ev_call (impl_inPlace x2) (ev_call (impl_outPlace x3) (ev_call (impl_inPlace y2) (ev_call (impl_outPlace y3) (Ev.bind v2 (Ev.now _)))))
            have sc:Ev (fun k=>(spec_InPlace.f x.f2).bind fun t=>((spec_OutPlace.f x.f3).bind fun t2=>((spec_InPlace.f y.f2).bind fun t3=>((spec_OutPlace.f y.f3).bind fun t4=>((spec_Interleave.f k t t2 t3 t4).bind fun t5=>(some t5)))))) v :=
              ev_call (spec_inPlace x2) (ev_call (spec_outPlace x3) (ev_call (spec_inPlace y2) (ev_call (spec_outPlace y3) (Ev.bind v1 (Ev.now _)))))
            by_cases c:x.f2=y.f2
            · rw [v3 c] at ic
              exact ⟨false,Ev.step (fun k=>by rw [spec_Conflict.j0]) (ev_f (by decide) (ev_f hx (ev_f hy (ev_t c (Ev.now _))))),Ev.step (fun k=>by rw [impl_Conflict.j0]) (ev_f (by decide) (ev_f hx (ev_f hy (ev_t c ic))))⟩
            · by_cases c2:x.f3=y.f3
              · exact ⟨true,Ev.step (fun k=>by rw [spec_Conflict.j0]) (ev_f (by decide) (ev_f hx (ev_f hy (ev_f c (ev_t c2 (Ev.now _)))))),Ev.step (fun k=>by rw [impl_Conflict.j0]) (ev_f (by decide) (ev_f hx (ev_f hy (ev_f c (ev_t c2 (Ev.now _))))))⟩
              · exact ⟨v,Ev.step (fun k=>by rw [spec_Conflict.j0]) (ev_f (by decide) (ev_f hx (ev_f hy (ev_f c (ev_f c2 sc))))),Ev.step (fun k=>by rw [impl_Conflict.j0]) (ev_f (by decide) (ev_f hx (ev_f hy (ev_f c (ev_f c2 ic)))))⟩
      unfold spec_Conflict.f impl_Conflict.f
      by_cases hx:x.f1=2
      · obtain ⟨v,a1,a2⟩:=rest (y.f1 == 2) (fun _=>rfl) (fun h=>absurd hx h)
        exact ⟨v,ev_call (spec_isPath x) (ev_t h1 (ev_call (spec_isPath y) (ev_t h2 (ev_t hx a1)))),ev_call (impl_isPath x) (ev_t h1 (ev_call (impl_isPath y) (ev_t h2 (ev_t hx a2))))⟩
      · obtain ⟨v,a1,a2⟩:=rest false (fun h=>absurd h hx) (fun _=>rfl)
        exact ⟨v,ev_call (spec_isPath x) (ev_t h1 (ev_call (spec_isPath y) (ev_t h2 (ev_f hx a1)))),ev_call (impl_isPath x) (ev_t h1 (ev_call (impl_isPath y) (ev_t h2 (ev_f hx a2))))⟩
    · unfold spec_Conflict.f impl_Conflict.f
      exact ⟨false,ev_call (spec_isPath x) (ev_t h1 (ev_call (spec_isPath y) (ev_f h2 st))),ev_call (impl_isPath x) (ev_t h1 (ev_call (impl_isPath y) (ev_f h2 it)))⟩
  · unfold spec_Conflict.f impl_Conflict.f
    exact ⟨false,ev_call (spec_isPath x) (ev_f h1 st),ev_call (impl_isPath x) (ev_f h1 it)⟩
noncomputable def conf (x y:S58):Bool:=Classical.choose (conf_ex x y)
theorem spec_conflict (x y:S58):Ev (fun k=>spec_Conflict.f k x.f0 x.f1 x.f2 x.f3 y.f0 y.f1 y.f2 y.f3) (conf x y):=(Classical.choose_spec (conf_ex x y)).1
theorem impl_conflict (x y:S58):Ev (fun k=>impl_Conflict.f k x.f0 x.f1 x.f2 x.f3 y.f0 y.f1 y.f2 y.f3) (conf x y):=(Classical.choose_spec (conf_ex x y)).2
end Go.Proofs.YtjgonpcajedkjaaGreat.U
