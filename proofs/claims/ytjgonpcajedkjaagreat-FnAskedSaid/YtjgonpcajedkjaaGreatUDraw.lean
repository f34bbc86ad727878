/- The drawn things are there: the reference's draws come to an end. -/
import Derived.Test.YtjgonpcajedkjaaGreatFX00
import Derived.Test.YtjgonpcajedkjaaGreatUBase
set_option linter.unusedVariables false
set_option linter.unusedSimpArgs false
namespace Go.Proofs.YtjgonpcajedkjaaGreat.U
open Go.RowKit Go.Proofs.YtjgonpcajedkjaaGreatW.PrintWords Go.Proofs.YtjgonpcajedkjaaGreatW.PrintLast Go.Proofs.YtjgonpcajedkjaaGreat.P
theorem and_mask (x:Int) (m:Nat) (hm:m≤1073741823):0≤Go.bits .and .i64 x (m:Int)∧Go.bits .and .i64 x (m:Int)≤m:=by
  have h1:((BitVec.ofInt 64 x) &&& (BitVec.ofInt 64 (m:Int))).toNat≤m:=by
    rw [BitVec.toNat_and]
    refine Nat.le_trans Nat.and_le_right ?_
    simp
    omega
  have e:Go.bits .and .i64 x (m:Int)=IntKind.i64.wrap ((((BitVec.ofInt 64 x) &&& (BitVec.ofInt 64 (m:Int))).toNat:Nat):Int):=rfl
  generalize ((BitVec.ofInt 64 x) &&& (BitVec.ofInt 64 (m:Int))).toNat=n at h1 e
  rw [e,IntKind.wrap_i64]
  omega
theorem m255 (x:Int):0≤Go.bits .and .i64 x 255∧Go.bits .and .i64 x 255≤255:=and_mask x 255 (by omega)
theorem l1Byte_ex (b:List Int) (i h:Int) (h0:0≤i) (hl:b.length≤1048576):∃ x i' h',spec_l1Byte.f b i h=some (x,i',h')∧0≤x∧x≤255∧0≤i':=by
  unfold spec_l1Byte.f
  by_cases c:i < (b.length:Int)
  · rw [if_pos c,if_pos h0]
    exact ⟨_,_,_,rfl,(m255 _).1,(m255 _).2,by rw [w64 (by omega) (by omega)];omega⟩
  · rw [if_neg c]
    exact ⟨_,_,_,rfl,(m255 _).1,(m255 _).2,h0⟩
theorem l1Below_ex (b:List Int) (i h n:Int) (h0:0≤i) (hl:b.length≤1048576) (hn:0 < n) (hn2:n≤256):∃ x i' h',spec_l1Below.f b i h n=some (x,i',h')∧0≤x∧x < n∧0≤i':=by
  obtain ⟨x,i',h',e,x0,x1,i0⟩:=l1Byte_ex b i h h0 hl
  refine ⟨Int.tmod x n,i',h',?_,Int.tmod_nonneg _ x0,Int.tmod_lt_of_pos _ hn,i0⟩
  unfold spec_l1Below.f
  rw [if_neg (by omega),if_pos hn2,e,Option.bind_some,if_neg (by omega)]
theorem l1Once_ex (b:List Int) (i h n:Int) (h0:0≤i) (hl:b.length≤1048576) (hn:0 < n) (hn2:n≤256):∃ x i' h',spec_l1Once.f b i h n=some (x,i',h')∧0≤i':=by
  obtain ⟨x,i',h',e,_,_,i0⟩:=l1Below_ex b i h n h0 hl hn hn2
  refine ⟨x == 0,i',h',?_,i0⟩
  unfold spec_l1Once.f
  rw [e,Option.bind_some]
theorem l1Int_ex (b:List Int) (i h:Int) (l:List Int) (h0:0≤i) (hl:b.length≤1048576) (hn:0 < l.length) (hn2:l.length≤256):∃ x i' h',spec_l1Int.f b i h l=some (x,i',h')∧x∈l∧0≤i':=by
  obtain ⟨x,i',h',e,x0,x1,i0⟩:=l1Below_ex b i h (l.length:Int) h0 hl (by omega) (by omega)
  obtain ⟨m,rfl⟩:=Int.eq_ofNat_of_zero_le x0
  refine ⟨rd l (m:Int),i',h',?_,?_,i0⟩
  · unfold spec_l1Int.f
    rw [e,Option.bind_some,if_pos x0,if_pos x1]
  · rw [rd_at l m (by omega)]
    exact List.getElem_mem _
theorem l4Raw_ex (b:List Int) (i h:Int) (h0:0≤i) (hl:b.length≤1048576):∃ x i' h',spec_l4Raw.f b i h=some (x,i',h')∧0≤i':=by
  obtain ⟨x,i',h',e,_,i0⟩:=l1Int_ex b i h [(-1),0,4,7,20,21,9223372036854775807,(-9223372036854775808)] h0 hl (by decide) (by decide)
  refine ⟨x,i',h',?_,i0⟩
  unfold spec_l4Raw.f
  rw [e,Option.bind_some]
theorem l4Draw_ex (b:List Int) (i h id:Int) (h0:0≤i) (hl:b.length≤1048576):∃ v,spec_l4Draw.f b i h id=some v∧v.1=id∧0≤v.2.2.2.2.1:=by
  unfold spec_l4Draw.f
  obtain ⟨x1,i1,h1,e1,_,_,j1⟩:=l1Below_ex b i h 3 h0 hl (by decide) (by decide)
  obtain ⟨x2,i2,h2,e2,_,_,j2⟩:=l1Below_ex b i1 h1 4 j1 hl (by decide) (by decide)
  rw [e1,Option.bind_some]
  simp only [e2,Option.bind_some]
  by_cases c:wrap64 (1 + x1)=2
  · rw [if_pos c]
    exact ⟨_,rfl,rfl,j2⟩
  · rw [if_neg c]
    obtain ⟨x3,i3,h3,e3,_,_,j3⟩:=l1Below_ex b i2 h2 3 j2 hl (by decide) (by decide)
    rw [e3,Option.bind_some]
    exact ⟨_,rfl,rfl,j3⟩
theorem l4Any_ex (b:List Int) (i h:Int) (h0:0≤i) (hl:b.length≤1048576):∃ v,spec_l4Any.f b i h=some v∧0≤v.2.2.2.2.1:=by
  unfold spec_l4Any.f
  obtain ⟨x1,i1,h1,e1,_,_,j1⟩:=l1Below_ex b i h 20 h0 hl (by decide) (by decide)
  rw [e1,Option.bind_some]
  obtain ⟨v,e2,_,j2⟩:=l4Draw_ex b i1 h1 (wrap64 (1 + x1)) j1 hl
  simp only [e2,Option.bind_some]
  obtain ⟨x3,i3,h3,e3,_,_,j3⟩:=l1Below_ex b v.2.2.2.2.1 v.2.2.2.2.2 10 j2 hl (by decide) (by decide)
  rw [e3,Option.bind_some]
  simp only []
  obtain ⟨y1,k1,g1,f1,_,m1⟩:=l1Int_ex b i3 h3 [0,20,21] j3 hl (by decide) (by decide)
  obtain ⟨y2,k2,g2,f2,_,m2⟩:=l1Int_ex b i3 h3 [0,2,4] j3 hl (by decide) (by decide)
  obtain ⟨y3,k3,g3,f3,m3⟩:=l4Raw_ex b i3 h3 j3 hl
  rw [f1,f2,f3]
  simp only [Option.bind_some]
  split
  · exact ⟨_,rfl,m1⟩
  · split
    · exact ⟨_,rfl,m2⟩
    · split
      · exact ⟨_,rfl,m3⟩
      · split
        · exact ⟨_,rfl,m3⟩
        · exact ⟨_,rfl,j3⟩
theorem l1New_ex (b:List Int) (hl:b.length≤1048576):∃ h,Ev (fun k=>spec_l1New.f k b) (b,0,h):=by
  unfold spec_l1New.f
  have run:∀ d i:Nat,i + d=b.length→∀ x,∃ h,Ev (fun k=>spec_l1New.l0 k b x (i:Int)) (b,0,h):=by
    intro d
    induction d with
    | zero=>exact fun i hi x=>⟨x,Ev.step (fun k=>by rw [spec_l1New.l0]) (ev_f (by omega) (Ev.now _))⟩
    | succ d ih =>
      intro i hi x
      by_cases c:(i:Int) < 4000
      · obtain ⟨h,e⟩:=ih (i + 1) (by omega) (Go.bits .and .i64 (wrap64 ((wrap64 ((wrap64 (x * 137)) + (wrap64 (rd b (i:Int))))) + 11)) 1073741823)
        refine ⟨h,Ev.step (fun k=>by rw [spec_l1New.l0]) (ev_t (by omega) (ev_t c (ev_t (by omega) ?_)))⟩
        rw [w_succ (n:=b.length) (by omega) (by omega)]
        exact e
      · exact ⟨x,Ev.step (fun k=>by rw [spec_l1New.l0]) (ev_t (by omega) (ev_f c (Ev.now _)))⟩
  exact run b.length 0 (by omega) _
theorem l5Draw_ex (b:List Int) (i h:Int) (h0:0≤i) (hl:b.length≤1048576):∃ l i' h',Ev (fun k=>spec_l5Draw.f k b i h) (l,i',h')∧2≤l.length∧l.length≤7∧0≤i':=by
  unfold spec_l5Draw.f
  have run:∀ d n:Nat,n + d=7→∀ (x:List S58) (i h:Int),x.length=n→0≤i→∃ l i' h',Ev (fun k=>spec_l5Draw.l0 k x ((n + 1:Nat):Int) b i h) (l,i',h')∧2≤l.length∧l.length≤7∧0≤i':=by
    intro d
    induction d with
    | zero =>
      intro n hn x i h hx hi
      obtain ⟨y,i1,h1,e1,y0,y1,j1⟩:=l1Below_ex b i h 6 hi hl (by decide) (by decide)
      have c:¬ ((n + 1:Nat):Int)≤wrap64 (2 + y):=by
        rw [w64 (by omega) (by omega)]
        omega
      exact ⟨x,i1,h1,Ev.step (fun k=>by rw [spec_l5Draw.l0]) (ev_call e1 (ev_f c (Ev.now _))),by omega,by omega,j1⟩
    | succ d ih =>
      intro n hn x i h hx hi
      obtain ⟨y,i1,h1,e1,y0,y1,j1⟩:=l1Below_ex b i h 6 hi hl (by decide) (by decide)
      by_cases c:((n + 1:Nat):Int)≤wrap64 (2 + y)
      · obtain ⟨v,e2,_,j2⟩:=l4Draw_ex b i1 h1 ((n + 1:Nat):Int) j1 hl
        obtain ⟨l,i3,h3,e3,r1,r2,r3⟩:=ih (n + 1) (by omega) (x ++ [⟨v.1,v.2.1,v.2.2.1,v.2.2.2.1⟩]) v.2.2.2.2.1 v.2.2.2.2.2 (by simp;omega) j2
        refine ⟨l,i3,h3,Ev.step (fun k=>by rw [spec_l5Draw.l0]) (ev_call e1 (ev_t c (ev_call e2 ?_))),r1,r2,r3⟩
        refine ev_t (by omega) ?_
        rw [w_succ (i:=n + 1) (n:=100) (by omega) (by omega)]
        exact e3
      · refine ⟨x,i1,h1,Ev.step (fun k=>by rw [spec_l5Draw.l0]) (ev_call e1 (ev_f c (Ev.now _))),?_,by omega,j1⟩
        rw [w64 (by omega) (by omega)] at c
        omega
  exact run 7 0 (by omega) [] i h rfl h0
theorem l5Any_ex (b:List Int) (i h:Int) (h0:0≤i) (hl:b.length≤1048576):∃ l i' h',Ev (fun k=>spec_l5Any.f k b i h) (l,i',h')∧2≤l.length∧l.length≤7∧0≤i':=by
  unfold spec_l5Any.f
  obtain ⟨l,i1,h1,e1,r1,r2,j1⟩:=l5Draw_ex b i h h0 hl
  obtain ⟨y,i2,h2,e2,j2⟩:=l1Once_ex b i1 h1 6 j1 hl (by decide) (by decide)
  cases y with
  | false=>exact ⟨l,i2,h2,Ev.bind e1 (ev_call e2 (ev_f (show ¬ false=true by decide) (Ev.now _))),r1,r2,j2⟩
  | true =>
    obtain ⟨z,i3,h3,e3,z0,z1,j3⟩:=l1Below_ex b i2 h2 (l.length:Int) j2 hl (by omega) (by omega)
    obtain ⟨v,e4,j4⟩:=l4Any_ex b i3 h3 j3 hl
    exact ⟨_,_,_,Ev.bind e1 (ev_call e2 (ev_t rfl (ev_call e3 (ev_call e4 (ev_t z0 (ev_t z1 (Ev.now _))))))),by rw [List.length_set];exact r1,by rw [List.length_set];exact r2,j4⟩
end Go.Proofs.YtjgonpcajedkjaaGreat.U
