/- Printed by myprint.py (wip/tools) over the kit's print: what Go's functions compute, and that they do. Lean checks it. -/
import Derived.Test.YtjgonpcajedkjaaGreatF0
import Derived.Test.YtjgonpcajedkjaaGreatFX00c
import Derived.Shelf.RegionOpenPlain
import Derived.Lib.Overlaps
import Derived.Laws.Externs
namespace Go.Proofs.YtjgonpcajedkjaaGreat.P
open Go.RowKit Go.Proofs.YtjgonpcajedkjaaGreatW.PrintWords Go.Proofs.YtjgonpcajedkjaaGreatW.PrintLast Go.Proofs.YtjgonpcajedkjaaGreatW.PrintMore Go.Proofs.YtjgonpcajedkjaaGreat.Sq
attribute [local go_sem] max2_int min2_int max_two min_two max_three min_three max_four min_four
set_option linter.unusedVariables false
set_option linter.unusedSimpArgs false

/-! ### impl_Closes: function 45 -/
def impl_Closes.f (k:Nat) (l0:List Int) (l1:List Int):Option (List Int):=(impl_sieve.f k l0 l1 false).bind fun t631=>(some t631)
theorem impl_Closes.mono:∀ a0 a1 k,LeO (impl_Closes.f k a0 a1) (impl_Closes.f (k + 1) a0 a1):=by
 intro a0 a1 k;unfold impl_Closes.f;exact mz1 impl_sieve.mono
set_option maxHeartbeats 8000000 in
set_option maxRecDepth 100000 in
theorem impl_Closes.calls (k:Nat) (A0:Option Addr) (c0:Nat) (l0:List Int) (A1:Option Addr) (c1:Nat) (l1:List Int) (r:List Int) (w:World) (hr0:Kd.C (Kd.int .i64) w A0 l0.length l0) (hc0:l0.length≤c0) (hr1:Kd.C (Kd.int .i64) w A1 l1.length l1) (hc1:l1.length≤c1) (h:impl_Closes.f k l0 l1=some r) :
  Calls Tryz.prog 45 #[.slice A0 l0.length c0,.slice A1 l1.length c1] w fun e w'=>∃ v0_:Value,e=.returned (v0_)∧Kd.R (Kd.int .i64) 3 w' w.heap.size (fun _=>True) v0_ r∧Below w.heap.size w w':=by
 have HR0:=am hr0;have HC0:=am hc0;clear hr0 hc0;have HR1:=am hr1;have HC1:=am hc1;clear hr1 hc1;have HB:=am (Below.refl w.heap.size w);unfold impl_Closes.f at h;have H:=h;clear h;obtain ⟨t631,A3,H⟩:=bindE H;try dsimp only at H
 obtain rfl:=oj H;go_enter Tryz.func45,Tryz.ntmps45;go_wp2_with (first|((with_reducible refine gc 63 ?_);refine gL (some 7) Tryz.func63 #[.slice A0 l0.length c0,.slice A1 l1.length c1,.bool false] ?_;(with_reducible refine (impl_sieve.calls k _ _ l0 _ _ l1 false t631 _ ?_ ?_ ?_ ?_ A3.out).mono ?_);exact cO HR0;exact HC0.out;exact cO HR1;exact HC1.out;rintro e w4 ⟨v632,rfl,ho0,hb⟩;refine ⟨_,rfl,?_⟩;have HO633:=rl w ho0;replace HB:=bs HB hb;(try clear hb);(try clear ho0)));go_ret;exact ⟨_,rA,rK HO633,bA⟩

/-! ### impl_ClearOf: function 46 -/
def impl_ClearOf.f (a0_0:Int) (a0_1:Int) (a0_2:Int) (a0_3:Int):Option (Int):=(impl_IsPath.f a0_0 a0_1 a0_2 a0_3).bind fun t635=>(if t635=true then (if a0_1=1 then (some 2) else (if a0_1=3 then (some 3) else (some 5))) else (some 0))
set_option maxHeartbeats 8000000 in
set_option maxRecDepth 100000 in
theorem impl_ClearOf.calls (a0_0:Int) (a0_1:Int) (a0_2:Int) (a0_3:Int) (r:Int) (w:World) (h:impl_ClearOf.f a0_0 a0_1 a0_2 a0_3=some r) :
  Calls Tryz.prog 46 #[.agg #[.int .i64 a0_0,.int .i64 a0_1,.int .i64 a0_2,.int .i64 a0_3]] w fun e w'=>e=.returned (.int .i64 r)∧Below w.heap.size w w':=by
 have hu58:=Tryz.underlying58;have HB:=am (Below.refl w.heap.size w);unfold impl_ClearOf.f at h;have H:=h;clear h;obtain ⟨t635,A2,H⟩:=bindE H;try dsimp only at H
 by_cases c3:t635=true
 ·subst c3;rw [if_pos rfl] at H;by_cases c4:a0_1=1
  ·rw [if_pos c4] at H;obtain ⟨c4b0,c4b1⟩:=eI c4;clear c4;obtain rfl:=oj H;go_enter Tryz.func46,Tryz.ntmps46;go_wp2_with (first|((with_reducible refine gd 1 ?_);refine bF w 1 #[.int .i64 a0_0,.int .i64 a0_1,.int .i64 a0_2,.int .i64 a0_3] 58 ?_;rintro gb634 w5 BK634 GW634 GE634 hb hg;replace HB:=bs HB hb;clear hb hg;obtain ⟨_,_,_,_,_,_,_,_⟩:=blkc4 BK634)|((with_reducible refine gc 47 ?_);refine gL (some 4) Tryz.func47 #[.agg #[.int .i64 a0_0,.int .i64 a0_1,.int .i64 a0_2,.int .i64 a0_3]] ?_;(with_reducible refine (impl_IsPath.calls a0_0 a0_1 a0_2 a0_3 true _ A2.out).mono ?_);rintro e w7 ⟨rfl,hb⟩;refine ⟨_,rfl,?_⟩;replace BK634:=kb BK634 hb;replace HB:=bs HB hb;(try clear hb);obtain ⟨_,_,_,_,_,_,_,_⟩:=blkc4 BK634));go_ret;exact ⟨rA,bG⟩
  rw [if_neg c4] at H;obtain ⟨c4b0,c4b1⟩:=nI c4;by_cases c9:a0_1=3
  ·rw [if_pos c9] at H;obtain ⟨c9b0,c9b1⟩:=eI c9;clear c9;obtain rfl:=oj H;go_enter Tryz.func46,Tryz.ntmps46;go_wp2_with (first|((with_reducible refine gd 1 ?_);refine bF w 1 #[.int .i64 a0_0,.int .i64 a0_1,.int .i64 a0_2,.int .i64 a0_3] 58 ?_;rintro gb634 w10 BK634 GW634 GE634 hb hg;replace HB:=bs HB hb;clear hb hg;obtain ⟨_,_,_,_,_,_,_,_⟩:=blkc4 BK634)|((with_reducible refine gc 47 ?_);refine gL (some 4) Tryz.func47 #[.agg #[.int .i64 a0_0,.int .i64 a0_1,.int .i64 a0_2,.int .i64 a0_3]] ?_;(with_reducible refine (impl_IsPath.calls a0_0 a0_1 a0_2 a0_3 true _ A2.out).mono ?_);rintro e w12 ⟨rfl,hb⟩;refine ⟨_,rfl,?_⟩;replace BK634:=kb BK634 hb;replace HB:=bs HB hb;(try clear hb);obtain ⟨_,_,_,_,_,_,_,_⟩:=blkc4 BK634));go_ret;exact ⟨rA,bG⟩
  rw [if_neg c9] at H;obtain ⟨c9b0,c9b1⟩:=nI c9;obtain rfl:=oj H;go_enter Tryz.func46,Tryz.ntmps46;go_wp2_with (first|((with_reducible refine gd 1 ?_);refine bF w 1 #[.int .i64 a0_0,.int .i64 a0_1,.int .i64 a0_2,.int .i64 a0_3] 58 ?_;rintro gb634 w14 BK634 GW634 GE634 hb hg;replace HB:=bs HB hb;clear hb hg;obtain ⟨_,_,_,_,_,_,_,_⟩:=blkc4 BK634)|((with_reducible refine gc 47 ?_);refine gL (some 4) Tryz.func47 #[.agg #[.int .i64 a0_0,.int .i64 a0_1,.int .i64 a0_2,.int .i64 a0_3]] ?_;(with_reducible refine (impl_IsPath.calls a0_0 a0_1 a0_2 a0_3 true _ A2.out).mono ?_);rintro e w16 ⟨rfl,hb⟩;refine ⟨_,rfl,?_⟩;replace BK634:=kb BK634 hb;replace HB:=bs HB hb;(try clear hb);obtain ⟨_,_,_,_,_,_,_,_⟩:=blkc4 BK634));go_ret;exact ⟨rA,bG⟩
 replace c3:=Bool.eq_false_iff.mpr c3;subst c3;rw [if_neg Bool.false_ne_true] at H;obtain rfl:=oj H;go_enter Tryz.func46,Tryz.ntmps46;go_wp2_with (first|((with_reducible refine gd 1 ?_);refine bF w 1 #[.int .i64 a0_0,.int .i64 a0_1,.int .i64 a0_2,.int .i64 a0_3] 58 ?_;rintro gb634 w18 BK634 GW634 GE634 hb hg;replace HB:=bs HB hb;clear hb hg;obtain ⟨_,_,_,_,_,_,_,_⟩:=blkc4 BK634)|((with_reducible refine gc 47 ?_);refine gL (some 4) Tryz.func47 #[.agg #[.int .i64 a0_0,.int .i64 a0_1,.int .i64 a0_2,.int .i64 a0_3]] ?_;(with_reducible refine (impl_IsPath.calls a0_0 a0_1 a0_2 a0_3 false _ A2.out).mono ?_);rintro e w20 ⟨rfl,hb⟩;refine ⟨_,rfl,?_⟩;replace BK634:=kb BK634 hb;replace HB:=bs HB hb;(try clear hb)));go_ret;exact ⟨rA,bG⟩

/-! ### impl_ClearBetween: function 26 -/
mutual
def impl_ClearBetween.j0:Nat→List (S58)→List Int→List Int→Int→Bool→Option (Int)
 | 0,_,_,_,_,_=>none
 | k + 1,x0,x1,x2,x7,x22=>if x22=true then (some x7) else ((impl_Closes.f k x1 x2).bind fun t638=>(impl_ClearBetween.l0 k x0 x1 x2 x7 t638 (t638.length:Int) 0))
def impl_ClearBetween.l0:Nat→List (S58)→List Int→List Int→Int→List Int→Int→Int→Option (Int)
 | 0,_,_,_,_,_,_,_=>none
 | k + 1,x0,x1,x2,x7,x26,x27,x28=>if x28 < x27 then (if 0≤x28 then (if x28 < (x26.length:Int) then ((impl_Closes.f k x2 x1).bind fun t642=>(impl_ClearBetween.l1 k x0 x1 x2 x7 (rd x26 x28) x26 x27 x28 t642 (t642.length:Int) 0)) else (none)) else (none)) else (some x7)
def impl_ClearBetween.l1:Nat→List (S58)→List Int→List Int→Int→Int→List Int→Int→Int→List Int→Int→Int→Option (Int)
 | 0,_,_,_,_,_,_,_,_,_,_,_=>none
 | k + 1,x0,x1,x2,x7,x9,x26,x27,x28,x34,x35,x36=>if x36 < x35 then (if 0≤x36 then (if x36 < (x34.length:Int) then ((impl_FindPath.f x0 x9).bind fun t646=>(if 0≤t646 then (if t646 < (x0.length:Int) then ((impl_FindPath.f x0 (rd x34 x36)).bind fun t649=>(if 0≤t649 then (if t649 < (x0.length:Int) then ((impl_Conflict.f k ((rd_T58 x0 t646).f0) ((rd_T58 x0 t646).f1) ((rd_T58 x0 t646).f2) ((rd_T58 x0 t646).f3) ((rd_T58 x0 t649).f0) ((rd_T58 x0 t649).f1) ((rd_T58 x0 t649).f2) ((rd_T58 x0 t649).f3)).bind fun t651=>(if t651=true then ((impl_ClearOf.f ((rd_T58 x0 t646).f0) ((rd_T58 x0 t646).f1) ((rd_T58 x0 t646).f2) ((rd_T58 x0 t646).f3)).bind fun t652=>(impl_ClearBetween.l1 k x0 x1 x2 (mx x7 t652) x9 x26 x27 x28 x34 x35 (wrap64 (x36 + 1)))) else (impl_ClearBetween.l1 k x0 x1 x2 x7 x9 x26 x27 x28 x34 x35 (wrap64 (x36 + 1))))) else (none)) else (none))) else (none)) else (none))) else (none)) else (none)) else (impl_ClearBetween.l0 k x0 x1 x2 x7 x26 x27 (wrap64 (x28 + 1)))
end
def impl_ClearBetween.f (k:Nat) (l0:List (S58)) (l1:List Int) (l2:List Int):Option (Int):=(impl_IsTogether.f k l0 l1).bind fun t636=>(if t636=true then ((impl_IsTogether.f k l0 l2).bind fun t637=>(impl_ClearBetween.j0 k l0 l1 l2 0 (!t637))) else (impl_ClearBetween.j0 k l0 l1 l2 0 true))
theorem impl_ClearBetween.mono_l:∀ k,(∀ y0 y1 y2 y3 y4,LeO (impl_ClearBetween.j0 k y0 y1 y2 y3 y4) (impl_ClearBetween.j0 (k + 1) y0 y1 y2 y3 y4))∧(∀ y0 y1 y2 y3 y4 y5 y6,LeO (impl_ClearBetween.l0 k y0 y1 y2 y3 y4 y5 y6) (impl_ClearBetween.l0 (k + 1) y0 y1 y2 y3 y4 y5 y6))∧(∀ y0 y1 y2 y3 y4 y5 y6 y7 y8 y9 y10,LeO (impl_ClearBetween.l1 k y0 y1 y2 y3 y4 y5 y6 y7 y8 y9 y10) (impl_ClearBetween.l1 (k + 1) y0 y1 y2 y3 y4 y5 y6 y7 y8 y9 y10))
 | 0=>⟨fun _ _ _ _ _ r h=>by simp [impl_ClearBetween.j0] at h,fun _ _ _ _ _ _ _ r h=>by simp [impl_ClearBetween.l0] at h,fun _ _ _ _ _ _ _ _ _ _ _ r h=>by simp [impl_ClearBetween.l1] at h⟩
 | k + 1=>by
  obtain ⟨ih0,ih1,ih2⟩:=impl_ClearBetween.mono_l k;refine ⟨?_,?_,?_⟩
  ·intro y0 y1 y2 y3 y4;unfold impl_ClearBetween.j0;exact mz6 ih0 ih1 ih2 impl_Closes.mono impl_Conflict.mono impl_IsTogether.mono
  ·intro y0 y1 y2 y3 y4 y5 y6;unfold impl_ClearBetween.l0;exact mz6 ih0 ih1 ih2 impl_Closes.mono impl_Conflict.mono impl_IsTogether.mono
  ·intro y0 y1 y2 y3 y4 y5 y6 y7 y8 y9 y10;unfold impl_ClearBetween.l1;exact mz6 ih0 ih1 ih2 impl_Closes.mono impl_Conflict.mono impl_IsTogether.mono
theorem impl_ClearBetween.mono:∀ a0 a1 a2 k,LeO (impl_ClearBetween.f k a0 a1 a2) (impl_ClearBetween.f (k + 1) a0 a1 a2):=by
 intro a0 a1 a2 k;obtain ⟨ih0,ih1,ih2⟩:=impl_ClearBetween.mono_l k;unfold impl_ClearBetween.f;exact mz6 ih0 ih1 ih2 impl_Closes.mono impl_Conflict.mono impl_IsTogether.mono
def impl_ClearBetween.T11:Bool × List (List Nat × List Nat):=(true,[([],[]),([],[]),([],[]),([],[]),([2,3],[2,3]),([1,4],[1,4]),([5],[5]),([0,6,4],[0,6])])
def impl_ClearBetween.B11:List Nat:=[0,0,0,0,12,30,62,127]
theorem impl_ClearBetween.tab11:rtab .any (opsOf Tryz.f26 11)=impl_ClearBetween.T11:=by kernel_rfl
theorem impl_ClearBetween.bits11:waitsOk impl_ClearBetween.T11.2 impl_ClearBetween.B11=true:=by kernel_rfl
set_option maxHeartbeats 8000000 in
set_option maxRecDepth 100000 in
theorem impl_ClearBetween.calls (k:Nat) (A0:Option Addr) (c0:Nat) (l0:List (S58)) (A1:Option Addr) (c1:Nat) (l1:List Int) (A2:Option Addr) (c2:Nat) (l2:List Int) (r:Int) (w:World) (hr0:Kd.C k58 w A0 l0.length l0) (hc0:l0.length≤c0) (hr1:Kd.C (Kd.int .i64) w A1 l1.length l1) (hc1:l1.length≤c1) (hr2:Kd.C (Kd.int .i64) w A2 l2.length l2) (hc2:l2.length≤c2) (h:impl_ClearBetween.f k l0 l1 l2=some r) :
  Calls Tryz.prog 26 #[.slice A0 l0.length c0,.slice A1 l1.length c1,.slice A2 l2.length c2] w fun e w'=>e=.returned (.int .i64 r)∧Below w.heap.size w w':=by
 have hu58:=Tryz.underlying58;have HR0:=am hr0;have HC0:=am hc0;clear hr0 hc0;have HR1:=am hr1;have HC1:=am hc1;clear hr1 hc1;have HR2:=am hr2;have HC2:=am hc2;clear hr2 hc2;have HB:=am (Below.refl w.heap.size w);unfold impl_ClearBetween.f at h;have H:=h;clear h;have HC4:=am H;clear H;go_enter Tryz.func26,Tryz.ntmps26;go_upto_region 2 with (fail);go_cut [22] (fun v22 wc=>∃ (kq:Nat) (x22_3:Bool),v22=.bool x22_3∧Aside0 (impl_ClearBetween.j0 kq l0 l1 l2 0 x22_3=some r)∧Aside0 (kq≤k)∧Aside0 (Below w.heap.size w wc))
 case first =>
  have H:=HC4.out;clear HC4;obtain ⟨t636,A5,H⟩:=bindE H;try dsimp only at H
  by_cases c6:t636=true
  ·subst c6;rw [if_pos rfl] at H;obtain ⟨t637,A7,H⟩:=bindE H;try dsimp only at H
   have H':=am H;clear H;go_wp2_with (first|((with_reducible refine gc 24 ?_);refine gL (some 15) Tryz.func24 #[.slice A0 l0.length c0,.slice A1 l1.length c1] ?_;(with_reducible refine (impl_IsTogether.calls k _ _ l0 _ _ l1 true _ ?_ ?_ ?_ ?_ A5.out).mono ?_);exact cB HR0;exact HC0.out;exact cB HR1;exact HC1.out;rintro e w8 ⟨rfl,hb⟩;refine ⟨_,rfl,?_⟩;replace HB:=bs HB hb;(try clear hb))|(go_at_call 24;(with_reducible refine (impl_IsTogether.calls k _ _ l0 _ _ l2 t637 _ ?_ ?_ ?_ ?_ A7.out).mono ?_);exact cB HR0;exact HC0.out;exact cB HR2;exact HC2.out;rintro e w9 ⟨rfl,hb⟩;replace HB:=bs HB hb;(try clear hb)))
   go_meet
   case rel=>exact ⟨_,(!t637),rS,H',⟨oL⟩,⟨bA⟩⟩
  replace c6:=Bool.eq_false_iff.mpr c6;subst c6;rw [if_neg Bool.false_ne_true] at H;have H':=am H;clear H;go_wp2_with (first|((with_reducible refine gc 24 ?_);refine gL (some 15) Tryz.func24 #[.slice A0 l0.length c0,.slice A1 l1.length c1] ?_;(with_reducible refine (impl_IsTogether.calls k _ _ l0 _ _ l1 false _ ?_ ?_ ?_ ?_ A5.out).mono ?_);exact cB HR0;exact HC0.out;exact cB HR1;exact HC1.out;rintro e w10 ⟨rfl,hb⟩;refine ⟨_,rfl,?_⟩;replace HB:=bs HB hb;(try clear hb)))
  go_meet
  case rel=>exact ⟨_,(true),rS,H',⟨oL⟩,⟨bA⟩⟩
 case rest =>
  clear HC4;obtain ⟨kq,x22_3,rfl,HA,HJ3,HB⟩:=hcut
  cases kq with
  | zero=>exact absurd HA.out (by simp [impl_ClearBetween.j0])
  | succ kj3 =>
   have H:=HA.out;clear HA;simp only [impl_ClearBetween.j0] at H;by_cases c11:x22_3=true
   ·subst c11;rw [if_pos rfl] at H;obtain rfl:=oj H;go_wp2;go_ret;exact ⟨rA,bA⟩
   replace c11:=Bool.eq_false_iff.mpr c11;subst c11;rw [if_neg Bool.false_ne_true] at H;obtain ⟨t638,A12,H⟩:=bindE H;try dsimp only at H
   have H':=am H;clear H;go_wp2_with (first|((with_reducible refine gc 45 ?_);refine gL (some 26) Tryz.func45 #[.slice A1 l1.length c1,.slice A2 l2.length c2] ?_;(with_reducible refine (impl_Closes.calls kj3 _ _ l1 _ _ l2 t638 _ ?_ ?_ ?_ ?_ A12.out).mono ?_);exact cB HR1;exact HC1.out;exact cB HR2;exact HC2.out;rintro e w13 ⟨v639,rfl,ho0,hb⟩;refine ⟨_,rfl,?_⟩;have HO640:=rl w ho0;replace HB:=bs HB hb;(try clear hb);(try clear ho0);obtain ⟨Ao14,co14,eo14⟩:=Kd.R_slice HO640.out;subst eo14));go_loopg [7,28] kj3 (fun kq v7 v28 w'=>∃ (x7_2:Int) (x28_2:Int),v7=.int .i64 x7_2∧v28=.int .i64 x28_2∧Aside0 (impl_ClearBetween.l0 kq l0 l1 l2 x7_2 t638 (t638.length:Int) x28_2=some r)∧Aside0 (kq≤kj3)∧Aside0 (Kd.R (Kd.int .i64) 3 w' w.heap.size (fun _=>True) (.slice Ao14 t638.length co14) t638)∧Aside0 (Below w.heap.size w w'))
   case atStart=>exact ⟨(0),(0),rS,rS,H',⟨Nat.le_refl _⟩,⟨rK HO640⟩,⟨bA⟩⟩
   case round =>
    clear H';obtain ⟨x7_2,x28_2,rfl,rfl,HA,HK2,HO_26,HB⟩:=hrel
    cases gk with
    | zero=>exact absurd HA.out (by simp [impl_ClearBetween.l0])
    | succ k2 =>
     have H:=HA.out;clear HA;simp only [impl_ClearBetween.l0] at H;by_cases c15:x28_2 < (t638.length:Int)
     ·rw [if_pos c15] at H;have c15b0:=dt c15;clear c15;have c16b0:=ifC H;replace H:=ifT H;have c17b0:=ifC H;replace H:=ifT H;obtain ⟨t642,A18,H⟩:=bindE H;try dsimp only at H
      have H':=am H;clear H;obtain ⟨p641,q641⟩:=pq x28_2 t638;obtain ⟨ad641,e641,hx641_0⟩:=Kd.at_int (Kd.R_reads' HO_26.out).2.2 x28_2 p641 q641;cases e641;obtain ⟨p641,q641⟩:=eT p641 q641;go_wp2_with (first|((with_reducible refine gc 45 ?_);refine gL (some 34) Tryz.func45 #[.slice A2 l2.length c2,.slice A1 l1.length c1] ?_;(with_reducible refine (impl_Closes.calls k2 _ _ l2 _ _ l1 t642 _ ?_ ?_ ?_ ?_ A18.out).mono ?_);exact cB HR2;exact HC2.out;exact cB HR1;exact HC1.out;rintro e w19 ⟨v643,rfl,ho0,hb⟩;refine ⟨_,rfl,?_⟩;have HO644:=rl w (rn ho0 HO_26);replace HO_26:=re HO_26 ho0 hb;replace HB:=bs HB hb;(try clear hb);(try clear ho0);obtain ⟨Ao20,co20,eo20⟩:=Kd.R_slice HO644.out;subst eo20));go_loopg [7,36] k2 (fun kq v7 v36 w'=>∃ (x7_3:Int) (x36_3:Int),v7=.int .i64 x7_3∧v36=.int .i64 x36_3∧Aside0 (impl_ClearBetween.l1 kq l0 l1 l2 x7_3 (rd t638 x28_2) t638 (t638.length:Int) x28_2 t642 (t642.length:Int) x36_3=some r)∧Aside0 (kq≤k2)∧Aside0 (Kd.R (Kd.int .i64) 3 w' w.heap.size (n1 (.slice Ao20 t642.length co20)) (.slice (some ad641) t638.length co14) t638)∧Aside0 (Kd.R (Kd.int .i64) 3 w' w.heap.size (n1 (.slice (some ad641) t638.length co14)) (.slice Ao20 t642.length co20) t642)∧Aside0 (Below w.heap.size w w'))
      case atStart=>exact ⟨(x7_2),(0),rS,rS,H',⟨Nat.le_refl _⟩,⟨rm HO_26 (fun _ hk=>hk.2)⟩,⟨rm HO644 (fun _ hk=>hk.2)⟩,⟨bA⟩⟩
      case round =>
       clear H';obtain ⟨x7_3,x36_3,rfl,rfl,HA,HK3,HO_26,HO_34,HB⟩:=hrel
       cases gk with
       | zero=>exact absurd HA.out (by simp [impl_ClearBetween.l1])
       | succ k3 =>
        have H:=HA.out;clear HA;simp only [impl_ClearBetween.l1] at H;by_cases c21:x36_3 < (t642.length:Int)
        ·rw [if_pos c21] at H;have c21b0:=dt c21;clear c21;have c22b0:=ifC H;replace H:=ifT H;have c23b0:=ifC H;replace H:=ifT H;obtain ⟨t646,A24,H⟩:=bindE H;try dsimp only at H
         have c25b0:=ifC H;replace H:=ifT H;have c26b0:=ifC H;replace H:=ifT H;obtain ⟨t649,A27,H⟩:=bindE H;try dsimp only at H
         have c28b0:=ifC H;replace H:=ifT H;have c29b0:=ifC H;replace H:=ifT H;obtain ⟨t651,A30,H⟩:=bindE H;try dsimp only at H
         by_cases c31:t651=true
         ·subst c31;rw [if_pos rfl] at H;obtain ⟨t652,A32,H⟩:=bindE H;try dsimp only at H
          obtain ⟨ji33,hji33⟩:∃ j_:Int,(mx x7_3 t652)=j_:=⟨_,rfl⟩;replace H:(impl_ClearBetween.l1 k3 l0 l1 l2 ji33 (rd t638 x28_2) t638 (t638.length:Int) x28_2 t642 (t642.length:Int) (wrap64 (x36_3 + 1)))=some r:=by first|(rw [hji33] at H;exact H)|(simp only [hji33] at H ⊢;exact H)
          (try rw [hji33] at A24);(try rw [hji33] at A27);(try rw [hji33] at A30);(try rw [hji33] at A32);have hji33_:(if x7_3 < t652 then t652 else x7_3)=ji33:=hji33;have H':=am H;clear H;obtain ⟨p645,q645⟩:=pq x36_3 t642;obtain ⟨ad645,e645,hx645_0⟩:=Kd.at_int (Kd.R_reads' HO_34.out).2.2 x36_3 p645 q645;cases e645;obtain ⟨p645,q645⟩:=eT p645 q645;try go_wp2_with (first|((with_reducible refine gc 28 ?_);refine gL (some 43) Tryz.func28 #[.slice A0 l0.length c0,.int .i64 (rd t638 x28_2)] ?_;(with_reducible refine (impl_FindPath.calls _ _ l0 (rd t638 x28_2) t646 _ ?_ ?_ A24.out).mono ?_);exact cB HR0;exact HC0.out;rintro e w34 ⟨rfl,hb⟩;refine ⟨_,rfl,?_⟩;replace HO_26:=rb HO_26 hb;replace HO_34:=rb HO_34 hb;replace HB:=bs HB hb;(try clear hb);have p647:0≤(t646:Int):=dA;have q647:t646 < (l0.length:Int):=dA;obtain ⟨ad647,e647,hx647_0,hx647_1,hx647_2,hx647_3⟩:=at_T58 HR0.out t646 p647 q647;cases e647;replace hx647_0:=hC HB hx647_0;replace hx647_1:=hC HB hx647_1;replace hx647_2:=hC HB hx647_2;replace hx647_3:=hC HB hx647_3;replace p647:=eq_true p647;replace q647:=eq_true q647)|((with_reducible refine gd 12 ?_);refine bF w 12 #[.int .i64 0,.int .i64 0,.int .i64 0,.int .i64 0] 58 ?_;rintro gb648 w35 BK648 GW648 GE648 hb hg;replace HO_26:=rb HO_26 hb;replace HO_34:=rb HO_34 hb;replace HB:=bs HB hb;clear hb hg;obtain ⟨_,_,_,_,_,_,_,_⟩:=blkc4 BK648))
          have n0_:Aside0 (Kd.R (Kd.int .i64) 3 ((((w35.setCell ⟨gb648,0,none⟩ (.int .i64 ((rd_T58 l0 t646).f0))).setCell ⟨gb648,1,none⟩ (.int .i64 ((rd_T58 l0 t646).f1))).setCell ⟨gb648,2,none⟩ (.int .i64 ((rd_T58 l0 t646).f2))).setCell ⟨gb648,3,none⟩ (.int .i64 ((rd_T58 l0 t646).f3))) w.heap.size (n1 (.slice (some ad645) t642.length co20)) (.slice (some ad641) t638.length co14) t638):=⟨rf HO_26 BK648⟩;have n1_:Aside0 (Kd.R (Kd.int .i64) 3 ((((w35.setCell ⟨gb648,0,none⟩ (.int .i64 ((rd_T58 l0 t646).f0))).setCell ⟨gb648,1,none⟩ (.int .i64 ((rd_T58 l0 t646).f1))).setCell ⟨gb648,2,none⟩ (.int .i64 ((rd_T58 l0 t646).f2))).setCell ⟨gb648,3,none⟩ (.int .i64 ((rd_T58 l0 t646).f3))) w.heap.size (n1 (.slice (some ad641) t638.length co14)) (.slice (some ad645) t642.length co20) t642):=⟨rf HO_34 BK648⟩;have n2_:Aside0 (((((w35.setCell ⟨gb648,0,none⟩ (.int .i64 ((rd_T58 l0 t646).f0))).setCell ⟨gb648,1,none⟩ (.int .i64 ((rd_T58 l0 t646).f1))).setCell ⟨gb648,2,none⟩ (.int .i64 ((rd_T58 l0 t646).f2))).setCell ⟨gb648,3,none⟩ (.int .i64 ((rd_T58 l0 t646).f3))).heap[gb648]?=some (.cells #[.int .i64 ((rd_T58 l0 t646).f0),.int .i64 ((rd_T58 l0 t646).f1),.int .i64 ((rd_T58 l0 t646).f2),.int .i64 ((rd_T58 l0 t646).f3)] 58 (0,0))):=⟨kp BK648⟩;have n3_:Aside0 (Below w.heap.size w ((((w35.setCell ⟨gb648,0,none⟩ (.int .i64 ((rd_T58 l0 t646).f0))).setCell ⟨gb648,1,none⟩ (.int .i64 ((rd_T58 l0 t646).f1))).setCell ⟨gb648,2,none⟩ (.int .i64 ((rd_T58 l0 t646).f2))).setCell ⟨gb648,3,none⟩ (.int .i64 ((rd_T58 l0 t646).f3)))):=⟨bG⟩;(try clear HO_26);(try clear HO_34);(try clear BK648);(try clear HB);generalize ((((w35.setCell ⟨gb648,0,none⟩ (.int .i64 ((rd_T58 l0 t646).f0))).setCell ⟨gb648,1,none⟩ (.int .i64 ((rd_T58 l0 t646).f1))).setCell ⟨gb648,2,none⟩ (.int .i64 ((rd_T58 l0 t646).f2))).setCell ⟨gb648,3,none⟩ (.int .i64 ((rd_T58 l0 t646).f3)))=w37 at n0_ n1_ n2_ n3_ ⊢;have HO_26:=n0_;have HO_34:=n1_;have BK648:=n2_;have HB:=n3_;clear n0_ n1_ n2_ n3_;replace HO_26:=dr HO_26;replace HO_34:=dr HO_34;replace BK648:=dk BK648;have HBo:=HB;replace HB:=db HB;obtain ⟨p650,q650⟩:=pq t649 l0;obtain ⟨ad650,e650,hx650_0,hx650_1,hx650_2,hx650_3⟩:=at_T58 HR0.out t649 p650 q650;have hw650_3:=hx650_3;have hw650_2:=hx650_2;have hw650_1:=hx650_1;have hw650_0:=hx650_0;obtain rfl:ad647=ad650:=(by injection e650);replace hx650_0:=hC HB hx650_0;replace hx650_1:=hC HB hx650_1;replace hx650_2:=hC HB hx650_2;replace hx650_3:=hC HB hx650_3;obtain ⟨p650,q650⟩:=eT p650 q650;refine sw (ds:=[]) 8 (mb 8 0) impl_ClearBetween.tab11 impl_ClearBetween.bits11 (h4c BK648 (h1c (hC HB hw650_0) (h1c (hC HB hw650_1) (h1c (hC HB hw650_2) (h1 (hC HB hw650_3)))))) (fun hHeld HT_ HW_=>?_);generalize w37.drew=w38 at HO_26 HO_34 BK648 HB hx650_0 hx650_1 hx650_2 hx650_3 hHeld ⊢;refine pz [1,2,3,0] ?_;refine oa 4 50 (mb 8 31) HT_ (fun K hK=>?_);refine gA Tryz.func28 #[.slice (some ad647) l0.length c0,.int .i64 (rd t642 x36_3)] ?_;(with_reducible refine (impl_FindPath.calls _ _ l0 (rd t642 x36_3) t649 _ ?_ ?_ A27.out).mono ?_);exact cB HR0;exact HC0.out;rintro e w39 ⟨rfl,hb⟩;refine ⟨_,rfl,?_⟩;replace HO_26:=rb HO_26 hb;replace HO_34:=rb HO_34 hb;replace BK648:=kb BK648 hb;replace HB:=bs HB hb;(try clear hb);refine hK.out _ _ (cm4 BK648 hL) (fun hHeld=>?_);clear hK K;refine nB ?_;refine pz [5,6] ?_;refine oa 7 53 (mb 8 255) HT_ (fun K hK=>?_);refine gA Tryz.func44 #[.agg #[.int .i64 ((rd_T58 l0 t646).f0),.int .i64 ((rd_T58 l0 t646).f1),.int .i64 ((rd_T58 l0 t646).f2),.int .i64 ((rd_T58 l0 t646).f3)],.agg #[.int .i64 ((rd_T58 l0 t649).f0),.int .i64 ((rd_T58 l0 t649).f1),.int .i64 ((rd_T58 l0 t649).f2),.int .i64 ((rd_T58 l0 t649).f3)]] ?_;(with_reducible refine (impl_Conflict.calls k3 ((rd_T58 l0 t646).f0) ((rd_T58 l0 t646).f1) ((rd_T58 l0 t646).f2) ((rd_T58 l0 t646).f3) ((rd_T58 l0 t649).f0) ((rd_T58 l0 t649).f1) ((rd_T58 l0 t649).f2) ((rd_T58 l0 t649).f3) true _ A30.out).mono ?_)
          rintro e w40 ⟨rfl,hb⟩;refine ⟨_,rfl,?_⟩;replace HO_26:=rb HO_26 hb;replace HO_34:=rb HO_34 hb;replace BK648:=kb BK648 hb;replace HB:=bs HB hb;(try clear hb);refine hK.out _ _ (cm4 BK648 hL) (fun hHeld=>?_);clear hK K;refine nB ?_;refine eA HT_ ?_;obtain ⟨_,_,_,_,_,_,_,_⟩:=blkc4 BK648;try go_wp2_with (first|((with_reducible refine gc 46 ?_);refine gL (some 56) Tryz.func46 #[.agg #[.int .i64 ((rd_T58 l0 t646).f0),.int .i64 ((rd_T58 l0 t646).f1),.int .i64 ((rd_T58 l0 t646).f2),.int .i64 ((rd_T58 l0 t646).f3)]] ?_;(with_reducible refine (impl_ClearOf.calls ((rd_T58 l0 t646).f0) ((rd_T58 l0 t646).f1) ((rd_T58 l0 t646).f2) ((rd_T58 l0 t646).f3) t652 _ A32.out).mono ?_);rintro e w42 ⟨rfl,hb⟩;refine ⟨_,rfl,?_⟩;replace HO_26:=rb HO_26 hb;replace HO_34:=rb HO_34 hb;replace BK648:=kb BK648 hb;replace HB:=bs HB hb;(try clear hb)))
          go_roundg k3
          case measure=>have:=HJ3.out;have:=HK2.out;have:=HK3.out;omega
          case rel=>exact ⟨(ji33),(wrap64 (x36_3 + 1)),(by first|rfl|(simp;done)|(simp only [← hji33] <;> (first|rfl|simp))|(simp [*];done)),rS,H',⟨by have:=HJ3.out;have:=HK2.out;have:=HK3.out;omega⟩,⟨rK HO_26⟩,⟨rK HO_34⟩,⟨bG⟩⟩
         replace c31:=Bool.eq_false_iff.mpr c31;subst c31;rw [if_neg Bool.false_ne_true] at H;have H':=am H;clear H;obtain ⟨p645,q645⟩:=pq x36_3 t642;obtain ⟨ad645,e645,hx645_0⟩:=Kd.at_int (Kd.R_reads' HO_34.out).2.2 x36_3 p645 q645;cases e645;obtain ⟨p645,q645⟩:=eT p645 q645;try go_wp2_with (first|((with_reducible refine gc 28 ?_);refine gL (some 43) Tryz.func28 #[.slice A0 l0.length c0,.int .i64 (rd t638 x28_2)] ?_;(with_reducible refine (impl_FindPath.calls _ _ l0 (rd t638 x28_2) t646 _ ?_ ?_ A24.out).mono ?_);exact cB HR0;exact HC0.out;rintro e w43 ⟨rfl,hb⟩;refine ⟨_,rfl,?_⟩;replace HO_26:=rb HO_26 hb;replace HO_34:=rb HO_34 hb;replace HB:=bs HB hb;(try clear hb);have p647:0≤(t646:Int):=dA;have q647:t646 < (l0.length:Int):=dA;obtain ⟨ad647,e647,hx647_0,hx647_1,hx647_2,hx647_3⟩:=at_T58 HR0.out t646 p647 q647;cases e647;replace hx647_0:=hC HB hx647_0;replace hx647_1:=hC HB hx647_1;replace hx647_2:=hC HB hx647_2;replace hx647_3:=hC HB hx647_3;replace p647:=eq_true p647;replace q647:=eq_true q647)|((with_reducible refine gd 12 ?_);refine bF w 12 #[.int .i64 0,.int .i64 0,.int .i64 0,.int .i64 0] 58 ?_;rintro gb648 w44 BK648 GW648 GE648 hb hg;replace HO_26:=rb HO_26 hb;replace HO_34:=rb HO_34 hb;replace HB:=bs HB hb;clear hb hg;obtain ⟨_,_,_,_,_,_,_,_⟩:=blkc4 BK648))
         have n0_:Aside0 (Kd.R (Kd.int .i64) 3 ((((w44.setCell ⟨gb648,0,none⟩ (.int .i64 ((rd_T58 l0 t646).f0))).setCell ⟨gb648,1,none⟩ (.int .i64 ((rd_T58 l0 t646).f1))).setCell ⟨gb648,2,none⟩ (.int .i64 ((rd_T58 l0 t646).f2))).setCell ⟨gb648,3,none⟩ (.int .i64 ((rd_T58 l0 t646).f3))) w.heap.size (n1 (.slice (some ad645) t642.length co20)) (.slice (some ad641) t638.length co14) t638):=⟨rf HO_26 BK648⟩;have n1_:Aside0 (Kd.R (Kd.int .i64) 3 ((((w44.setCell ⟨gb648,0,none⟩ (.int .i64 ((rd_T58 l0 t646).f0))).setCell ⟨gb648,1,none⟩ (.int .i64 ((rd_T58 l0 t646).f1))).setCell ⟨gb648,2,none⟩ (.int .i64 ((rd_T58 l0 t646).f2))).setCell ⟨gb648,3,none⟩ (.int .i64 ((rd_T58 l0 t646).f3))) w.heap.size (n1 (.slice (some ad641) t638.length co14)) (.slice (some ad645) t642.length co20) t642):=⟨rf HO_34 BK648⟩;have n2_:Aside0 (((((w44.setCell ⟨gb648,0,none⟩ (.int .i64 ((rd_T58 l0 t646).f0))).setCell ⟨gb648,1,none⟩ (.int .i64 ((rd_T58 l0 t646).f1))).setCell ⟨gb648,2,none⟩ (.int .i64 ((rd_T58 l0 t646).f2))).setCell ⟨gb648,3,none⟩ (.int .i64 ((rd_T58 l0 t646).f3))).heap[gb648]?=some (.cells #[.int .i64 ((rd_T58 l0 t646).f0),.int .i64 ((rd_T58 l0 t646).f1),.int .i64 ((rd_T58 l0 t646).f2),.int .i64 ((rd_T58 l0 t646).f3)] 58 (0,0))):=⟨kp BK648⟩;have n3_:Aside0 (Below w.heap.size w ((((w44.setCell ⟨gb648,0,none⟩ (.int .i64 ((rd_T58 l0 t646).f0))).setCell ⟨gb648,1,none⟩ (.int .i64 ((rd_T58 l0 t646).f1))).setCell ⟨gb648,2,none⟩ (.int .i64 ((rd_T58 l0 t646).f2))).setCell ⟨gb648,3,none⟩ (.int .i64 ((rd_T58 l0 t646).f3)))):=⟨bG⟩;(try clear HO_26);(try clear HO_34);(try clear BK648);(try clear HB);generalize ((((w44.setCell ⟨gb648,0,none⟩ (.int .i64 ((rd_T58 l0 t646).f0))).setCell ⟨gb648,1,none⟩ (.int .i64 ((rd_T58 l0 t646).f1))).setCell ⟨gb648,2,none⟩ (.int .i64 ((rd_T58 l0 t646).f2))).setCell ⟨gb648,3,none⟩ (.int .i64 ((rd_T58 l0 t646).f3)))=w46 at n0_ n1_ n2_ n3_ ⊢;have HO_26:=n0_;have HO_34:=n1_;have BK648:=n2_;have HB:=n3_;clear n0_ n1_ n2_ n3_;replace HO_26:=dr HO_26;replace HO_34:=dr HO_34;replace BK648:=dk BK648;have HBo:=HB;replace HB:=db HB;obtain ⟨p650,q650⟩:=pq t649 l0;obtain ⟨ad650,e650,hx650_0,hx650_1,hx650_2,hx650_3⟩:=at_T58 HR0.out t649 p650 q650;have hw650_3:=hx650_3;have hw650_2:=hx650_2;have hw650_1:=hx650_1;have hw650_0:=hx650_0;obtain rfl:ad647=ad650:=(by injection e650);replace hx650_0:=hC HB hx650_0;replace hx650_1:=hC HB hx650_1;replace hx650_2:=hC HB hx650_2;replace hx650_3:=hC HB hx650_3;obtain ⟨p650,q650⟩:=eT p650 q650;refine sw (ds:=[]) 8 (mb 8 0) impl_ClearBetween.tab11 impl_ClearBetween.bits11 (h4c BK648 (h1c (hC HB hw650_0) (h1c (hC HB hw650_1) (h1c (hC HB hw650_2) (h1 (hC HB hw650_3)))))) (fun hHeld HT_ HW_=>?_);generalize w46.drew=w47 at HO_26 HO_34 BK648 HB hx650_0 hx650_1 hx650_2 hx650_3 hHeld ⊢;refine pz [1,2,3,0] ?_;refine oa 4 50 (mb 8 31) HT_ (fun K hK=>?_);refine gA Tryz.func28 #[.slice (some ad647) l0.length c0,.int .i64 (rd t642 x36_3)] ?_;(with_reducible refine (impl_FindPath.calls _ _ l0 (rd t642 x36_3) t649 _ ?_ ?_ A27.out).mono ?_);exact cB HR0;exact HC0.out;rintro e w48 ⟨rfl,hb⟩;refine ⟨_,rfl,?_⟩;replace HO_26:=rb HO_26 hb;replace HO_34:=rb HO_34 hb;replace BK648:=kb BK648 hb;replace HB:=bs HB hb;(try clear hb);refine hK.out _ _ (cm4 BK648 hL) (fun hHeld=>?_);clear hK K;refine nB ?_;refine pz [5,6] ?_;refine oa 7 53 (mb 8 255) HT_ (fun K hK=>?_);refine gA Tryz.func44 #[.agg #[.int .i64 ((rd_T58 l0 t646).f0),.int .i64 ((rd_T58 l0 t646).f1),.int .i64 ((rd_T58 l0 t646).f2),.int .i64 ((rd_T58 l0 t646).f3)],.agg #[.int .i64 ((rd_T58 l0 t649).f0),.int .i64 ((rd_T58 l0 t649).f1),.int .i64 ((rd_T58 l0 t649).f2),.int .i64 ((rd_T58 l0 t649).f3)]] ?_;(with_reducible refine (impl_Conflict.calls k3 ((rd_T58 l0 t646).f0) ((rd_T58 l0 t646).f1) ((rd_T58 l0 t646).f2) ((rd_T58 l0 t646).f3) ((rd_T58 l0 t649).f0) ((rd_T58 l0 t649).f1) ((rd_T58 l0 t649).f2) ((rd_T58 l0 t649).f3) false _ A30.out).mono ?_)
         rintro e w49 ⟨rfl,hb⟩;refine ⟨_,rfl,?_⟩;replace HO_26:=rb HO_26 hb;replace HO_34:=rb HO_34 hb;replace BK648:=kb BK648 hb;replace HB:=bs HB hb;(try clear hb);refine hK.out _ _ (cm4 BK648 hL) (fun hHeld=>?_);clear hK K;refine nB ?_;refine eA HT_ ?_;try go_wp2
         go_roundg k3
         case measure=>have:=HJ3.out;have:=HK2.out;have:=HK3.out;omega
         case rel=>exact ⟨(x7_3),(wrap64 (x36_3 + 1)),rS,rS,H',⟨by have:=HJ3.out;have:=HK2.out;have:=HK3.out;omega⟩,⟨rK HO_26⟩,⟨rK HO_34⟩,⟨bG⟩⟩
        rw [if_neg c21] at H;have c21b0:=df c21;clear c21;have H':=am H;clear H;go_wp2;go_roundg k3
        case measure=>have:=HJ3.out;have:=HK2.out;have:=HK3.out;omega
        case rel=>exact ⟨(x7_3),(wrap64 (x28_2 + 1)),rS,rS,H',⟨by have:=HJ3.out;have:=HK2.out;have:=HK3.out;omega⟩,⟨rm HO_26 (fun _ hk=>trivial)⟩,⟨bA⟩⟩
     rw [if_neg c15] at H;have c15b0:=df c15;clear c15;obtain rfl:=oj H;go_wp2;go_ret;exact ⟨rA,bA⟩

/-! ### impl_IsControl: function 7 -/
def impl_IsControl.j0:Nat→List (S58)→Bool→List Int→Int→List Int→Int→Option (Bool)
 | 0,_,_,_,_,_,_=>none
 | k + 1,x0,x28,x654000,x654001,x654002,x654003=>if x28=true then (some false) else (if (x654002.length:Int)=0 then (some (x654003 == 0)) else ((impl_ClearBetween.f k x0 x654000 x654002).bind fun t657=>((impl_InRange.f x654003 1 t657).bind fun t658=>(some t658))))
def impl_IsControl.f (k:Nat) (l0:List (S58)) (l1_0:List Int) (a1_1:Int) (l1_2:List Int) (a1_3:Int):Option (Bool):=(impl_IsTogether.f k l0 l1_0).bind fun t654=>(if t654=true then ((impl_IsTogether.f k l0 l1_2).bind fun t655=>(if t655=true then (if (l1_0.length:Int)=0 then (impl_IsControl.j0 k l0 true l1_0 a1_1 l1_2 a1_3) else ((impl_InRange.f a1_1 0 1000000).bind fun t656=>(impl_IsControl.j0 k l0 (!t656) l1_0 a1_1 l1_2 a1_3))) else (impl_IsControl.j0 k l0 true l1_0 a1_1 l1_2 a1_3))) else (impl_IsControl.j0 k l0 true l1_0 a1_1 l1_2 a1_3))
theorem impl_IsControl.mono_l:∀ k,(∀ y0 y1 y2 y3 y4 y5,LeO (impl_IsControl.j0 k y0 y1 y2 y3 y4 y5) (impl_IsControl.j0 (k + 1) y0 y1 y2 y3 y4 y5))
 | 0=>fun _ _ _ _ _ _ r h=>by simp [impl_IsControl.j0] at h
 | k + 1=>by
  have ih0:=impl_IsControl.mono_l k
  ·intro y0 y1 y2 y3 y4 y5;unfold impl_IsControl.j0;exact mz3 ih0 impl_ClearBetween.mono impl_IsTogether.mono
theorem impl_IsControl.mono:∀ a0 a1 a2 a3 a4 k,LeO (impl_IsControl.f k a0 a1 a2 a3 a4) (impl_IsControl.f (k + 1) a0 a1 a2 a3 a4):=by
 intro a0 a1 a2 a3 a4 k;have ih0:=impl_IsControl.mono_l k;unfold impl_IsControl.f;exact mz3 ih0 impl_ClearBetween.mono impl_IsTogether.mono
def impl_IsControl.T5:Bool × List (List Nat × List Nat):=(true,[([],[]),([0],[0]),([],[]),([],[]),([3],[3]),([],[]),([5],[5]),([2,4,6],[2,4,6]),([1,7,7],[1,7]),([8,8,0,1,2,3,4,5,6,7,8],[8])])
def impl_IsControl.B5:List Nat:=[0,1,0,0,8,0,32,124,255,511]
theorem impl_IsControl.tab5:rtab .any (opsOf Tryz.f7 5)=impl_IsControl.T5:=by kernel_rfl
theorem impl_IsControl.bits5:waitsOk impl_IsControl.T5.2 impl_IsControl.B5=true:=by kernel_rfl
set_option maxHeartbeats 8000000 in
set_option maxRecDepth 100000 in
theorem impl_IsControl.calls (k:Nat) (A0:Option Addr) (c0:Nat) (l0:List (S58)) (A1_0:Option Addr) (c1_0:Nat) (l1_0:List Int) (a1_1:Int) (A1_2:Option Addr) (c1_2:Nat) (l1_2:List Int) (a1_3:Int) (r:Bool) (w:World) (hr0:Kd.C k58 w A0 l0.length l0) (hc0:l0.length≤c0) (hr1_0:Kd.C (Kd.int .i64) w A1_0 l1_0.length l1_0) (hc1_0:l1_0.length≤c1_0) (hr1_2:Kd.C (Kd.int .i64) w A1_2 l1_2.length l1_2) (hc1_2:l1_2.length≤c1_2) (h:impl_IsControl.f k l0 l1_0 a1_1 l1_2 a1_3=some r) :
  Calls Tryz.prog 7 #[.slice A0 l0.length c0,.agg #[.slice A1_0 l1_0.length c1_0,.int .i64 a1_1,.slice A1_2 l1_2.length c1_2,.int .i64 a1_3]] w fun e w'=>e=.returned (.bool r)∧Below w.heap.size w w':=by
 have hu27:=Tryz.underlying27;have HR0:=am hr0;have HC0:=am hc0;clear hr0 hc0;have HR1_0:=am hr1_0;have HC1_0:=am hc1_0;clear hr1_0 hc1_0;have HR1_2:=am hr1_2;have HC1_2:=am hc1_2;clear hr1_2 hc1_2;have HB:=am (Below.refl w.heap.size w);unfold impl_IsControl.f at h;have H:=h;clear h;have HC3:=am H;clear H;go_enter Tryz.func7,Tryz.ntmps7;go_upto_region 1 with (first|((with_reducible refine gd 3 ?_);(try (refine gate_guard (by rfl) ?_;dsimp only));refine bF w 3 #[.slice A1_0 l1_0.length c1_0,.int .i64 a1_1,.slice A1_2 l1_2.length c1_2,.int .i64 a1_3] 27 ?_;rintro gb653 w4 BK653 GW653 GE653 hb hg;replace HB:=bs HB hb;clear hb hg));(try simp only [Act.put,List.setIfInBounds_toArray,List.set_cons_zero,List.set_cons_succ]);go_cut [28] (fun v28 wc=>∃ (kq:Nat) (x28_2:Bool),v28=.bool x28_2∧Aside0 (impl_IsControl.j0 kq l0 x28_2 l1_0 a1_1 l1_2 a1_3=some r)∧Aside0 (kq≤k)∧Aside0 (wc.heap[gb653]?=some (.cells #[(.slice A1_0 l1_0.length c1_0),.int .i64 a1_1,(.slice A1_2 l1_2.length c1_2),.int .i64 a1_3] 27 (0,0)))∧Aside0 (Below w.heap.size w wc))
 case first =>
  have H:=HC3.out;clear HC3;obtain ⟨t654,A5,H⟩:=bindE H;try dsimp only at H
  by_cases c6:t654=true
  ·subst c6;rw [if_pos rfl] at H;obtain ⟨t655,A7,H⟩:=bindE H;try dsimp only at H
   by_cases c8:t655=true
   ·subst c8;rw [if_pos rfl] at H;by_cases c9:(l1_0.length:Int)=0
    ·rw [if_pos c9] at H;obtain ⟨c9b0,c9b1⟩:=eI c9;clear c9;(first|rw [c9b0]|(simp only [i64_w,i32_w];rw [c9b0])|skip);have H':=am H;clear H;obtain ⟨_,_,_,_,_,_,_,_⟩:=blkc4 BK653;go_wp2_with (first|((with_reducible refine gc 24 ?_);refine gL (some 8) Tryz.func24 #[.slice A0 l0.length c0,.slice A1_0 l1_0.length c1_0] ?_;(with_reducible refine (impl_IsTogether.calls k _ _ l0 _ _ l1_0 true _ ?_ ?_ ?_ ?_ A5.out).mono ?_);exact cB HR0;exact HC0.out;exact cB HR1_0;exact HC1_0.out;rintro e w11 ⟨rfl,hb⟩;refine ⟨_,rfl,?_⟩;replace BK653:=kb BK653 hb;replace HB:=bs HB hb;(try clear hb);obtain ⟨_,_,_,_,_,_,_,_⟩:=blkc4 BK653)|(go_at_call 24;(with_reducible refine (impl_IsTogether.calls k _ _ l0 _ _ l1_2 true _ ?_ ?_ ?_ ?_ A7.out).mono ?_);exact cB HR0;exact HC0.out;exact cB HR1_2;exact HC1_2.out;rintro e w13 ⟨rfl,hb⟩;replace BK653:=kb BK653 hb;replace HB:=bs HB hb;(try clear hb);obtain ⟨_,_,_,_,_,_,_,_⟩:=blkc4 BK653))
     go_meet
     case rel=>exact ⟨_,(true),rS,H',⟨oL⟩,⟨bK BK653⟩,⟨bG⟩⟩
    rw [if_neg c9] at H;obtain ⟨c9b0,c9b1⟩:=nI c9;have c9b2:¬ (l1_0=[]):=fun h_=>c9 (by rw [h_];rfl);(first|rw [c9b0]|(simp only [i64_w,i32_w];rw [c9b0])|skip);obtain ⟨t656,A15,H⟩:=bindE H;try dsimp only at H
    have H':=am H;clear H;obtain ⟨_,_,_,_,_,_,_,_⟩:=blkc4 BK653;go_wp2_with (first|((with_reducible refine gc 24 ?_);refine gL (some 8) Tryz.func24 #[.slice A0 l0.length c0,.slice A1_0 l1_0.length c1_0] ?_;(with_reducible refine (impl_IsTogether.calls k _ _ l0 _ _ l1_0 true _ ?_ ?_ ?_ ?_ A5.out).mono ?_);exact cB HR0;exact HC0.out;exact cB HR1_0;exact HC1_0.out;rintro e w17 ⟨rfl,hb⟩;refine ⟨_,rfl,?_⟩;replace BK653:=kb BK653 hb;replace HB:=bs HB hb;(try clear hb);obtain ⟨_,_,_,_,_,_,_,_⟩:=blkc4 BK653)|(go_at_call 24;(with_reducible refine (impl_IsTogether.calls k _ _ l0 _ _ l1_2 true _ ?_ ?_ ?_ ?_ A7.out).mono ?_);exact cB HR0;exact HC0.out;exact cB HR1_2;exact HC1_2.out;rintro e w19 ⟨rfl,hb⟩;replace BK653:=kb BK653 hb;replace HB:=bs HB hb;(try clear hb);obtain ⟨_,_,_,_,_,_,_,_⟩:=blkc4 BK653)|(go_at_call 25;(with_reducible refine (impl_InRange.calls a1_1 0 1000000 t656 _ A15.out).mono ?_);rintro e w' ⟨rfl,⟨nd,rfl⟩⟩))
    go_meet
    case rel=>exact ⟨_,(!t656),rS,H',⟨oL⟩,⟨bK BK653⟩,⟨bG⟩⟩
   replace c8:=Bool.eq_false_iff.mpr c8;subst c8;rw [if_neg Bool.false_ne_true] at H;have H':=am H;clear H;obtain ⟨_,_,_,_,_,_,_,_⟩:=blkc4 BK653;go_wp2_with (first|((with_reducible refine gc 24 ?_);refine gL (some 8) Tryz.func24 #[.slice A0 l0.length c0,.slice A1_0 l1_0.length c1_0] ?_;(with_reducible refine (impl_IsTogether.calls k _ _ l0 _ _ l1_0 true _ ?_ ?_ ?_ ?_ A5.out).mono ?_);exact cB HR0;exact HC0.out;exact cB HR1_0;exact HC1_0.out;rintro e w22 ⟨rfl,hb⟩;refine ⟨_,rfl,?_⟩;replace BK653:=kb BK653 hb;replace HB:=bs HB hb;(try clear hb);obtain ⟨_,_,_,_,_,_,_,_⟩:=blkc4 BK653)|(go_at_call 24;(with_reducible refine (impl_IsTogether.calls k _ _ l0 _ _ l1_2 false _ ?_ ?_ ?_ ?_ A7.out).mono ?_);exact cB HR0;exact HC0.out;exact cB HR1_2;exact HC1_2.out;rintro e w24 ⟨rfl,hb⟩;replace BK653:=kb BK653 hb;replace HB:=bs HB hb;(try clear hb)))
   go_meet
   case rel=>exact ⟨_,(true),rS,H',⟨oL⟩,⟨bK BK653⟩,⟨bG⟩⟩
  replace c6:=Bool.eq_false_iff.mpr c6;subst c6;rw [if_neg Bool.false_ne_true] at H;have H':=am H;clear H;obtain ⟨_,_,_,_,_,_,_,_⟩:=blkc4 BK653;go_wp2_with (first|((with_reducible refine gc 24 ?_);refine gL (some 8) Tryz.func24 #[.slice A0 l0.length c0,.slice A1_0 l1_0.length c1_0] ?_;(with_reducible refine (impl_IsTogether.calls k _ _ l0 _ _ l1_0 false _ ?_ ?_ ?_ ?_ A5.out).mono ?_);exact cB HR0;exact HC0.out;exact cB HR1_0;exact HC1_0.out;rintro e w26 ⟨rfl,hb⟩;refine ⟨_,rfl,?_⟩;replace BK653:=kb BK653 hb;replace HB:=bs HB hb;(try clear hb)))
  go_meet
  case rel=>exact ⟨_,(true),rS,H',⟨oL⟩,⟨bK BK653⟩,⟨bG⟩⟩
 case rest =>
  clear HC3;obtain ⟨kq,x28_2,rfl,HA,HJ2,BK653,HB⟩:=hcut
  cases kq with
  | zero=>exact absurd HA.out (by simp [impl_IsControl.j0])
  | succ kj2 =>
   have H:=HA.out;clear HA;simp only [impl_IsControl.j0] at H;by_cases c27:x28_2=true
   ·subst c27;rw [if_pos rfl] at H;obtain rfl:=oj H;go_wp2;go_ret;exact ⟨rA,bG⟩
   replace c27:=Bool.eq_false_iff.mpr c27;subst c27;rw [if_neg Bool.false_ne_true] at H;by_cases c28:(l1_2.length:Int)=0
   ·rw [if_pos c28] at H;obtain ⟨c28b0,c28b1⟩:=eI c28;clear c28;obtain rfl:=oj H;obtain ⟨_,_,_,_,_,_,_,_⟩:=blkc4 BK653;go_wp2;go_ret;exact ⟨rA,bG⟩
   rw [if_neg c28] at H;obtain ⟨c28b0,c28b1⟩:=nI c28;have c28b2:¬ (l1_2=[]):=fun h_=>c28 (by rw [h_];rfl);obtain ⟨t657,A30,H⟩:=bindE H;try dsimp only at H
   obtain ⟨t658,A31,H⟩:=bindE H;try dsimp only at H
   obtain rfl:=oj H;obtain ⟨_,_,_,_,_,_,_,_⟩:=blkc4 BK653;try go_wp2
   replace BK653:=dk BK653;have HBo:=HB;replace HB:=db HB;refine sw (ds:=[]) 10 (mb 10 0) impl_IsControl.tab5 impl_IsControl.bits5 (h4 BK653) (fun hHeld HT_ HW_=>?_);generalize wc.drew=w33 at BK653 HB hHeld ⊢;refine pz [0,2,3,5,1,4,6] ?_;refine oa 7 43 (mb 10 255) HT_ (fun K hK=>?_);refine gA Tryz.func26 #[.slice A0 l0.length c0,.slice A1_0 l1_0.length c1_0,.slice A1_2 l1_2.length c1_2] ?_;(with_reducible refine (impl_ClearBetween.calls kj2 _ _ l0 _ _ l1_0 _ _ l1_2 t657 _ ?_ ?_ ?_ ?_ ?_ ?_ A30.out).mono ?_);exact cB HR0;exact HC0.out;exact cB HR1_0;exact HC1_0.out;exact cB HR1_2;exact HC1_2.out;rintro e w34 ⟨rfl,hb⟩;refine ⟨_,rfl,?_⟩;replace BK653:=kb BK653 hb;replace HB:=bs HB hb;(try clear hb);refine hK.out _ _ (cn4 BK653) (fun hHeld=>?_);clear hK K;refine nB ?_;refine oa 8 44 (mb 10 511) HT_ (fun K hK=>?_);refine gA Tryz.func25 #[.int .i64 a1_3,.int .i64 1,.int .i64 t657] ?_;(with_reducible refine (impl_InRange.calls a1_3 1 t657 t658 _ A31.out).mono ?_);rintro e w' ⟨rfl,⟨nd,rfl⟩⟩;refine ⟨_,rfl,?_⟩;refine hK.out _ _ (cn4 BK653) (fun hHeld=>?_);clear hK K;refine nB ?_;refine pz [9] ?_;refine eA HT_ ?_;try go_wp2
   go_ret;exact ⟨rA,bG⟩

/-! ### impl_AreWants: function 8 -/
def impl_AreWants.l0:Nat→List (S58)→List (S39)→List (S39)→Int→Int→Option (Bool)
 | 0,_,_,_,_,_=>none
 | k + 1,x0,x1,x10,x11,x12=>if x12 < x11 then (if 0≤x12 then (if x12 < (x10.length:Int) then ((impl_FindPath.f x0 ((rd_T39 x10 x12).f0)).bind fun t662=>(if t662 < 0 then (some false) else ((impl_InRange.f ((rd_T39 x10 x12).f1) 0 100000).bind fun t663=>(if t663=true then (if x12 > 0 then (if 0≤(wrap64 (x12 - 1)) then (if (wrap64 (x12 - 1)) < (x1.length:Int) then (if ((rd_T39 x10 x12).f0)≤((rd_T39 x1 (wrap64 (x12 - 1))).f0) then (some false) else (impl_AreWants.l0 k x0 x1 x10 x11 (wrap64 (x12 + 1)))) else (none)) else (none)) else (impl_AreWants.l0 k x0 x1 x10 x11 (wrap64 (x12 + 1)))) else (some false))))) else (none)) else (none)) else (some true)
def impl_AreWants.f (k:Nat) (l0:List (S58)) (l1:List (S39)):Option (Bool):=(impl_ArePaths.f k l0).bind fun t659=>(if t659=true then (impl_AreWants.l0 k l0 l1 l1 (l1.length:Int) 0) else (some false))
theorem impl_AreWants.mono_l:∀ k,(∀ y0 y1 y2 y3 y4,LeO (impl_AreWants.l0 k y0 y1 y2 y3 y4) (impl_AreWants.l0 (k + 1) y0 y1 y2 y3 y4))
 | 0=>fun _ _ _ _ _ r h=>by simp [impl_AreWants.l0] at h
 | k + 1=>by
  have ih0:=impl_AreWants.mono_l k
  ·intro y0 y1 y2 y3 y4;unfold impl_AreWants.l0;exact mz2 ih0 impl_ArePaths.mono
theorem impl_AreWants.mono:∀ a0 a1 k,LeO (impl_AreWants.f k a0 a1) (impl_AreWants.f (k + 1) a0 a1):=by
 intro a0 a1 k;have ih0:=impl_AreWants.mono_l k;unfold impl_AreWants.f;exact mz2 ih0 impl_ArePaths.mono
def impl_AreWants.T6:Bool × List (List Nat × List Nat):=(true,[([],[]),([],[]),([1],[1]),([0,2],[0,2]),([3],[3]),([4,3],[4]),([5],[5]),([6,5],[5,6]),([7,5,5],[5,7]),([8,5],[5,8]),([5,9],[5,9]),([10,8],[10]),([11],[11]),([12,11],[11,12]),([13,11,11],[11,13]),([14],[14]),([15,14],[14,15]),([14],[14]),([14],[14]),([18,14],[14,18]),([17,19,14],[14,17,19]),([20,14],[14,20]),([21,14],[14,21]),([16,22,14],[14,16,22]),([14,23,11],[11,14,23]),([11,24],[11,24])])
def impl_AreWants.B6:List Nat:=[0,0,2,7,15,31,63,127,255,511,1023,2047,4095,8191,16383,32767,65535,32767,32767,294911,950271,1998847,4095999,8388607,16777215,33554431]
theorem impl_AreWants.tab6:rtab .any (opsOf Tryz.f8 6)=impl_AreWants.T6:=by kernel_rfl
theorem impl_AreWants.bits6:waitsOk impl_AreWants.T6.2 impl_AreWants.B6=true:=by kernel_rfl
set_option maxHeartbeats 8000000 in
set_option maxRecDepth 100000 in
theorem impl_AreWants.calls (k:Nat) (A0:Option Addr) (c0:Nat) (l0:List (S58)) (A1:Option Addr) (c1:Nat) (l1:List (S39)) (r:Bool) (w:World) (hr0:Kd.C k58 w A0 l0.length l0) (hc0:l0.length≤c0) (hr1:Kd.C k39 w A1 l1.length l1) (hc1:l1.length≤c1) (h:impl_AreWants.f k l0 l1=some r) :
  Calls Tryz.prog 8 #[.slice A0 l0.length c0,.slice A1 l1.length c1] w fun e w'=>e=.returned (.bool r)∧Below w.heap.size w w':=by
 have hu39:=Tryz.underlying39;have HR0:=am hr0;have HC0:=am hc0;clear hr0 hc0;have HR1:=am hr1;have HC1:=am hc1;clear hr1 hc1;have HB:=am (Below.refl w.heap.size w);unfold impl_AreWants.f at h;have H:=h;clear h;obtain ⟨t659,A3,H⟩:=bindE H;try dsimp only at H
 by_cases c4:t659=true
 ·subst c4;rw [if_pos rfl] at H;have H':=am H;clear H;go_enter Tryz.func8,Tryz.ntmps8;go_wp2_with (first|((with_reducible refine gc 27 ?_);refine gL (some 8) Tryz.func27 #[.slice A0 l0.length c0] ?_;(with_reducible refine (impl_ArePaths.calls k _ _ l0 true _ ?_ ?_ A3.out).mono ?_);exact cO HR0;exact HC0.out;rintro e w5 ⟨rfl,hb⟩;refine ⟨_,rfl,?_⟩;replace HB:=bs HB hb;(try clear hb)));go_loopg [12] k (fun kq v12 w'=>∃ (x12_1:Int),v12=.int .i64 x12_1∧Aside0 (impl_AreWants.l0 kq l0 l1 l1 (l1.length:Int) x12_1=some r)∧Aside0 (kq≤k)∧Aside0 (Below w.heap.size w w'))
  case atStart=>exact ⟨(0),rS,H',⟨Nat.le_refl _⟩,⟨bA⟩⟩
  case round =>
   clear H';obtain ⟨x12_1,rfl,HA,HK1,HB⟩:=hrel
   cases gk with
   | zero=>exact absurd HA.out (by simp [impl_AreWants.l0])
   | succ k1 =>
    have H:=HA.out;clear HA;simp only [impl_AreWants.l0] at H;by_cases c6:x12_1 < (l1.length:Int)
    ·rw [if_pos c6] at H;have c6b0:=dt c6;clear c6;have c7b0:=ifC H;replace H:=ifT H;have c8b0:=ifC H;replace H:=ifT H;obtain ⟨t662,A9,H⟩:=bindE H;try dsimp only at H
     by_cases c10:t662 < 0
     ·rw [if_pos c10] at H;have c10b0:=dt c10;clear c10;obtain rfl:=oj H;obtain ⟨p660,q660⟩:=pq x12_1 l1;obtain ⟨ad660,e660,hx660_0,hx660_1⟩:=at_T39 (Kd.C_below HR1.out HB.out) x12_1 p660 q660;cases e660;obtain ⟨p660,q660⟩:=eT p660 q660;try go_wp2_with (first|((with_reducible refine gd 6 ?_);refine bF w 6 #[.int .i64 0,.int .i64 0] 39 ?_;rintro gb661 w11 BK661 GW661 GE661 hb hg;replace HB:=bs HB hb;clear hb hg;obtain ⟨_,_,_,_⟩:=blkc2 BK661))
      have n0_:Aside0 (((w11.setCell ⟨gb661,0,none⟩ (.int .i64 ((rd_T39 l1 x12_1).f0))).setCell ⟨gb661,1,none⟩ (.int .i64 ((rd_T39 l1 x12_1).f1))).heap[gb661]?=some (.cells #[.int .i64 ((rd_T39 l1 x12_1).f0),.int .i64 ((rd_T39 l1 x12_1).f1)] 39 (0,0))):=⟨kp BK661⟩;have n1_:Aside0 (Below w.heap.size w ((w11.setCell ⟨gb661,0,none⟩ (.int .i64 ((rd_T39 l1 x12_1).f0))).setCell ⟨gb661,1,none⟩ (.int .i64 ((rd_T39 l1 x12_1).f1)))):=⟨bG⟩;(try clear BK661);(try clear HB);generalize ((w11.setCell ⟨gb661,0,none⟩ (.int .i64 ((rd_T39 l1 x12_1).f0))).setCell ⟨gb661,1,none⟩ (.int .i64 ((rd_T39 l1 x12_1).f1)))=w13 at n0_ n1_ ⊢;have BK661:=n0_;have HB:=n1_;clear n0_ n1_;replace BK661:=dk BK661;have HBo:=HB;replace HB:=db HB;refine sw (ds:=[]) 26 (mb 26 0) impl_AreWants.tab6 impl_AreWants.bits6 (h2 BK661) (fun hHeld HT_ HW_=>?_);generalize w13.drew=w14 at BK661 HB hHeld ⊢;refine pz [0,1,2] ?_;refine oa 3 20 (mb 26 15) HT_ (fun K hK=>?_);refine gA Tryz.func28 #[.slice A0 l0.length c0,.int .i64 ((rd_T39 l1 x12_1).f0)] ?_;(with_reducible refine (impl_FindPath.calls _ _ l0 ((rd_T39 l1 x12_1).f0) t662 _ ?_ ?_ A9.out).mono ?_);exact cB HR0;exact HC0.out;rintro e w15 ⟨rfl,hb⟩;refine ⟨_,rfl,?_⟩;replace BK661:=kb BK661 hb;replace HB:=bs HB hb;(try clear hb);refine hK.out _ _ (cn2 BK661) (fun hHeld=>?_);clear hK K;refine nB ?_;refine pz [4,5,6,7,8,9,10,11,12,13,14,15,16,17,18,19,20,21,22,23,24,25] ?_;refine eA HT_ ?_;try go_wp2
      go_ret;exact ⟨rA,bG⟩
     rw [if_neg c10] at H;have c10b0:=df c10;clear c10;obtain ⟨t663,A16,H⟩:=bindE H;try dsimp only at H
     by_cases c17:t663=true
     ·subst c17;rw [if_pos rfl] at H;by_cases c18:x12_1 > 0
      ·rw [if_pos c18] at H;have c18b0:=dt c18;clear c18;obtain ⟨ji19,hji19⟩:∃ j_:Int,(wrap64 (x12_1 - 1))=j_:=⟨_,rfl⟩;replace H:(if 0≤(ji19) then (if (ji19) < (l1.length:Int) then (if ((rd_T39 l1 x12_1).f0)≤((rd_T39 l1 (ji19)).f0) then (some false) else (impl_AreWants.l0 k1 l0 l1 l1 (l1.length:Int) (wrap64 (x12_1 + 1)))) else (none)) else (none))=some r:=by first|(rw [hji19] at H;exact H)|(simp only [hji19] at H ⊢;exact H)
       (try rw [hji19] at A9);(try rw [hji19] at A16);have hji19w:(IntKind.i64.wrap (x12_1 - 1))=ji19:=(i64_w _).trans hji19;have c20b0:=ifC H;replace H:=ifT H;have c21b0:=ifC H;replace H:=ifT H;by_cases c22:((rd_T39 l1 x12_1).f0)≤((rd_T39 l1 (ji19)).f0)
       ·rw [if_pos c22] at H;have c22b0:=dt c22;clear c22;obtain rfl:=oj H;obtain ⟨p660,q660⟩:=pq x12_1 l1;obtain ⟨ad660,e660,hx660_0,hx660_1⟩:=at_T39 (Kd.C_below HR1.out HB.out) x12_1 p660 q660;cases e660;obtain ⟨p660,q660⟩:=eT p660 q660;try go_wp2_with (first|((with_reducible refine gd 6 ?_);refine bF w 6 #[.int .i64 0,.int .i64 0] 39 ?_;rintro gb661 w23 BK661 GW661 GE661 hb hg;replace HB:=bs HB hb;clear hb hg;obtain ⟨_,_,_,_⟩:=blkc2 BK661))
        have n0_:Aside0 (((w23.setCell ⟨gb661,0,none⟩ (.int .i64 ((rd_T39 l1 x12_1).f0))).setCell ⟨gb661,1,none⟩ (.int .i64 ((rd_T39 l1 x12_1).f1))).heap[gb661]?=some (.cells #[.int .i64 ((rd_T39 l1 x12_1).f0),.int .i64 ((rd_T39 l1 x12_1).f1)] 39 (0,0))):=⟨kp BK661⟩;have n1_:Aside0 (Below w.heap.size w ((w23.setCell ⟨gb661,0,none⟩ (.int .i64 ((rd_T39 l1 x12_1).f0))).setCell ⟨gb661,1,none⟩ (.int .i64 ((rd_T39 l1 x12_1).f1)))):=⟨bG⟩;(try clear BK661);(try clear HB);generalize ((w23.setCell ⟨gb661,0,none⟩ (.int .i64 ((rd_T39 l1 x12_1).f0))).setCell ⟨gb661,1,none⟩ (.int .i64 ((rd_T39 l1 x12_1).f1)))=w25 at n0_ n1_ ⊢;have BK661:=n0_;have HB:=n1_;clear n0_ n1_;replace BK661:=dk BK661;have HBo:=HB;replace HB:=db HB;obtain ⟨p664,q664⟩:=pq (ji19) l1;obtain ⟨ad664,e664,hx664_0,hx664_1⟩:=at_T39 HR1.out (ji19) p664 q664;have hw664_1:=hx664_1;have hw664_0:=hx664_0;obtain rfl:ad660=ad664:=(by injection e664);replace hx664_0:=hC HB hx664_0;replace hx664_1:=hC HB hx664_1;obtain ⟨p664,q664⟩:=eT p664 q664;refine sw (ds:=[]) 26 (mb 26 0) impl_AreWants.tab6 impl_AreWants.bits6 (h2c BK661 (h1c (hC HB hw664_0) (h1 (hC HB hw664_1)))) (fun hHeld HT_ HW_=>?_);generalize w25.drew=w26 at BK661 HB hx664_0 hx664_1 hHeld ⊢;refine pz [0,1,2] ?_;refine oa 3 20 (mb 26 15) HT_ (fun K hK=>?_);refine gA Tryz.func28 #[.slice A0 l0.length c0,.int .i64 ((rd_T39 l1 x12_1).f0)] ?_;(with_reducible refine (impl_FindPath.calls _ _ l0 ((rd_T39 l1 x12_1).f0) t662 _ ?_ ?_ A9.out).mono ?_);exact cB HR0;exact HC0.out;rintro e w27 ⟨rfl,hb⟩;refine ⟨_,rfl,?_⟩;replace BK661:=kb BK661 hb;replace HB:=bs HB hb;(try clear hb);refine hK.out _ _ (cm2 BK661 hL) (fun hHeld=>?_);clear hK K;refine nB ?_;refine pz [4,5,6,7] ?_;refine oa 8 25 (mb 26 511) HT_ (fun K hK=>?_);refine gA Tryz.func25 #[.int .i64 ((rd_T39 l1 x12_1).f1),.int .i64 0,.int .i64 100000] ?_;(with_reducible refine (impl_InRange.calls ((rd_T39 l1 x12_1).f1) 0 100000 true _ A16.out).mono ?_);rintro e w' ⟨rfl,⟨nd,rfl⟩⟩;refine ⟨_,rfl,?_⟩;refine hK.out _ _ (cm2 BK661 hL) (fun hHeld=>?_);clear hK K;refine nB ?_;refine pz [9,10,11,12,13,14,15,17,18,19,20,21,16,22,23,24,25] ?_;refine eA HT_ ?_;try go_wp2
        go_ret;exact ⟨by first|rfl|(simp [errW_none,errW_some] <;> rfl)|(simp only [← hji19];first|rfl|(simp [errW_none,errW_some] <;> rfl))|(simp [*,errW_none,errW_some] <;> rfl),bG⟩
       rw [if_neg c22] at H;have c22b0:=df c22;clear c22;have H':=am H;clear H;obtain ⟨p660,q660⟩:=pq x12_1 l1;obtain ⟨ad660,e660,hx660_0,hx660_1⟩:=at_T39 (Kd.C_below HR1.out HB.out) x12_1 p660 q660;cases e660;obtain ⟨p660,q660⟩:=eT p660 q660;try go_wp2_with (first|((with_reducible refine gd 6 ?_);refine bF w 6 #[.int .i64 0,.int .i64 0] 39 ?_;rintro gb661 w28 BK661 GW661 GE661 hb hg;replace HB:=bs HB hb;clear hb hg;obtain ⟨_,_,_,_⟩:=blkc2 BK661))
       have n0_:Aside0 (((w28.setCell ⟨gb661,0,none⟩ (.int .i64 ((rd_T39 l1 x12_1).f0))).setCell ⟨gb661,1,none⟩ (.int .i64 ((rd_T39 l1 x12_1).f1))).heap[gb661]?=some (.cells #[.int .i64 ((rd_T39 l1 x12_1).f0),.int .i64 ((rd_T39 l1 x12_1).f1)] 39 (0,0))):=⟨kp BK661⟩;have n1_:Aside0 (Below w.heap.size w ((w28.setCell ⟨gb661,0,none⟩ (.int .i64 ((rd_T39 l1 x12_1).f0))).setCell ⟨gb661,1,none⟩ (.int .i64 ((rd_T39 l1 x12_1).f1)))):=⟨bG⟩;(try clear BK661);(try clear HB);generalize ((w28.setCell ⟨gb661,0,none⟩ (.int .i64 ((rd_T39 l1 x12_1).f0))).setCell ⟨gb661,1,none⟩ (.int .i64 ((rd_T39 l1 x12_1).f1)))=w30 at n0_ n1_ ⊢;have BK661:=n0_;have HB:=n1_;clear n0_ n1_;replace BK661:=dk BK661;have HBo:=HB;replace HB:=db HB;obtain ⟨p664,q664⟩:=pq (ji19) l1;obtain ⟨ad664,e664,hx664_0,hx664_1⟩:=at_T39 HR1.out (ji19) p664 q664;have hw664_1:=hx664_1;have hw664_0:=hx664_0;obtain rfl:ad660=ad664:=(by injection e664);replace hx664_0:=hC HB hx664_0;replace hx664_1:=hC HB hx664_1;obtain ⟨p664,q664⟩:=eT p664 q664;refine sw (ds:=[]) 26 (mb 26 0) impl_AreWants.tab6 impl_AreWants.bits6 (h2c BK661 (h1c (hC HB hw664_0) (h1 (hC HB hw664_1)))) (fun hHeld HT_ HW_=>?_);generalize w30.drew=w31 at BK661 HB hx664_0 hx664_1 hHeld ⊢;refine pz [0,1,2] ?_;refine oa 3 20 (mb 26 15) HT_ (fun K hK=>?_);refine gA Tryz.func28 #[.slice A0 l0.length c0,.int .i64 ((rd_T39 l1 x12_1).f0)] ?_;(with_reducible refine (impl_FindPath.calls _ _ l0 ((rd_T39 l1 x12_1).f0) t662 _ ?_ ?_ A9.out).mono ?_);exact cB HR0;exact HC0.out;rintro e w32 ⟨rfl,hb⟩;refine ⟨_,rfl,?_⟩;replace BK661:=kb BK661 hb;replace HB:=bs HB hb;(try clear hb);refine hK.out _ _ (cm2 BK661 hL) (fun hHeld=>?_);clear hK K;refine nB ?_;refine pz [4,5,6,7] ?_;refine oa 8 25 (mb 26 511) HT_ (fun K hK=>?_);refine gA Tryz.func25 #[.int .i64 ((rd_T39 l1 x12_1).f1),.int .i64 0,.int .i64 100000] ?_;(with_reducible refine (impl_InRange.calls ((rd_T39 l1 x12_1).f1) 0 100000 true _ A16.out).mono ?_);rintro e w' ⟨rfl,⟨nd,rfl⟩⟩;refine ⟨_,rfl,?_⟩;refine hK.out _ _ (cm2 BK661 hL) (fun hHeld=>?_);clear hK K;refine nB ?_;refine pz [9,10,11,12,13,14,15,17,18,19,20,21,16,22,23,24,25] ?_;refine eA HT_ ?_;try go_wp2
       go_roundg k1
       case measure=>have:=HK1.out;omega
       case rel=>exact ⟨(wrap64 (x12_1 + 1)),rS,H',⟨by have:=HK1.out;omega⟩,⟨bG⟩⟩
      rw [if_neg c18] at H;have c18b0:=df c18;clear c18;have H':=am H;clear H;obtain ⟨p660,q660⟩:=pq x12_1 l1;obtain ⟨ad660,e660,hx660_0,hx660_1⟩:=at_T39 (Kd.C_below HR1.out HB.out) x12_1 p660 q660;cases e660;obtain ⟨p660,q660⟩:=eT p660 q660;try go_wp2_with (first|((with_reducible refine gd 6 ?_);refine bF w 6 #[.int .i64 0,.int .i64 0] 39 ?_;rintro gb661 w33 BK661 GW661 GE661 hb hg;replace HB:=bs HB hb;clear hb hg;obtain ⟨_,_,_,_⟩:=blkc2 BK661))
      have n0_:Aside0 (((w33.setCell ⟨gb661,0,none⟩ (.int .i64 ((rd_T39 l1 x12_1).f0))).setCell ⟨gb661,1,none⟩ (.int .i64 ((rd_T39 l1 x12_1).f1))).heap[gb661]?=some (.cells #[.int .i64 ((rd_T39 l1 x12_1).f0),.int .i64 ((rd_T39 l1 x12_1).f1)] 39 (0,0))):=⟨kp BK661⟩;have n1_:Aside0 (Below w.heap.size w ((w33.setCell ⟨gb661,0,none⟩ (.int .i64 ((rd_T39 l1 x12_1).f0))).setCell ⟨gb661,1,none⟩ (.int .i64 ((rd_T39 l1 x12_1).f1)))):=⟨bG⟩;(try clear BK661);(try clear HB);generalize ((w33.setCell ⟨gb661,0,none⟩ (.int .i64 ((rd_T39 l1 x12_1).f0))).setCell ⟨gb661,1,none⟩ (.int .i64 ((rd_T39 l1 x12_1).f1)))=w35 at n0_ n1_ ⊢;have BK661:=n0_;have HB:=n1_;clear n0_ n1_;replace BK661:=dk BK661;have HBo:=HB;replace HB:=db HB;refine sw (ds:=[]) 26 (mb 26 0) impl_AreWants.tab6 impl_AreWants.bits6 (h2 BK661) (fun hHeld HT_ HW_=>?_);generalize w35.drew=w36 at BK661 HB hHeld ⊢;refine pz [0,1,2] ?_;refine oa 3 20 (mb 26 15) HT_ (fun K hK=>?_);refine gA Tryz.func28 #[.slice A0 l0.length c0,.int .i64 ((rd_T39 l1 x12_1).f0)] ?_;(with_reducible refine (impl_FindPath.calls _ _ l0 ((rd_T39 l1 x12_1).f0) t662 _ ?_ ?_ A9.out).mono ?_);exact cB HR0;exact HC0.out;rintro e w37 ⟨rfl,hb⟩;refine ⟨_,rfl,?_⟩;replace BK661:=kb BK661 hb;replace HB:=bs HB hb;(try clear hb);refine hK.out _ _ (cn2 BK661) (fun hHeld=>?_);clear hK K;refine nB ?_;refine pz [4,5,6,7] ?_;refine oa 8 25 (mb 26 511) HT_ (fun K hK=>?_);refine gA Tryz.func25 #[.int .i64 ((rd_T39 l1 x12_1).f1),.int .i64 0,.int .i64 100000] ?_;(with_reducible refine (impl_InRange.calls ((rd_T39 l1 x12_1).f1) 0 100000 true _ A16.out).mono ?_);rintro e w' ⟨rfl,⟨nd,rfl⟩⟩;refine ⟨_,rfl,?_⟩;refine hK.out _ _ (cn2 BK661) (fun hHeld=>?_);clear hK K;refine nB ?_;refine pz [9,10,11,12,13,14,15,16,17,18,19,20,21,22,23,24,25] ?_;refine eA HT_ ?_;try go_wp2
      go_roundg k1
      case measure=>have:=HK1.out;omega
      case rel=>exact ⟨(wrap64 (x12_1 + 1)),rS,H',⟨by have:=HK1.out;omega⟩,⟨bG⟩⟩
     replace c17:=Bool.eq_false_iff.mpr c17;subst c17;rw [if_neg Bool.false_ne_true] at H;obtain rfl:=oj H;obtain ⟨p660,q660⟩:=pq x12_1 l1;obtain ⟨ad660,e660,hx660_0,hx660_1⟩:=at_T39 (Kd.C_below HR1.out HB.out) x12_1 p660 q660;cases e660;obtain ⟨p660,q660⟩:=eT p660 q660;try go_wp2_with (first|((with_reducible refine gd 6 ?_);refine bF w 6 #[.int .i64 0,.int .i64 0] 39 ?_;rintro gb661 w38 BK661 GW661 GE661 hb hg;replace HB:=bs HB hb;clear hb hg;obtain ⟨_,_,_,_⟩:=blkc2 BK661))
     have n0_:Aside0 (((w38.setCell ⟨gb661,0,none⟩ (.int .i64 ((rd_T39 l1 x12_1).f0))).setCell ⟨gb661,1,none⟩ (.int .i64 ((rd_T39 l1 x12_1).f1))).heap[gb661]?=some (.cells #[.int .i64 ((rd_T39 l1 x12_1).f0),.int .i64 ((rd_T39 l1 x12_1).f1)] 39 (0,0))):=⟨kp BK661⟩;have n1_:Aside0 (Below w.heap.size w ((w38.setCell ⟨gb661,0,none⟩ (.int .i64 ((rd_T39 l1 x12_1).f0))).setCell ⟨gb661,1,none⟩ (.int .i64 ((rd_T39 l1 x12_1).f1)))):=⟨bG⟩;(try clear BK661);(try clear HB);generalize ((w38.setCell ⟨gb661,0,none⟩ (.int .i64 ((rd_T39 l1 x12_1).f0))).setCell ⟨gb661,1,none⟩ (.int .i64 ((rd_T39 l1 x12_1).f1)))=w40 at n0_ n1_ ⊢;have BK661:=n0_;have HB:=n1_;clear n0_ n1_;replace BK661:=dk BK661;have HBo:=HB;replace HB:=db HB;refine sw (ds:=[]) 26 (mb 26 0) impl_AreWants.tab6 impl_AreWants.bits6 (h2 BK661) (fun hHeld HT_ HW_=>?_);generalize w40.drew=w41 at BK661 HB hHeld ⊢;refine pz [0,1,2] ?_;refine oa 3 20 (mb 26 15) HT_ (fun K hK=>?_);refine gA Tryz.func28 #[.slice A0 l0.length c0,.int .i64 ((rd_T39 l1 x12_1).f0)] ?_;(with_reducible refine (impl_FindPath.calls _ _ l0 ((rd_T39 l1 x12_1).f0) t662 _ ?_ ?_ A9.out).mono ?_);exact cB HR0;exact HC0.out;rintro e w42 ⟨rfl,hb⟩;refine ⟨_,rfl,?_⟩;replace BK661:=kb BK661 hb;replace HB:=bs HB hb;(try clear hb);refine hK.out _ _ (cn2 BK661) (fun hHeld=>?_);clear hK K;refine nB ?_;refine pz [4,5,6,7] ?_;refine oa 8 25 (mb 26 511) HT_ (fun K hK=>?_);refine gA Tryz.func25 #[.int .i64 ((rd_T39 l1 x12_1).f1),.int .i64 0,.int .i64 100000] ?_;(with_reducible refine (impl_InRange.calls ((rd_T39 l1 x12_1).f1) 0 100000 false _ A16.out).mono ?_);rintro e w' ⟨rfl,⟨nd,rfl⟩⟩;refine ⟨_,rfl,?_⟩;refine hK.out _ _ (cn2 BK661) (fun hHeld=>?_);clear hK K;refine nB ?_;refine pz [9,10,11,12,13,14,15,16,17,18,19,20,21,22,23,24,25] ?_;refine eA HT_ ?_;try go_wp2
     go_ret;exact ⟨rA,bG⟩
    rw [if_neg c6] at H;have c6b0:=df c6;clear c6;obtain rfl:=oj H;go_wp2;go_ret;exact ⟨rA,bA⟩
 replace c4:=Bool.eq_false_iff.mpr c4;subst c4;rw [if_neg Bool.false_ne_true] at H;obtain rfl:=oj H;go_enter Tryz.func8,Tryz.ntmps8;go_wp2_with (first|((with_reducible refine gc 27 ?_);refine gL (some 8) Tryz.func27 #[.slice A0 l0.length c0] ?_;(with_reducible refine (impl_ArePaths.calls k _ _ l0 false _ ?_ ?_ A3.out).mono ?_);exact cO HR0;exact HC0.out;rintro e w43 ⟨rfl,hb⟩;refine ⟨_,rfl,?_⟩;replace HB:=bs HB hb;(try clear hb)));go_ret;exact ⟨rA,bA⟩

/-! ### slices_Clone_int_int: function 41 -/
def slices_Clone_int_int.f (l0:List Int):Option (List Int):=if l0.length < 17592186044416 then some l0 else none
theorem slices_Clone_int_int.eq0 {P:Program} (w:World) (d:Nat) (t e:TypeId) (a:Option Addr) (n c n' c':Nat) (h:P.underlying t=some (.slice e)):(Op.equalIn (d + 1) t (.slice a n c) (.slice none n' c')).run P w=.ok a.isNone w:=by
 cases a <;> simp [Op.equalIn,run_underlying h]
theorem slices_Clone_int_int.eq1 {P:Program} (w:World) (t e:TypeId) (a:Option Addr) (n c n' c':Nat) (h:P.underlying t=some (.slice e)):(binOp .eql t (.slice a n c) (.slice none n' c')).run P w=.ok (.bool a.isNone) w:=by
 simp only [binOp]
 simp [Op.equal,Op.maxDepth,slices_Clone_int_int.eq0 w 9999 t e a n c n' c' h]
set_option maxHeartbeats 4000000 in
set_option maxRecDepth 100000 in
theorem slices_Clone_int_int.calls (A0:Option Addr) (c0:Nat) (l0:List Int) (r:List Int) (w:World) (hr0:Kd.C (Kd.int .i64) w A0 l0.length l0) (hc0:l0.length≤c0) (h:slices_Clone_int_int.f l0=some r) :
  Calls Tryz.prog 41 #[.slice A0 l0.length c0] w fun e w'=>∃ v0_:Value,e=.returned (v0_)∧Kd.R (Kd.int .i64) 3 w' w.heap.size (fun _=>True) v0_ r∧Below w.heap.size w w':=by
 unfold slices_Clone_int_int.f at h
 have hlim:=ifN h
 replace h:=ifT h
 obtain rfl:=Option.some.inj h
 have HL:=Aside0.mk hlim
 have HR0:=Aside0.mk hr0
 have HC0:=Aside0.mk hc0
 clear hr0 hc0 h hlim
 have q_:∀ (w:World) (a:Option Addr) (n c n' c':Nat),(binOp .eql 25 (.slice a n c) (.slice none n' c')).run Tryz.prog w=.ok (.bool a.isNone) w:=fun w a n c n' c'=>slices_Clone_int_int.eq1 w _ _ a n c n' c' Tryz.underlying25
 cases A0 with
 | none =>
  have hl0:l0=[]:=by
   rcases Nat.eq_zero_or_pos l0.length with h0|h0
   ·
    exact List.eq_nil_of_length_eq_zero h0
   ·
    obtain ⟨ad,ha,_⟩:=HR0.out.2.2 h0
    cases ha
  subst hl0
  go_enter Tryz.func41,Tryz.ntmps41
  go_wp2
  go_ret
  exact ⟨_,rfl,Kd.R_nil _ _ _ _ _,Below.refl _ _⟩
 | some ad =>
  go_enter Tryz.func41,Tryz.ntmps41
  go_wp2_with (first
   | ((with_reducible refine gate_dst (N:=5) rfl ?_);refine Kd.R_lit (Kd.int .i64) _ 3 ?hg (N:=5) ?hd (xs:=([]:List Int)) (inner:=[]) (ok:=fun _=>True) (okp:=fun _=>True) ?hr ?hp (fun _ hk=>hk) trivial (Below.refl w.heap.size w) (Nat.le_refl _) (by simp) ?_;(case hd=>rfl);(case hg=>rfl);(case hr=>first|(go_simp;done)|(go_simp;rfl));(case hp=>exact (Reps.none _ _));intro v304 w3 ho4 hb hg_ hnew_;have HO:=Aside0.mk ho4;have HB:=Aside0.mk hb;clear ho4 hb hg_ hnew_)
   | ((with_reducible refine gate_builtin (b:=.append) (xs:=#[.tmp 5,.tmp 6]) rfl ?_);at_builtin;refine Kd.R_append_rows (Kd.int .i64) (w0:=w) w.heap.size rfl (.tmp 5) (.tmp 6) 25 3 (.int .i64 0) 8 rfl Tryz.underlying25 info3 rfl (by decide) (by omega) v304 ([]:List Int) l0 _ _ _ (fun _=>True) (fun _=>False) rfl rfl ?aO ?aR (fun _ _ h=>h) (fun _ h=>h.elim) ?aF ?aB ?aS ?aL ?_;(case aR=>exact Kd.C_below HR0.out HB.out);(case aB=>exact HB.out);(case aF=>exact (fun _ _=>trivial));(case aO=>exact HO.out);(case aS=>exact HB.out.size);(case aL=>have:=HL.out;simp;omega);intro v1 w9 ho hb hg hat;rw [List.nil_append] at ho;have HO1:=Aside0.mk ho;have HB1:=Aside0.mk hb;clear ho hb hg hat))
  go_ret
  exact ⟨_,rfl,HO1.out,HB1.out⟩

/-! ### impl_cloneControl: function 20 -/
def impl_cloneControl.f (l0_0:List Int) (a0_1:Int) (l0_2:List Int) (a0_3:Int):Option (List Int × Int × List Int × Int):=(slices_Clone_int_int.f l0_0).bind fun t667=>((slices_Clone_int_int.f l0_2).bind fun t670=>(some (t667,a0_1,t670,a0_3)))
def impl_cloneControl.T1:Bool × List (List Nat × List Nat):=(true,[([],[]),([0],[0]),([1],[1]),([],[]),([3],[3]),([4,2],[4]),([0,1,2,3,4],[]),([6,2,5,0,1,2,3,4],[2,6]),([0,1,2,3,4,5,6,7],[]),([8,5,7,0,1,2,3,4,5,6,7],[5,8])])
def impl_cloneControl.B1:List Nat:=[0,1,3,0,8,31,31,127,255,511]
theorem impl_cloneControl.tab1:rtab .any (opsOf Tryz.f20 1)=impl_cloneControl.T1:=by kernel_rfl
theorem impl_cloneControl.bits1:waitsOk impl_cloneControl.T1.2 impl_cloneControl.B1=true:=by kernel_rfl
set_option maxHeartbeats 8000000 in
set_option maxRecDepth 100000 in
theorem impl_cloneControl.calls (A0_0:Option Addr) (c0_0:Nat) (l0_0:List Int) (a0_1:Int) (A0_2:Option Addr) (c0_2:Nat) (l0_2:List Int) (a0_3:Int) (r1:List Int) (r2:Int) (r3:List Int) (r4:Int) (w:World) (hr0_0:Kd.C (Kd.int .i64) w A0_0 l0_0.length l0_0) (hc0_0:l0_0.length≤c0_0) (hr0_2:Kd.C (Kd.int .i64) w A0_2 l0_2.length l0_2) (hc0_2:l0_2.length≤c0_2) (h:impl_cloneControl.f l0_0 a0_1 l0_2 a0_3=some (r1,r2,r3,r4)) :
  Calls Tryz.prog 20 #[.agg #[.slice A0_0 l0_0.length c0_0,.int .i64 a0_1,.slice A0_2 l0_2.length c0_2,.int .i64 a0_3]] w fun e w'=>∃ v0_ v2_:Value,e=.returned (.agg #[v0_,.int .i64 r2,v2_,.int .i64 r4])∧Kd.R (Kd.int .i64) 3 w' w.heap.size (n1 v2_) v0_ r1∧Kd.R (Kd.int .i64) 3 w' w.heap.size (n1 v0_) v2_ r3∧Below w.heap.size w w':=by
 have hu27:=Tryz.underlying27;have HR0_0:=am hr0_0;have HC0_0:=am hc0_0;clear hr0_0 hc0_0;have HR0_2:=am hr0_2;have HC0_2:=am hc0_2;clear hr0_2 hc0_2;have HB:=am (Below.refl w.heap.size w);unfold impl_cloneControl.f at h;have H:=h;clear h;obtain ⟨t667,A2,H⟩:=bindE H;try dsimp only at H
 obtain ⟨t670,A3,H⟩:=bindE H;try dsimp only at H
 simp only [Option.some.injEq,Prod.mk.injEq] at H;obtain ⟨rfl,rfl,rfl,rfl⟩:=H;go_enter Tryz.func20,Tryz.ntmps20;try go_wp2_with (first|((with_reducible refine gd 1 ?_);refine bF w 1 #[.slice A0_0 l0_0.length c0_0,.int .i64 a0_1,.slice A0_2 l0_2.length c0_2,.int .i64 a0_3] 27 ?_;rintro gb665 w4 BK665 GW665 GE665 hb hg;replace HB:=bs HB hb;clear hb hg)|((with_reducible refine gd 2 ?_);refine bF w 2 #[.slice none 0 0,.int .i64 0,.slice none 0 0,.int .i64 0] 27 ?_;rintro gb666 w5 BK666 GW666 GE666 hb hg;replace HB:=bs HB hb;have NB665_666:=nl BK665 hg;have NB666_665:=nr BK665 hg;replace BK665:=kb BK665 hb;clear hb hg))
 replace BK665:=dk BK665;replace BK666:=dk BK666;have HBo:=HB;replace HB:=db HB;refine sw (ds:=[7,9]) 10 (mb 10 0) impl_cloneControl.tab1 impl_cloneControl.bits1 (h4 BK665) (fun hHeld HT_ HW_=>?_);generalize w5.drew=w6 at BK665 BK666 HB hHeld ⊢;refine pz [0,3,1,4] ?_;refine oa 2 5 (mb 10 31) HT_ (fun K hK=>?_);refine gA Tryz.func41 #[.slice A0_0 l0_0.length c0_0] ?_;(with_reducible refine (slices_Clone_int_int.calls _ _ l0_0 t667 _ ?_ ?_ A2.out).mono ?_);exact cB HR0_0;exact HC0_0.out;rintro e w7 ⟨v668,rfl,ho0,hb⟩;refine ⟨_,rfl,?_⟩;have HO669:=rl w ho0;replace BK665:=kb BK665 hb;replace BK666:=kb BK666 hb;replace HB:=bs HB hb;(try clear hb);(try clear ho0);refine hK.out _ _ (cn4 BK665) (fun hHeld=>?_);clear hK K;refine nB ?_;refine pz [6] ?_;refine oa 5 8 (mb 10 127) HT_ (fun K hK=>?_);refine gA Tryz.func41 #[.slice A0_2 l0_2.length c0_2] ?_;(with_reducible refine (slices_Clone_int_int.calls _ _ l0_2 t670 _ ?_ ?_ A3.out).mono ?_);exact cB HR0_2;exact HC0_2.out;rintro e w8 ⟨v671,rfl,ho0,hb⟩;refine ⟨_,rfl,?_⟩;have HO672:=rl w (rn ho0 HO669);replace HO669:=re HO669 ho0 hb;replace BK665:=kb BK665 hb;replace BK666:=kb BK666 hb;replace HB:=bs HB hb;(try clear hb);(try clear ho0);obtain ⟨Ao9,co9,eo9⟩:=Kd.R_slice HO669.out;(first|subst eo9|(injection eo9 with f1_ f2_ f3_;have f4_:=f1_.symm;have f5_:=f3_.symm;clear f1_ f2_ f3_;subst f4_;subst f5_));obtain ⟨Ao11,co11,eo11⟩:=Kd.R_slice HO672.out;(first|subst eo11|(injection eo11 with f1_ f2_ f3_;have f4_:=f1_.symm;have f5_:=f3_.symm;clear f1_ f2_ f3_;subst f4_;subst f5_));refine hK.out _ _ (cn4 BK665) (fun hHeld=>?_);clear hK K;refine nB ?_;refine last_ (i:=7) (N:=none) (mb 10 255) rfl rfl (one_of HT_.out (by kernel_rfl)) (by decide) (fun K hK=>?_);have hs10:w8.cell? ⟨gb665,0,none⟩=some (.slice A0_0 l0_0.length c0_0):=bC BK665 0;have hfs10:=blk_frozen BK665.out 0;have hns10_1:=NB666_665.out;have hms10_1:=NB665_666.out;refine skip_ (w1:=?_) (by rfl) rfl ?_ ?_;rotate_left
 ·go_simp
  rfl
 refine hK.out _ _ ?_;clear hK K;refine pz [8] ?_;refine last_ (i:=9) (N:=none) (mb 10 1023) rfl rfl (one_of HT_.out (by kernel_rfl)) (by decide) (fun K hK=>?_);have hs12:w8.cell? ⟨gb665,2,none⟩=some (.slice A0_2 l0_2.length c0_2):=bC BK665 2;have hfs12:=blk_frozen BK665.out 2;have hns12_1:=NB666_665.out;have hms12_1:=NB665_666.out;refine skip_ (w1:=?_) (by rfl) rfl ?_ ?_;rotate_left
 ·go_simp
  rfl
 refine hK.out _ _ ?_;clear hK K;refine eA HT_ ?_;have hnb13:=NB665_666.out;have hnc13:=NB666_665.out;obtain ⟨_,_,_,_,_,_,_,_⟩:=blkc4 BK665;obtain ⟨_,_,_,_,_,_,_,_⟩:=blkc4 BK666;try go_wp2
 refine bodyPost_ret (results_cell_row rfl _ _ gb666 27 #[.slice Ao9 t667.length co9,.int .i64 a0_1,.slice Ao11 t670.length co11,.int .i64 a0_3] (0,0) _ rfl (kP BK666 NB666_665) Tryz.underlying27 rfl (by kernel_rfl)) rfl ?_;exact ⟨_,_,rA,by (with_reducible repeat (first|apply Kd.R_alloc|apply Kd.R_drewN|apply Kd.R_drew));exact Kd.R_mono (Kd.R_far (p:=⟨gb666,3,none⟩) (Kd.R_far (p:=⟨gb666,2,none⟩) (Kd.R_far (p:=⟨gb666,1,none⟩) (Kd.R_far (p:=⟨gb666,0,none⟩) (Kd.R_far (p:=⟨gb665,2,none⟩) (Kd.R_far (p:=⟨gb665,0,none⟩) (Kd.R_types (Kd.R_types HO669.out BK665.out (by decide)) BK666.out (by decide)) (fun _ hk=>hk.1.2) (.slice Ao9 t667.length co9)) (fun _ hk=>hk.1.2) (.slice Ao11 t670.length co11)) (fun _ hk=>hk.2) (.slice Ao9 t667.length co9)) (fun _ hk=>hk.2) (.int .i64 a0_1)) (fun _ hk=>hk.2) (.slice Ao11 t670.length co11)) (fun _ hk=>hk.2) (.int .i64 a0_3)) (fun _ hk=>hk.1.1.2),by (with_reducible repeat (first|apply Kd.R_alloc|apply Kd.R_drewN|apply Kd.R_drew));exact Kd.R_mono (Kd.R_far (p:=⟨gb666,3,none⟩) (Kd.R_far (p:=⟨gb666,2,none⟩) (Kd.R_far (p:=⟨gb666,1,none⟩) (Kd.R_far (p:=⟨gb666,0,none⟩) (Kd.R_far (p:=⟨gb665,2,none⟩) (Kd.R_far (p:=⟨gb665,0,none⟩) (Kd.R_types (Kd.R_types HO672.out BK665.out (by decide)) BK666.out (by decide)) (fun _ hk=>hk.1.2) (.slice Ao9 t667.length co9)) (fun _ hk=>hk.1.2) (.slice Ao11 t670.length co11)) (fun _ hk=>hk.2) (.slice Ao9 t667.length co9)) (fun _ hk=>hk.2) (.int .i64 a0_1)) (fun _ hk=>hk.2) (.slice Ao11 t670.length co11)) (fun _ hk=>hk.2) (.int .i64 a0_3)) (fun _ hk=>hk.1.1.2),bG⟩

/-! ### impl_Want_21: function 21 -/
def impl_Want_21.f (l0:List S39):Option (List S39):=if l0.length < 8796093022208 then some l0 else none
theorem impl_Want_21.eq0 {P:Program} (w:World) (d:Nat) (t e:TypeId) (a:Option Addr) (n c n' c':Nat) (h:P.underlying t=some (.slice e)):(Op.equalIn (d + 1) t (.slice a n c) (.slice none n' c')).run P w=.ok a.isNone w:=by
 cases a <;> simp [Op.equalIn,run_underlying h]
theorem impl_Want_21.eq1 {P:Program} (w:World) (t e:TypeId) (a:Option Addr) (n c n' c':Nat) (h:P.underlying t=some (.slice e)):(binOp .eql t (.slice a n c) (.slice none n' c')).run P w=.ok (.bool a.isNone) w:=by
 simp only [binOp]
 simp [Op.equal,Op.maxDepth,impl_Want_21.eq0 w 9999 t e a n c n' c' h]
set_option maxHeartbeats 4000000 in
set_option maxRecDepth 100000 in
theorem impl_Want_21.calls (A0:Option Addr) (c0:Nat) (l0:List S39) (r:List S39) (w:World) (hr0:Kd.C k39 w A0 l0.length l0) (hc0:l0.length≤c0) (h:impl_Want_21.f l0=some r) :
  Calls Tryz.prog 21 #[.slice A0 l0.length c0] w fun e w'=>∃ v0_:Value,e=.returned (v0_)∧Kd.R k39 39 w' w.heap.size (fun _=>True) v0_ r∧Below w.heap.size w w':=by
 unfold impl_Want_21.f at h
 have hlim:=ifN h
 replace h:=ifT h
 obtain rfl:=Option.some.inj h
 have HL:=Aside0.mk hlim
 have HR0:=Aside0.mk hr0
 have HC0:=Aside0.mk hc0
 clear hr0 hc0 h hlim
 have q_:∀ (w:World) (a:Option Addr) (n c n' c':Nat),(binOp .eql 28 (.slice a n c) (.slice none n' c')).run Tryz.prog w=.ok (.bool a.isNone) w:=fun w a n c n' c'=>impl_Want_21.eq1 w _ _ a n c n' c' Tryz.underlying28
 cases A0 with
 | none =>
  have hl0:l0=[]:=by
   rcases Nat.eq_zero_or_pos l0.length with h0|h0
   ·
    exact List.eq_nil_of_length_eq_zero h0
   ·
    obtain ⟨ad,ha,_⟩:=HR0.out.2.2 h0
    cases ha
  subst hl0
  go_enter Tryz.func21,Tryz.ntmps21
  go_wp2
  go_ret
  exact ⟨_,rfl,Kd.R_nil _ _ _ _ _,Below.refl _ _⟩
 | some ad =>
  go_enter Tryz.func21,Tryz.ntmps21
  go_wp2_with (first
   | ((with_reducible refine gate_dst (N:=5) rfl ?_);refine Kd.R_lit k39 _ 39 ?hg (N:=5) ?hd (xs:=([]:List S39)) (inner:=[]) (ok:=fun _=>True) (okp:=fun _=>True) ?hr ?hp (fun _ hk=>hk) trivial (Below.refl w.heap.size w) (Nat.le_refl _) (by simp) ?_;(case hd=>rfl);(case hg=>rfl);(case hr=>first|(go_simp;done)|(go_simp;rfl));(case hp=>exact (Reps.none _ _));intro v304 w3 ho4 hb hg_ hnew_;have HO:=Aside0.mk ho4;have HB:=Aside0.mk hb;clear ho4 hb hg_ hnew_)
   | ((with_reducible refine gate_builtin (b:=.append) (xs:=#[.tmp 5,.tmp 6]) rfl ?_);at_builtin;refine Kd.R_append_rows k39 (w0:=w) w.heap.size rfl (.tmp 5) (.tmp 6) 28 39 (.agg #[(.int .i64 0),(.int .i64 0)]) 16 rfl Tryz.underlying28 info39 rfl (by decide) (by omega) v304 ([]:List S39) l0 _ _ _ (fun _=>True) (fun _=>False) rfl rfl ?aO ?aR (fun _ _ h=>h) (fun _ h=>h.elim) ?aF ?aB ?aS ?aL ?_;(case aR=>exact Kd.C_below HR0.out HB.out);(case aB=>exact HB.out);(case aF=>exact (fun _ _=>trivial));(case aO=>exact HO.out);(case aS=>exact HB.out.size);(case aL=>have:=HL.out;simp;omega);intro v1 w9 ho hb hg hat;rw [List.nil_append] at ho;have HO1:=Aside0.mk ho;have HB1:=Aside0.mk hb;clear ho hb hg hat))
  go_ret
  exact ⟨_,rfl,HO1.out,HB1.out⟩

/-! ### impl_LeastGreen: function 32 -/
def impl_LeastGreen.l0:Nat→List (S58)→List Int→Int→Int→Option (Int)
 | 0,_,_,_,_=>none
 | k + 1,x0,x8,x9,x10=>if x10 < x9 then (if 0≤x10 then (if x10 < (x8.length:Int) then ((impl_FindPath.f x0 (rd x8 x10)).bind fun t674=>(if t674≥0 then (if 0≤t674 then (if t674 < (x0.length:Int) then (if ((rd_T58 x0 t674).f1)=2 then (some 7) else (impl_LeastGreen.l0 k x0 x8 x9 (wrap64 (x10 + 1)))) else (none)) else (none)) else (impl_LeastGreen.l0 k x0 x8 x9 (wrap64 (x10 + 1))))) else (none)) else (none)) else (some 5)
def impl_LeastGreen.f (k:Nat) (l0:List (S58)) (l1:List Int):Option (Int):=impl_LeastGreen.l0 k l0 l1 (l1.length:Int) 0
theorem impl_LeastGreen.mono_l:∀ k,(∀ y0 y1 y2 y3,LeO (impl_LeastGreen.l0 k y0 y1 y2 y3) (impl_LeastGreen.l0 (k + 1) y0 y1 y2 y3))
 | 0=>fun _ _ _ _ r h=>by simp [impl_LeastGreen.l0] at h
 | k + 1=>by
  have ih0:=impl_LeastGreen.mono_l k
  ·intro y0 y1 y2 y3;unfold impl_LeastGreen.l0;exact mz1 ih0
theorem impl_LeastGreen.mono:∀ a0 a1 k,LeO (impl_LeastGreen.f k a0 a1) (impl_LeastGreen.f (k + 1) a0 a1):=by
 intro a0 a1 k;have ih0:=impl_LeastGreen.mono_l k;unfold impl_LeastGreen.f;exact mz1 ih0
set_option maxHeartbeats 8000000 in
set_option maxRecDepth 100000 in
theorem impl_LeastGreen.calls (k:Nat) (A0:Option Addr) (c0:Nat) (l0:List (S58)) (A1:Option Addr) (c1:Nat) (l1:List Int) (r:Int) (w:World) (hr0:Kd.C k58 w A0 l0.length l0) (hc0:l0.length≤c0) (hr1:Kd.C (Kd.int .i64) w A1 l1.length l1) (hc1:l1.length≤c1) (h:impl_LeastGreen.f k l0 l1=some r) :
  Calls Tryz.prog 32 #[.slice A0 l0.length c0,.slice A1 l1.length c1] w fun e w'=>e=.returned (.int .i64 r)∧Below w.heap.size w w':=by
 have HR0:=am hr0;have HC0:=am hc0;clear hr0 hc0;have HR1:=am hr1;have HC1:=am hc1;clear hr1 hc1;have HB:=am (Below.refl w.heap.size w);unfold impl_LeastGreen.f at h;have H:=h;clear h;have H':=am H;clear H;go_enter Tryz.func32,Tryz.ntmps32;go_wp2;go_loopg [10] k (fun kq v10 w'=>∃ (x10_1:Int),v10=.int .i64 x10_1∧Aside0 (impl_LeastGreen.l0 kq l0 l1 (l1.length:Int) x10_1=some r)∧Aside0 (kq≤k)∧Aside0 (Below w.heap.size w w'))
 case atStart=>exact ⟨(0),rS,H',⟨Nat.le_refl _⟩,⟨bA⟩⟩
 case round =>
  clear H';obtain ⟨x10_1,rfl,HA,HK1,HB⟩:=hrel
  cases gk with
  | zero=>exact absurd HA.out (by simp [impl_LeastGreen.l0])
  | succ k1 =>
   have H:=HA.out;clear HA;simp only [impl_LeastGreen.l0] at H;by_cases c3:x10_1 < (l1.length:Int)
   ·rw [if_pos c3] at H;have c3b0:=dt c3;clear c3;have c4b0:=ifC H;replace H:=ifT H;have c5b0:=ifC H;replace H:=ifT H;obtain ⟨t674,A6,H⟩:=bindE H;try dsimp only at H
    by_cases c7:t674≥0
    ·rw [if_pos c7] at H;have c7b0:=dt c7;clear c7;have c8b0:=ifC H;replace H:=ifT H;have c9b0:=ifC H;replace H:=ifT H;by_cases c10:((rd_T58 l0 t674).f1)=2
     ·rw [if_pos c10] at H;obtain ⟨c10b0,c10b1⟩:=eI c10;clear c10;obtain rfl:=oj H;obtain ⟨p673,q673⟩:=pq x10_1 l1;obtain ⟨ad673,e673,hx673_0⟩:=Kd.at_int (Kd.C_below HR1.out HB.out) x10_1 p673 q673;cases e673;obtain ⟨p673,q673⟩:=eT p673 q673;go_wp2_with (first|((with_reducible refine gc 28 ?_);refine gL (some 16) Tryz.func28 #[.slice A0 l0.length c0,.int .i64 (rd l1 x10_1)] ?_;(with_reducible refine (impl_FindPath.calls _ _ l0 (rd l1 x10_1) t674 _ ?_ ?_ A6.out).mono ?_);exact cB HR0;exact HC0.out;rintro e w11 ⟨rfl,hb⟩;refine ⟨_,rfl,?_⟩;replace HB:=bs HB hb;(try clear hb);have p675:0≤(t674:Int):=dA;have q675:t674 < (l0.length:Int):=dA;obtain ⟨ad675,e675,hx675_0,hx675_1,hx675_2,hx675_3⟩:=at_T58 HR0.out t674 p675 q675;cases e675;replace hx675_0:=hC HB hx675_0;replace hx675_1:=hC HB hx675_1;replace hx675_2:=hC HB hx675_2;replace hx675_3:=hC HB hx675_3;replace p675:=eq_true p675;replace q675:=eq_true q675));go_ret;exact ⟨rA,bA⟩
     rw [if_neg c10] at H;obtain ⟨c10b0,c10b1⟩:=nI c10;have H':=am H;clear H;obtain ⟨p673,q673⟩:=pq x10_1 l1;obtain ⟨ad673,e673,hx673_0⟩:=Kd.at_int (Kd.C_below HR1.out HB.out) x10_1 p673 q673;cases e673;obtain ⟨p673,q673⟩:=eT p673 q673;go_wp2_with (first|((with_reducible refine gc 28 ?_);refine gL (some 16) Tryz.func28 #[.slice A0 l0.length c0,.int .i64 (rd l1 x10_1)] ?_;(with_reducible refine (impl_FindPath.calls _ _ l0 (rd l1 x10_1) t674 _ ?_ ?_ A6.out).mono ?_);exact cB HR0;exact HC0.out;rintro e w12 ⟨rfl,hb⟩;refine ⟨_,rfl,?_⟩;replace HB:=bs HB hb;(try clear hb);have p675:0≤(t674:Int):=dA;have q675:t674 < (l0.length:Int):=dA;obtain ⟨ad675,e675,hx675_0,hx675_1,hx675_2,hx675_3⟩:=at_T58 HR0.out t674 p675 q675;cases e675;replace hx675_0:=hC HB hx675_0;replace hx675_1:=hC HB hx675_1;replace hx675_2:=hC HB hx675_2;replace hx675_3:=hC HB hx675_3;replace p675:=eq_true p675;replace q675:=eq_true q675));go_roundg k1
     case measure=>have:=HK1.out;omega
     case rel=>exact ⟨(wrap64 (x10_1 + 1)),rS,H',⟨by have:=HK1.out;omega⟩,⟨bA⟩⟩
    rw [if_neg c7] at H;have c7b0:=df c7;clear c7;have H':=am H;clear H;obtain ⟨p673,q673⟩:=pq x10_1 l1;obtain ⟨ad673,e673,hx673_0⟩:=Kd.at_int (Kd.C_below HR1.out HB.out) x10_1 p673 q673;cases e673;obtain ⟨p673,q673⟩:=eT p673 q673;go_wp2_with (first|((with_reducible refine gc 28 ?_);refine gL (some 16) Tryz.func28 #[.slice A0 l0.length c0,.int .i64 (rd l1 x10_1)] ?_;(with_reducible refine (impl_FindPath.calls _ _ l0 (rd l1 x10_1) t674 _ ?_ ?_ A6.out).mono ?_);exact cB HR0;exact HC0.out;rintro e w13 ⟨rfl,hb⟩;refine ⟨_,rfl,?_⟩;replace HB:=bs HB hb;(try clear hb)));go_roundg k1
    case measure=>have:=HK1.out;omega
    case rel=>exact ⟨(wrap64 (x10_1 + 1)),rS,H',⟨by have:=HK1.out;omega⟩,⟨bA⟩⟩
   rw [if_neg c3] at H;have c3b0:=df c3;clear c3;obtain rfl:=oj H;go_wp2;go_ret;exact ⟨rA,bA⟩

/-! ### impl_CanEnd: function 13 -/
def impl_CanEnd.f (k:Nat) (l0:List (S58)) (l1_0:List Int) (a1_1:Int) (l1_2:List Int) (a1_3:Int):Option (Bool):=(impl_IsControl.f k l0 l1_0 a1_1 l1_2 a1_3).bind fun t677=>(if t677=true then (if (l1_2.length:Int)=0 then ((impl_LeastGreen.f k l0 l1_0).bind fun t678=>(some (decide (a1_1≥t678)))) else (some false)) else (some false))
theorem impl_CanEnd.mono:∀ a0 a1 a2 a3 a4 k,LeO (impl_CanEnd.f k a0 a1 a2 a3 a4) (impl_CanEnd.f (k + 1) a0 a1 a2 a3 a4):=by
 intro a0 a1 a2 a3 a4 k;unfold impl_CanEnd.f;exact mz2 impl_IsControl.mono impl_LeastGreen.mono
def impl_CanEnd.T1:Bool × List (List Nat × List Nat):=(true,[([],[]),([],[]),([0,1],[0,1]),([2,2],[2]),([3],[3]),([4,3],[3,4]),([5,3],[3,5]),([6,3],[3,6]),([3,7],[3,7]),([8,3],[8]),([9],[9]),([10,9],[9,10]),([9],[9]),([9],[9]),([13,9],[9,13]),([12,14,9,9],[9,12,14]),([11,15,9],[9,11,15]),([9,16],[9,16]),([17,15,0,1,2,3,4,5,6,7,8,9,10,11,12,13,14,15,16,17],[17])])
def impl_CanEnd.B1:List Nat:=[0,0,3,7,15,31,63,127,255,511,1023,2047,1023,1023,9215,29695,65535,131071,262143]
theorem impl_CanEnd.tab1:rtab .any (opsOf Tryz.f13 1)=impl_CanEnd.T1:=by kernel_rfl
theorem impl_CanEnd.bits1:waitsOk impl_CanEnd.T1.2 impl_CanEnd.B1=true:=by kernel_rfl
set_option maxHeartbeats 8000000 in
set_option maxRecDepth 100000 in
theorem impl_CanEnd.calls (k:Nat) (A0:Option Addr) (c0:Nat) (l0:List (S58)) (A1_0:Option Addr) (c1_0:Nat) (l1_0:List Int) (a1_1:Int) (A1_2:Option Addr) (c1_2:Nat) (l1_2:List Int) (a1_3:Int) (r:Bool) (w:World) (hr0:Kd.C k58 w A0 l0.length l0) (hc0:l0.length≤c0) (hr1_0:Kd.C (Kd.int .i64) w A1_0 l1_0.length l1_0) (hc1_0:l1_0.length≤c1_0) (hr1_2:Kd.C (Kd.int .i64) w A1_2 l1_2.length l1_2) (hc1_2:l1_2.length≤c1_2) (h:impl_CanEnd.f k l0 l1_0 a1_1 l1_2 a1_3=some r) :
  Calls Tryz.prog 13 #[.slice A0 l0.length c0,.agg #[.slice A1_0 l1_0.length c1_0,.int .i64 a1_1,.slice A1_2 l1_2.length c1_2,.int .i64 a1_3]] w fun e w'=>e=.returned (.bool r)∧Below w.heap.size w w':=by
 have hu27:=Tryz.underlying27;have HR0:=am hr0;have HC0:=am hc0;clear hr0 hc0;have HR1_0:=am hr1_0;have HC1_0:=am hc1_0;clear hr1_0 hc1_0;have HR1_2:=am hr1_2;have HC1_2:=am hc1_2;clear hr1_2 hc1_2;have HB:=am (Below.refl w.heap.size w);unfold impl_CanEnd.f at h;have H:=h;clear h;obtain ⟨t677,A3,H⟩:=bindE H;try dsimp only at H
 by_cases c4:t677=true
 ·subst c4;rw [if_pos rfl] at H;by_cases c5:(l1_2.length:Int)=0
  ·rw [if_pos c5] at H;obtain ⟨c5b0,c5b1⟩:=eI c5;clear c5;obtain ⟨t678,A6,H⟩:=bindE H;try dsimp only at H
   obtain rfl:=oj H;go_enter Tryz.func13,Tryz.ntmps13;try go_wp2_with (first|((with_reducible refine gd 3 ?_);(try (refine gate_guard (by rfl) ?_;dsimp only));refine bF w 3 #[.slice A1_0 l1_0.length c1_0,.int .i64 a1_1,.slice A1_2 l1_2.length c1_2,.int .i64 a1_3] 27 ?_;rintro gb676 w7 BK676 GW676 GE676 hb hg;replace HB:=bs HB hb;clear hb hg))
   replace BK676:=dk BK676;have HBo:=HB;replace HB:=db HB;refine sw (ds:=[]) 19 (mb 19 0) impl_CanEnd.tab1 impl_CanEnd.bits1 (h4 BK676) (fun hHeld HT_ HW_=>?_);generalize w7.drew=w8 at BK676 HB hHeld ⊢;refine pz [0,1] ?_;refine oa 2 7 (mb 19 7) HT_ (fun K hK=>?_);refine gA Tryz.func7 #[.slice A0 l0.length c0,.agg #[.slice A1_0 l1_0.length c1_0,.int .i64 a1_1,.slice A1_2 l1_2.length c1_2,.int .i64 a1_3]] ?_;(with_reducible refine (impl_IsControl.calls k _ _ l0 _ _ l1_0 a1_1 _ _ l1_2 a1_3 true _ ?_ ?_ ?_ ?_ ?_ ?_ A3.out).mono ?_);exact cB HR0;exact HC0.out;exact cB HR1_0;exact HC1_0.out;exact cB HR1_2;exact HC1_2.out;rintro e w9 ⟨rfl,hb⟩;refine ⟨_,rfl,?_⟩;replace BK676:=kb BK676 hb;replace HB:=bs HB hb;(try clear hb);refine hK.out _ _ (cn4 BK676) (fun hHeld=>?_);clear hK K;refine nB ?_;refine pz [3,4,5,6,7,8,9,10,12,13,11,14] ?_;refine oa 15 20 (mb 19 65535) HT_ (fun K hK=>?_);refine gA Tryz.func32 #[.slice A0 l0.length c0,.slice A1_0 l1_0.length c1_0] ?_;(with_reducible refine (impl_LeastGreen.calls k _ _ l0 _ _ l1_0 t678 _ ?_ ?_ ?_ ?_ A6.out).mono ?_);exact cB HR0;exact HC0.out;exact cB HR1_0;exact HC1_0.out;rintro e w10 ⟨rfl,hb⟩;refine ⟨_,rfl,?_⟩;replace BK676:=kb BK676 hb;replace HB:=bs HB hb;(try clear hb);refine hK.out _ _ (cn4 BK676) (fun hHeld=>?_);clear hK K;refine nB ?_;refine pz [16,17,18] ?_;refine eA HT_ ?_;try go_wp2
   go_ret;exact ⟨rA,bG⟩
  rw [if_neg c5] at H;obtain ⟨c5b0,c5b1⟩:=nI c5;have c5b2:¬ (l1_2=[]):=fun h_=>c5 (by rw [h_];rfl);obtain rfl:=oj H;go_enter Tryz.func13,Tryz.ntmps13;try go_wp2_with (first|((with_reducible refine gd 3 ?_);(try (refine gate_guard (by rfl) ?_;dsimp only));refine bF w 3 #[.slice A1_0 l1_0.length c1_0,.int .i64 a1_1,.slice A1_2 l1_2.length c1_2,.int .i64 a1_3] 27 ?_;rintro gb676 w11 BK676 GW676 GE676 hb hg;replace HB:=bs HB hb;clear hb hg))
  replace BK676:=dk BK676;have HBo:=HB;replace HB:=db HB;refine sw (ds:=[]) 19 (mb 19 0) impl_CanEnd.tab1 impl_CanEnd.bits1 (h4 BK676) (fun hHeld HT_ HW_=>?_);generalize w11.drew=w12 at BK676 HB hHeld ⊢;refine pz [0,1] ?_;refine oa 2 7 (mb 19 7) HT_ (fun K hK=>?_);refine gA Tryz.func7 #[.slice A0 l0.length c0,.agg #[.slice A1_0 l1_0.length c1_0,.int .i64 a1_1,.slice A1_2 l1_2.length c1_2,.int .i64 a1_3]] ?_;(with_reducible refine (impl_IsControl.calls k _ _ l0 _ _ l1_0 a1_1 _ _ l1_2 a1_3 true _ ?_ ?_ ?_ ?_ ?_ ?_ A3.out).mono ?_);exact cB HR0;exact HC0.out;exact cB HR1_0;exact HC1_0.out;exact cB HR1_2;exact HC1_2.out;rintro e w13 ⟨rfl,hb⟩;refine ⟨_,rfl,?_⟩;replace BK676:=kb BK676 hb;replace HB:=bs HB hb;(try clear hb);refine hK.out _ _ (cn4 BK676) (fun hHeld=>?_);clear hK K;refine nB ?_;refine pz [3,4,5,6,7,8,9,10,11,12,13,14,15,16,17,18] ?_;refine eA HT_ ?_;try go_wp2
  go_ret;exact ⟨rA,bG⟩
 replace c4:=Bool.eq_false_iff.mpr c4;subst c4;rw [if_neg Bool.false_ne_true] at H;obtain rfl:=oj H;go_enter Tryz.func13,Tryz.ntmps13;try go_wp2_with (first|((with_reducible refine gd 3 ?_);(try (refine gate_guard (by rfl) ?_;dsimp only));refine bF w 3 #[.slice A1_0 l1_0.length c1_0,.int .i64 a1_1,.slice A1_2 l1_2.length c1_2,.int .i64 a1_3] 27 ?_;rintro gb676 w14 BK676 GW676 GE676 hb hg;replace HB:=bs HB hb;clear hb hg))
 replace BK676:=dk BK676;have HBo:=HB;replace HB:=db HB;refine sw (ds:=[]) 19 (mb 19 0) impl_CanEnd.tab1 impl_CanEnd.bits1 (h4 BK676) (fun hHeld HT_ HW_=>?_);generalize w14.drew=w15 at BK676 HB hHeld ⊢;refine pz [0,1] ?_;refine oa 2 7 (mb 19 7) HT_ (fun K hK=>?_);refine gA Tryz.func7 #[.slice A0 l0.length c0,.agg #[.slice A1_0 l1_0.length c1_0,.int .i64 a1_1,.slice A1_2 l1_2.length c1_2,.int .i64 a1_3]] ?_;(with_reducible refine (impl_IsControl.calls k _ _ l0 _ _ l1_0 a1_1 _ _ l1_2 a1_3 false _ ?_ ?_ ?_ ?_ ?_ ?_ A3.out).mono ?_);exact cB HR0;exact HC0.out;exact cB HR1_0;exact HC1_0.out;exact cB HR1_2;exact HC1_2.out;rintro e w16 ⟨rfl,hb⟩;refine ⟨_,rfl,?_⟩;replace BK676:=kb BK676 hb;replace HB:=bs HB hb;(try clear hb);refine hK.out _ _ (cn4 BK676) (fun hHeld=>?_);clear hK K;refine nB ?_;refine pz [3,4,5,6,7,8,9,10,11,12,13,14,15,16,17,18] ?_;refine eA HT_ ?_;try go_wp2
 go_ret;exact ⟨rA,bG⟩

/-! ### impl_LongestWant: function 15 -/
def impl_LongestWant.l0:Nat→List Int→Bool→List (S39)→Int→Int→Int→Int→Option (Int)
 | 0,_,_,_,_,_,_,_=>none
 | k + 1,x1,x6,x10,x11,x12,x680000,x680001=>if x12 < x11 then (if 0≤x12 then (if x12 < (x10.length:Int) then ((slices_Contains_int_int.f k x1 ((rd_T39 x10 x12).f0)).bind fun t682=>(if t682=true then (impl_LongestWant.l0 k x1 x6 x10 x11 (wrap64 (x12 + 1)) x680000 x680001) else (if x6=true then (if ((rd_T39 x10 x12).f1) > x680001 then (impl_LongestWant.l0 k x1 true x10 x11 (wrap64 (x12 + 1)) ((rd_T39 x10 x12).f0) ((rd_T39 x10 x12).f1)) else (impl_LongestWant.l0 k x1 x6 x10 x11 (wrap64 (x12 + 1)) x680000 x680001)) else (impl_LongestWant.l0 k x1 true x10 x11 (wrap64 (x12 + 1)) ((rd_T39 x10 x12).f0) ((rd_T39 x10 x12).f1))))) else (none)) else (none)) else (some x680000)
def impl_LongestWant.f (k:Nat) (l0:List (S39)) (l1:List Int):Option (Int):=impl_LongestWant.l0 k l1 false l0 (l0.length:Int) 0 0 0
theorem impl_LongestWant.mono_l:∀ k,(∀ y0 y1 y2 y3 y4 y5 y6,LeO (impl_LongestWant.l0 k y0 y1 y2 y3 y4 y5 y6) (impl_LongestWant.l0 (k + 1) y0 y1 y2 y3 y4 y5 y6))
 | 0=>fun _ _ _ _ _ _ _ r h=>by simp [impl_LongestWant.l0] at h
 | k + 1=>by
  have ih0:=impl_LongestWant.mono_l k
  ·intro y0 y1 y2 y3 y4 y5 y6;unfold impl_LongestWant.l0;exact mz2 ih0 slices_Contains_int_int.mono
theorem impl_LongestWant.mono:∀ a0 a1 k,LeO (impl_LongestWant.f k a0 a1) (impl_LongestWant.f (k + 1) a0 a1):=by
 intro a0 a1 k;have ih0:=impl_LongestWant.mono_l k;unfold impl_LongestWant.f;exact mz2 ih0 slices_Contains_int_int.mono
set_option maxHeartbeats 8000000 in
set_option maxRecDepth 100000 in
theorem impl_LongestWant.calls (k:Nat) (A0:Option Addr) (c0:Nat) (l0:List (S39)) (A1:Option Addr) (c1:Nat) (l1:List Int) (r:Int) (w:World) (hr0:Kd.C k39 w A0 l0.length l0) (hc0:l0.length≤c0) (hr1:Kd.C (Kd.int .i64) w A1 l1.length l1) (hc1:l1.length≤c1) (h:impl_LongestWant.f k l0 l1=some r) :
  Calls Tryz.prog 15 #[.slice A0 l0.length c0,.slice A1 l1.length c1] w fun e w'=>e=.returned (.int .i64 r)∧Below w.heap.size w w':=by
 have hu39:=Tryz.underlying39;have HR0:=am hr0;have HC0:=am hc0;clear hr0 hc0;have HR1:=am hr1;have HC1:=am hc1;clear hr1 hc1;have HB:=am (Below.refl w.heap.size w);unfold impl_LongestWant.f at h;have H:=h;clear h;have H':=am H;clear H;go_enter Tryz.func15,Tryz.ntmps15;go_wp2_with (first|((with_reducible refine gd 5 ?_);refine bF w 5 #[.int .i64 0,.int .i64 0] 39 ?_;rintro gb679 w3 BK679 GW679 GE679 hb hg;replace HB:=bs HB hb;clear hb hg;obtain ⟨_,_,_,_⟩:=blkc2 BK679));go_loopg [6,12] k (fun kq v6 v12 w'=>∃ (x6_1:Bool) (x12_1:Int) (x680000_1:Int) (x680001_1:Int),v6=.bool x6_1∧v12=.int .i64 x12_1∧Aside0 (impl_LongestWant.l0 kq l1 x6_1 l0 (l0.length:Int) x12_1 x680000_1 x680001_1=some r)∧Aside0 (kq≤k)∧Aside0 (w'.heap[gb679]?=some (.cells #[.int .i64 x680000_1,.int .i64 x680001_1] 39 (0,0)))∧Aside0 (Below w.heap.size w w'))
 case atStart=>exact ⟨(false),(0),(0),(0),rS,rS,H',⟨Nat.le_refl _⟩,⟨kp BK679⟩,⟨bG⟩⟩
 case round =>
  clear H';obtain ⟨x6_1,x12_1,x680000_1,x680001_1,rfl,rfl,HA,HK1,BK679,HB⟩:=hrel
  cases gk with
  | zero=>exact absurd HA.out (by simp [impl_LongestWant.l0])
  | succ k1 =>
   have H:=HA.out;clear HA;simp only [impl_LongestWant.l0] at H;by_cases c5:x12_1 < (l0.length:Int)
   ·rw [if_pos c5] at H;have c5b0:=dt c5;clear c5;have c6b0:=ifC H;replace H:=ifT H;have c7b0:=ifC H;replace H:=ifT H;obtain ⟨t682,A8,H⟩:=bindE H;try dsimp only at H
    by_cases c9:t682=true
    ·subst c9;rw [if_pos rfl] at H;have H':=am H;clear H;obtain ⟨p680,q680⟩:=pq x12_1 l0;obtain ⟨ad680,e680,hx680_0,hx680_1⟩:=at_T39 (Kd.C_below HR0.out HB.out) x12_1 p680 q680;cases e680;obtain ⟨p680,q680⟩:=eT p680 q680;go_wp2_with (first|((with_reducible refine gd 8 ?_);refine bF w 8 #[.int .i64 0,.int .i64 0] 39 ?_;rintro gb681 w10 BK681 GW681 GE681 hb hg;replace HB:=bs HB hb;have NB679_681:=nl BK679 hg;have NB681_679:=nr BK679 hg;replace BK679:=kb BK679 hb;clear hb hg;have hnb11:=NB681_679.out;have hnc11:=NB679_681.out;obtain ⟨_,_,_,_⟩:=blkc2 BK681)|((with_reducible refine gc 29 ?_);refine gL (some 19) Tryz.func29 #[.slice A1 l1.length c1,.int .i64 ((rd_T39 l0 x12_1).f0)] ?_;(with_reducible refine (slices_Contains_int_int.calls k1 _ _ l1 ((rd_T39 l0 x12_1).f0) true _ ?_ ?_ A8.out).mono ?_);exact Kd.C_below HR1.out bG;exact HC1.out;rintro e w' ⟨rfl,⟨nd,rfl⟩⟩;refine ⟨_,rfl,?_⟩));go_roundg k1
     case measure=>have:=HK1.out;omega
     case rel=>exact ⟨(x6_1),(wrap64 (x12_1 + 1)),(x680000_1),(x680001_1),rS,rS,H',⟨by have:=HK1.out;omega⟩,⟨kf BK679 NB679_681⟩,⟨bG⟩⟩
    replace c9:=Bool.eq_false_iff.mpr c9;subst c9;rw [if_neg Bool.false_ne_true] at H;by_cases c13:x6_1=true
    ·subst c13;rw [if_pos rfl] at H;by_cases c14:((rd_T39 l0 x12_1).f1) > x680001_1
     ·rw [if_pos c14] at H;have c14b0:=dt c14;clear c14;have H':=am H;clear H;obtain ⟨p680,q680⟩:=pq x12_1 l0;obtain ⟨ad680,e680,hx680_0,hx680_1⟩:=at_T39 (Kd.C_below HR0.out HB.out) x12_1 p680 q680;cases e680;obtain ⟨p680,q680⟩:=eT p680 q680;go_wp2_with (first|((with_reducible refine gd 8 ?_);refine bF w 8 #[.int .i64 0,.int .i64 0] 39 ?_;rintro gb681 w15 BK681 GW681 GE681 hb hg;replace HB:=bs HB hb;have NB679_681:=nl BK679 hg;have NB681_679:=nr BK679 hg;replace BK679:=kb BK679 hb;clear hb hg;have hnb16:=NB681_679.out;have hnc16:=NB679_681.out;obtain ⟨_,_,_,_⟩:=blkc2 BK681)|((with_reducible refine gc 29 ?_);refine gL (some 19) Tryz.func29 #[.slice A1 l1.length c1,.int .i64 ((rd_T39 l0 x12_1).f0)] ?_;(with_reducible refine (slices_Contains_int_int.calls k1 _ _ l1 ((rd_T39 l0 x12_1).f0) false _ ?_ ?_ A8.out).mono ?_);exact Kd.C_below HR1.out bG;exact HC1.out;rintro e w' ⟨rfl,⟨nd,rfl⟩⟩;refine ⟨_,rfl,?_⟩;obtain ⟨_,_,_,_⟩:=blkc2 BK679));go_roundg k1
      case measure=>have:=HK1.out;omega
      case rel=>exact ⟨(true),(wrap64 (x12_1 + 1)),((rd_T39 l0 x12_1).f0),((rd_T39 l0 x12_1).f1),rS,rS,H',⟨by have:=HK1.out;omega⟩,⟨kP BK679 NB679_681⟩,⟨bG⟩⟩
     rw [if_neg c14] at H;have c14b0:=df c14;clear c14;have H':=am H;clear H;obtain ⟨p680,q680⟩:=pq x12_1 l0;obtain ⟨ad680,e680,hx680_0,hx680_1⟩:=at_T39 (Kd.C_below HR0.out HB.out) x12_1 p680 q680;cases e680;obtain ⟨p680,q680⟩:=eT p680 q680;go_wp2_with (first|((with_reducible refine gd 8 ?_);refine bF w 8 #[.int .i64 0,.int .i64 0] 39 ?_;rintro gb681 w19 BK681 GW681 GE681 hb hg;replace HB:=bs HB hb;have NB679_681:=nl BK679 hg;have NB681_679:=nr BK679 hg;replace BK679:=kb BK679 hb;clear hb hg;have hnb20:=NB681_679.out;have hnc20:=NB679_681.out;obtain ⟨_,_,_,_⟩:=blkc2 BK681)|((with_reducible refine gc 29 ?_);refine gL (some 19) Tryz.func29 #[.slice A1 l1.length c1,.int .i64 ((rd_T39 l0 x12_1).f0)] ?_;(with_reducible refine (slices_Contains_int_int.calls k1 _ _ l1 ((rd_T39 l0 x12_1).f0) false _ ?_ ?_ A8.out).mono ?_);exact Kd.C_below HR1.out bG;exact HC1.out;rintro e w' ⟨rfl,⟨nd,rfl⟩⟩;refine ⟨_,rfl,?_⟩;obtain ⟨_,_,_,_⟩:=blkc2 BK679));go_roundg k1
     case measure=>have:=HK1.out;omega
     case rel=>exact ⟨(true),(wrap64 (x12_1 + 1)),(x680000_1),(x680001_1),rS,rS,H',⟨by have:=HK1.out;omega⟩,⟨kf BK679 NB679_681⟩,⟨bG⟩⟩
    replace c13:=Bool.eq_false_iff.mpr c13;subst c13;rw [if_neg Bool.false_ne_true] at H;have H':=am H;clear H;obtain ⟨p680,q680⟩:=pq x12_1 l0;obtain ⟨ad680,e680,hx680_0,hx680_1⟩:=at_T39 (Kd.C_below HR0.out HB.out) x12_1 p680 q680;cases e680;obtain ⟨p680,q680⟩:=eT p680 q680;go_wp2_with (first|((with_reducible refine gd 8 ?_);refine bF w 8 #[.int .i64 0,.int .i64 0] 39 ?_;rintro gb681 w23 BK681 GW681 GE681 hb hg;replace HB:=bs HB hb;have NB679_681:=nl BK679 hg;have NB681_679:=nr BK679 hg;replace BK679:=kb BK679 hb;clear hb hg;have hnb24:=NB681_679.out;have hnc24:=NB679_681.out;obtain ⟨_,_,_,_⟩:=blkc2 BK681)|((with_reducible refine gc 29 ?_);refine gL (some 19) Tryz.func29 #[.slice A1 l1.length c1,.int .i64 ((rd_T39 l0 x12_1).f0)] ?_;(with_reducible refine (slices_Contains_int_int.calls k1 _ _ l1 ((rd_T39 l0 x12_1).f0) false _ ?_ ?_ A8.out).mono ?_);exact Kd.C_below HR1.out bG;exact HC1.out;rintro e w' ⟨rfl,⟨nd,rfl⟩⟩;refine ⟨_,rfl,?_⟩;obtain ⟨_,_,_,_⟩:=blkc2 BK679));go_roundg k1
    case measure=>have:=HK1.out;omega
    case rel=>exact ⟨(true),(wrap64 (x12_1 + 1)),((rd_T39 l0 x12_1).f0),((rd_T39 l0 x12_1).f1),rS,rS,H',⟨by have:=HK1.out;omega⟩,⟨kP BK679 NB679_681⟩,⟨bG⟩⟩
   rw [if_neg c5] at H;have c5b0:=df c5;clear c5;obtain rfl:=oj H;obtain ⟨_,_,_,_⟩:=blkc2 BK679;go_wp2;go_ret;exact ⟨rA,bG⟩

/-! ### cmp_isNaN_int: function 79 -/
def cmp_isNaN_int.f (a0:Int):Option (Bool):=some (a0 != a0)
set_option maxHeartbeats 8000000 in
set_option maxRecDepth 100000 in
theorem cmp_isNaN_int.calls (a0:Int) (r:Bool) (w:World) (h:cmp_isNaN_int.f a0=some r) :
  Calls Tryz.prog 79 #[.int .i64 a0] w fun e w'=>e=.returned (.bool r)∧Drawn0 w w':=by
 unfold cmp_isNaN_int.f at h;have H:=h;clear h;obtain rfl:=oj H;go_enter Tryz.func79,Tryz.ntmps79;go_wp2;go_ret;exact ⟨rS,dD⟩

/-! ### cmp_Less_int: function 69 -/
def cmp_Less_int.f (a0:Int) (a1:Int):Option (Bool):=(cmp_isNaN_int.f a0).bind fun t683=>(if t683=true then ((cmp_isNaN_int.f a1).bind fun t684=>(if t684=true then (some (decide (a0 < a1))) else (some true))) else (some (decide (a0 < a1))))
set_option maxHeartbeats 8000000 in
set_option maxRecDepth 100000 in
theorem cmp_Less_int.calls (a0:Int) (a1:Int) (r:Bool) (w:World) (h:cmp_Less_int.f a0 a1=some r) :
  Calls Tryz.prog 69 #[.int .i64 a0,.int .i64 a1] w fun e w'=>e=.returned (.bool r)∧Drawn0 w w':=by
 unfold cmp_Less_int.f at h;have H:=h;clear h;obtain ⟨t683,A3,H⟩:=bindE H;try dsimp only at H
 by_cases c4:t683=true
 ·subst c4;rw [if_pos rfl] at H;obtain ⟨t684,A5,H⟩:=bindE H;try dsimp only at H
  by_cases c6:t684=true
  ·subst c6;rw [if_pos rfl] at H;obtain rfl:=oj H;go_enter Tryz.func69,Tryz.ntmps69;go_wp2_with (first|((with_reducible refine gc 79 ?_);refine gL (some 6) Tryz.func79 #[.int .i64 a0] ?_;(with_reducible refine (cmp_isNaN_int.calls a0 true _ A3.out).mono ?_);rintro e w' ⟨rfl,⟨nd,rfl⟩⟩;refine ⟨_,rfl,?_⟩)|(go_at_call 79;(with_reducible refine (cmp_isNaN_int.calls a1 true _ A5.out).mono ?_);rintro e w' ⟨rfl,⟨nd,rfl⟩⟩));go_ret;exact ⟨rS,dD⟩
  replace c6:=Bool.eq_false_iff.mpr c6;subst c6;rw [if_neg Bool.false_ne_true] at H;obtain rfl:=oj H;go_enter Tryz.func69,Tryz.ntmps69;go_wp2_with (first|((with_reducible refine gc 79 ?_);refine gL (some 6) Tryz.func79 #[.int .i64 a0] ?_;(with_reducible refine (cmp_isNaN_int.calls a0 true _ A3.out).mono ?_);rintro e w' ⟨rfl,⟨nd,rfl⟩⟩;refine ⟨_,rfl,?_⟩)|(go_at_call 79;(with_reducible refine (cmp_isNaN_int.calls a1 false _ A5.out).mono ?_);rintro e w' ⟨rfl,⟨nd,rfl⟩⟩));go_ret;exact ⟨rS,dD⟩
 replace c4:=Bool.eq_false_iff.mpr c4;subst c4;rw [if_neg Bool.false_ne_true] at H;obtain rfl:=oj H;go_enter Tryz.func69,Tryz.ntmps69;go_wp2_with (first|((with_reducible refine gc 79 ?_);refine gL (some 6) Tryz.func79 #[.int .i64 a0] ?_;(with_reducible refine (cmp_isNaN_int.calls a0 false _ A3.out).mono ?_);rintro e w' ⟨rfl,⟨nd,rfl⟩⟩;refine ⟨_,rfl,?_⟩));go_ret;exact ⟨rS,dD⟩

/-! ### slices_isNaN_int: function 70 -/
def slices_isNaN_int.f (a0:Int):Option (Bool):=some (a0 != a0)
set_option maxHeartbeats 8000000 in
set_option maxRecDepth 100000 in
theorem slices_isNaN_int.calls (a0:Int) (r:Bool) (w:World) (h:slices_isNaN_int.f a0=some r) :
  Calls Tryz.prog 70 #[.int .i64 a0] w fun e w'=>e=.returned (.bool r)∧Drawn0 w w':=by
 unfold slices_isNaN_int.f at h;have H:=h;clear h;obtain rfl:=oj H;go_enter Tryz.func70,Tryz.ntmps70;go_wp2;go_ret;exact ⟨rS,dD⟩

/-! ### slices_BinarySearch_int_int: function 64 -/
def slices_BinarySearch_int_int.l0:Nat→List Int→Int→Int→Int→Int→Option (Int × Bool)
 | 0,_,_,_,_,_=>none
 | k + 1,x0,x1,x6,x7,x8=>if x7 < x8 then (if 0≤(wrap64 ((IntKind.u64.wrap (wrap64 (x7 + x8))) / 2)) then (if (wrap64 ((IntKind.u64.wrap (wrap64 (x7 + x8))) / 2)) < (x0.length:Int) then ((cmp_Less_int.f (rd x0 (wrap64 ((IntKind.u64.wrap (wrap64 (x7 + x8))) / 2))) x1).bind fun t686=>(if t686=true then (slices_BinarySearch_int_int.l0 k x0 x1 x6 (wrap64 ((wrap64 ((IntKind.u64.wrap (wrap64 (x7 + x8))) / 2)) + 1)) x8) else (slices_BinarySearch_int_int.l0 k x0 x1 x6 x7 (wrap64 ((IntKind.u64.wrap (wrap64 (x7 + x8))) / 2))))) else (none)) else (none)) else (if x7 < x6 then (if 0≤x7 then (if x7 < (x0.length:Int) then (if (rd x0 x7)=x1 then (some (x7,true)) else ((slices_isNaN_int.f (rd x0 x7)).bind fun t689=>(if t689=true then ((slices_isNaN_int.f x1).bind fun t690=>(some (x7,t690))) else (some (x7,false))))) else (none)) else (none)) else (some (x7,false)))
def slices_BinarySearch_int_int.f (k:Nat) (l0:List Int) (a1:Int):Option (Int × Bool):=slices_BinarySearch_int_int.l0 k l0 a1 (l0.length:Int) 0 (l0.length:Int)
theorem slices_BinarySearch_int_int.mono_l:∀ k,(∀ y0 y1 y2 y3 y4,LeO (slices_BinarySearch_int_int.l0 k y0 y1 y2 y3 y4) (slices_BinarySearch_int_int.l0 (k + 1) y0 y1 y2 y3 y4))
 | 0=>fun _ _ _ _ _ r h=>by simp [slices_BinarySearch_int_int.l0] at h
 | k + 1=>by
  have ih0:=slices_BinarySearch_int_int.mono_l k
  ·intro y0 y1 y2 y3 y4;unfold slices_BinarySearch_int_int.l0;exact mz1 ih0
theorem slices_BinarySearch_int_int.mono:∀ a0 a1 k,LeO (slices_BinarySearch_int_int.f k a0 a1) (slices_BinarySearch_int_int.f (k + 1) a0 a1):=by
 intro a0 a1 k;have ih0:=slices_BinarySearch_int_int.mono_l k;unfold slices_BinarySearch_int_int.f;exact mz1 ih0
set_option maxHeartbeats 8000000 in
set_option maxRecDepth 100000 in
theorem slices_BinarySearch_int_int.calls (k:Nat) (A0:Option Addr) (c0:Nat) (l0:List Int) (a1:Int) (r1:Int) (r2:Bool) (w:World) (hr0:Kd.C (Kd.int .i64) w A0 l0.length l0) (hc0:l0.length≤c0) (h:slices_BinarySearch_int_int.f k l0 a1=some (r1,r2)) :
  Calls Tryz.prog 64 #[.slice A0 l0.length c0,.int .i64 a1] w fun e w'=>e=.returned (.tuple #[.int .i64 r1,.bool r2])∧Drawn0 w w':=by
 have HR0:=am hr0;have HC0:=am hc0;clear hr0 hc0;unfold slices_BinarySearch_int_int.f at h;have H:=h;clear h;have H':=am H;clear H;go_enter Tryz.func64,Tryz.ntmps64;go_wp2;go_loopg [7,8] k (fun kq v7 v8 w'=>∃ (x7_1:Int) (x8_1:Int),v7=.int .i64 x7_1∧v8=.int .i64 x8_1∧Aside0 (slices_BinarySearch_int_int.l0 kq l0 a1 (l0.length:Int) x7_1 x8_1=some (r1,r2))∧Aside0 (kq≤k)∧Drawn0 w w')
 case atStart=>exact ⟨(0),((l0.length:Int)),rS,rS,H',⟨Nat.le_refl _⟩,by repeat (first|exact Drawn0.refl _|apply Drawn0.step)⟩
 case round =>
  clear H';obtain ⟨x7_1,x8_1,rfl,rfl,HA,HK1,⟨m1,rfl⟩⟩:=hrel
  cases gk with
  | zero=>exact absurd HA.out (by simp [slices_BinarySearch_int_int.l0])
  | succ k1 =>
   have H:=HA.out;clear HA;simp only [slices_BinarySearch_int_int.l0] at H;by_cases c3:x7_1 < x8_1
   ·rw [if_pos c3] at H;have c3b0:=dt c3;clear c3;obtain ⟨ji4,hji4⟩:∃ j_:Int,(wrap64 ((IntKind.u64.wrap (wrap64 (x7_1 + x8_1))) / 2))=j_:=⟨_,rfl⟩;replace H:(if 0≤(ji4) then (if (ji4) < (l0.length:Int) then ((cmp_Less_int.f (rd l0 (ji4)) a1).bind fun t686=>(if t686=true then (slices_BinarySearch_int_int.l0 k1 l0 a1 (l0.length:Int) (wrap64 ((ji4) + 1)) x8_1) else (slices_BinarySearch_int_int.l0 k1 l0 a1 (l0.length:Int) x7_1 ji4))) else (none)) else (none))=some (r1,r2):=by first|(rw [hji4] at H;exact H)|(simp only [hji4] at H ⊢;exact H)
    have hji4w:(IntKind.i64.wrap ((IntKind.u64.wrap (wrap64 (x7_1 + x8_1))) / 2))=ji4:=(i64_w _).trans hji4;have c5b0:=ifC H;replace H:=ifT H;have c6b0:=ifC H;replace H:=ifT H;obtain ⟨t686,A7,H⟩:=bindE H;try dsimp only at H
    by_cases c8:t686=true
    ·subst c8;rw [if_pos rfl] at H;have H':=am H;clear H;obtain ⟨p685,q685⟩:=pq (ji4) l0;obtain ⟨ad685,e685,hx685_0⟩:=Kd.at_int HR0.out (ji4) p685 q685;cases e685;obtain ⟨p685,q685⟩:=eT p685 q685;go_wp2_with (first|((with_reducible refine gc 69 ?_);refine goesL_ (some 27) rfl rfl Tryz.func69 (by kernel_rfl) rfl #[.int .i64 (rd l0 (ji4)),.int .i64 a1] rfl (by (try simp only [List.map_toArray,List.map_cons,List.map_nil]);first|done|(simp only [hji4];rfl)|rfl|(simp only [List.length_drop,List.length_take];rfl)) ?_;(with_reducible refine (cmp_Less_int.calls (rd l0 (ji4)) a1 true _ A7.out).mono ?_);rintro e w' ⟨rfl,⟨nd,rfl⟩⟩;refine ⟨_,rfl,?_⟩));go_roundg k1
     case measure=>have:=HK1.out;omega
     case rel=>exact ⟨(wrap64 ((ji4) + 1)),(x8_1),(by first|rfl|(simp;done)|(simp only [← hji4] <;> (first|rfl|simp))|(simp [*];done)),rS,H',⟨by have:=HK1.out;omega⟩,by repeat (first|exact Drawn0.refl _|apply Drawn0.step)⟩
    replace c8:=Bool.eq_false_iff.mpr c8;subst c8;rw [if_neg Bool.false_ne_true] at H;have H':=am H;clear H;obtain ⟨p685,q685⟩:=pq (ji4) l0;obtain ⟨ad685,e685,hx685_0⟩:=Kd.at_int HR0.out (ji4) p685 q685;cases e685;obtain ⟨p685,q685⟩:=eT p685 q685;go_wp2_with (first|((with_reducible refine gc 69 ?_);refine goesL_ (some 27) rfl rfl Tryz.func69 (by kernel_rfl) rfl #[.int .i64 (rd l0 (ji4)),.int .i64 a1] rfl (by (try simp only [List.map_toArray,List.map_cons,List.map_nil]);first|done|(simp only [hji4];rfl)|rfl|(simp only [List.length_drop,List.length_take];rfl)) ?_;(with_reducible refine (cmp_Less_int.calls (rd l0 (ji4)) a1 false _ A7.out).mono ?_);rintro e w' ⟨rfl,⟨nd,rfl⟩⟩;refine ⟨_,rfl,?_⟩));go_roundg k1
    case measure=>have:=HK1.out;omega
    case rel=>exact ⟨(x7_1),(ji4),rS,(by first|rfl|(simp;done)|(simp only [← hji4] <;> (first|rfl|simp))|(simp [*];done)),H',⟨by have:=HK1.out;omega⟩,by repeat (first|exact Drawn0.refl _|apply Drawn0.step)⟩
   rw [if_neg c3] at H;have c3b0:=df c3;clear c3;by_cases c9:x7_1 < (l0.length:Int)
   ·rw [if_pos c9] at H;have c9b0:=dt c9;clear c9;have c10b0:=ifC H;replace H:=ifT H;have c11b0:=ifC H;replace H:=ifT H;by_cases c12:(rd l0 x7_1)=a1
    ·rw [if_pos c12] at H;obtain ⟨c12b0,c12b1⟩:=eI c12;clear c12;simp only [Option.some.injEq,Prod.mk.injEq] at H;obtain ⟨rfl,rfl⟩:=H;obtain ⟨p687,q687⟩:=pq x7_1 l0;obtain ⟨ad687,e687,hx687_0⟩:=Kd.at_int HR0.out x7_1 p687 q687;cases e687;obtain ⟨p687,q687⟩:=eT p687 q687;go_wp2;go_ret2;exact ⟨rS,dD⟩
    rw [if_neg c12] at H;obtain ⟨c12b0,c12b1⟩:=nI c12;obtain ⟨t689,A13,H⟩:=bindE H;try dsimp only at H
    by_cases c14:t689=true
    ·subst c14;rw [if_pos rfl] at H;obtain ⟨t690,A15,H⟩:=bindE H;try dsimp only at H
     simp only [Option.some.injEq,Prod.mk.injEq] at H;obtain ⟨rfl,rfl⟩:=H;obtain ⟨p687,q687⟩:=pq x7_1 l0;obtain ⟨ad687,e687,hx687_0⟩:=Kd.at_int HR0.out x7_1 p687 q687;cases e687;obtain ⟨p687,q687⟩:=eT p687 q687;obtain ⟨p688,q688⟩:=pq x7_1 l0;obtain ⟨ad688,e688,hx688_0⟩:=Kd.at_int HR0.out x7_1 p688 q688;obtain rfl:ad687=ad688:=(by injection e688);obtain ⟨p688,q688⟩:=eT p688 q688;go_wp2_with (first|(go_at_call 70;(with_reducible refine (slices_isNaN_int.calls (rd l0 x7_1) true _ A13.out).mono ?_);rintro e w' ⟨rfl,⟨nd,rfl⟩⟩)|(go_at_call 70;(with_reducible refine (slices_isNaN_int.calls a1 t690 _ A15.out).mono ?_);rintro e w' ⟨rfl,⟨nd,rfl⟩⟩));go_ret2;exact ⟨rS,dD⟩
    replace c14:=Bool.eq_false_iff.mpr c14;subst c14;rw [if_neg Bool.false_ne_true] at H;simp only [Option.some.injEq,Prod.mk.injEq] at H;obtain ⟨rfl,rfl⟩:=H;obtain ⟨p687,q687⟩:=pq x7_1 l0;obtain ⟨ad687,e687,hx687_0⟩:=Kd.at_int HR0.out x7_1 p687 q687;cases e687;obtain ⟨p687,q687⟩:=eT p687 q687;obtain ⟨p688,q688⟩:=pq x7_1 l0;obtain ⟨ad688,e688,hx688_0⟩:=Kd.at_int HR0.out x7_1 p688 q688;obtain rfl:ad687=ad688:=(by injection e688);obtain ⟨p688,q688⟩:=eT p688 q688;go_wp2_with (first|(go_at_call 70;(with_reducible refine (slices_isNaN_int.calls (rd l0 x7_1) false _ A13.out).mono ?_);rintro e w' ⟨rfl,⟨nd,rfl⟩⟩));go_ret2;exact ⟨rS,dD⟩
   rw [if_neg c9] at H;have c9b0:=df c9;clear c9;simp only [Option.some.injEq,Prod.mk.injEq] at H;obtain ⟨rfl,rfl⟩:=H;go_wp2;go_ret2;exact ⟨rS,dD⟩

/-! ### impl_inserted: function 52 -/
theorem impl_inserted.one {α:Type} {R:α→List Value→Prop} {size:Nat} {ps:List α} {cs:List Value} (h:Reps R size ps cs) (hs:0 < size) (hR:∀ p c,R p c→∀ u∈c,u.oneCell'=true):∀ u∈cs,u.oneCell'=true:=by
 intro u hu
 obtain ⟨q,hq,rfl⟩:=List.mem_iff_getElem.1 hu
 have hj:q / size < ps.length:=by
  rw [Nat.div_lt_iff_lt_mul hs,← h.1]
  exact hq
 refine hR _ _ (h.2 (q / size) _ (List.getElem?_eq_getElem hj)) _ (List.mem_iff_getElem?.2 ⟨q % size,?_⟩)
 rw [List.getElem?_take,if_pos (Nat.mod_lt _ hs),List.getElem?_drop,Nat.mul_comm,Nat.div_add_mod,List.getElem?_eq_getElem hq]
theorem impl_inserted.cp {P:Program} (w:World) (t ty e:TypeId) (sz b o dLen dCap:Nat) (a:Addr) (sLen sCap q:Nat) (cs:List Value)
  (hu:P.underlying t=some (.slice e)) (hs:(P.info? e).map (·.size)=some sz) (hq:Nat.min sLen dLen=q) (hn:cs.length=q * sz)
  (hsrc:∀ j v,cs[j]?=some v→w.cell? (a.add j)=some v) (hc:∀ j,j < cs.length→(w.cell? ⟨b,o + j,none⟩).isSome=true) (hf:∀ j,j < cs.length→w.frozen? ⟨b,o + j,none⟩=false) (h1:∀ v∈cs,v.oneCell'=true) :
  (Builtin.copy_ #[t,t] ty #[.slice (some ⟨b,o,none⟩) dLen dCap,.slice (some a) sLen sCap]).run P w=.ok (goInt q) (w.setCells b o cs):=by
 have hst:=run_storeCells_cells (P:=P) b o cs 0 w (by simpa using hc) (by simpa using hf) h1
 simp only [Nat.add_zero] at hst
 cases hi:P.info? e with
 | none=>simp [hi] at hs
 | some i =>
  have hz:i.size=sz:=by simpa [hi] using hs
  subst hz
  have hfc:=run_firstCells_some (P:=P) w i.size q a sLen sCap cs hn hsrc
  simp [Builtin.copy_,run_underlying hu,Builtin.lenOf,sizeOf,typeInfo,hi,hq,hfc,hst]
theorem impl_inserted.az {P:Program} (w:World) (t ti ty e:TypeId) (i:TypeInfo) (z:Value) (size bytes:Nat) (ht:P.underlying t=some (.slice e)) {k:IntKind} (hti:P.underlying ti=some (.int k)) (hi:P.info? e=some i) (hz:i.zero=some z)
  (hsize:i.size=size) (hby:i.bytes=bytes) (hzs:z.cells.size=size) (hsz:0 < size) (hb0:0 < bytes)
  (A:Addr) (n cap:Nat) (xs:List Value) (hxl:xs.length=n * size) (hxc:∀ j u,xs[j]?=some u→w.cell? (A.add j)=some u) (kx:IntKind) (m:Nat) (hm:¬ m=0) (hcap:cap < n + m)
  (hbytes:(n + m) * bytes≤140737488355328) :
  ∃ C cells,(Builtin.append_ #[t,ti] ty #[.slice (some A) n cap,.int kx m]).run P w=.ok (.slice (some ⟨w.heap.size,0,none⟩) (n + m) C) (w.drew.alloc (.cells cells e))∧n + m≤C∧C≤maxLen∧cells.size=C * size∧cells.toList.take (n * size)=xs:=by
 subst hsize
 subst hby
 have hle:n + m≤140737488355328:=Nat.le_trans (Nat.le_mul_of_pos_right _ hb0) hbytes
 have h63:n + m≤maxLen:=by simp only [maxLen];omega
 have hw:IntKind.i64.wrap (m:Int)=m:=by rw [IntKind.wrap_i64];omega
 have hneg:¬ ((m:Int) < 0):=by omega
 have hmb:m * i.bytes≤140737488355328:=Nat.le_trans (Nat.mul_le_mul_right _ (Nat.le_add_left m n)) hbytes
 have hbig:¬ (281474976710656 < (m:Int) * (i.bytes:Int)):=by
  rw [← Int.natCast_mul]
  omega
 have hsn:i.size≠0:=by omega
 obtain ⟨news,hnews⟩:∃ news,news=(Builtin.zeroCells z.cells m).toList:=⟨_,rfl⟩
 have hl:news.length=m * i.size:=by rw [hnews,Array.length_toList,size_zeroCells,hzs]
 have hna:Builtin.zeroCells z.cells m=news.toArray:=by rw [hnews]
 have hge:=grownCap_ge w (n + m) cap e
 have hcm:grownCap w (n + m) cap e≤maxLen:=grownCap_le_maxLen w (n + m) cap e h63
 have hfo:(Builtin.firstCells i.size n (.slice (some A) n cap)).run P w.drew=.ok xs.toArray w.drew:=run_firstCells_some (P:=P) w.drew i.size n _ n cap xs hxl (by simpa using hxc)
 have runs:(Builtin.append_ #[t,ti] ty #[.slice (some A) n cap,.int kx m]).run P w =
   .ok (.slice (some ⟨w.heap.size,0,none⟩) (n + m) (grownCap w (n + m) cap e)) (w.drew.alloc (.cells (xs.toArray ++ news.toArray ++ Builtin.zeroCells z.cells (grownCap w (n + m) cap e - (n + m))) e)):=by
  have hn:¬ (n + m≤cap):=by omega
  have h63':¬ (9223372036854775807 < ((n:Int) + (m:Int))):=by omega
  have hfit:=growslice_fits hcap hbytes
  have h48':¬ (281474976710656 < Builtin.nextslicecap (n + m) cap * i.bytes):=by omega
  have hmz:¬ (m * i.size=0):=Nat.mul_ne_zero hm hsn
  simp [Builtin.append_,run_underlying ht,run_underlying hti,sizeOf,typeInfo,zeroValue,hi,hz,asInt,asIntOf,hw,hneg,hbig,hn,h63',h48',Question.forced,hfo,newRow,grownCap,hmz,hna]
  congr 2
  apply Array.ext'
  simp [List.append_assoc]
 refine ⟨_,_,runs,hge,hcm,?_,?_⟩
 ·
  simp only [Array.size_append,List.size_toArray,size_zeroCells,hzs,hxl,hl,← Nat.add_mul]
  congr 1
  omega
 ·
  simp only [Array.toList_append,List.append_assoc]
  rw [← hxl]
  exact List.take_left
theorem impl_inserted.two {e g:Nat} (w w1:World) (cur:Array Value) (cs rest:List Value) (o:Nat) (h:w.heap[g]?=some (.cells cur e (0,0))) (hw1:w1.heap[g]?=(w.setCells g o cs).heap[g]?) (hl:o + cs.length + rest.length≤cur.size) :
  ∃ cur',(w1.setCells g (o + cs.length) rest).heap[g]?=some (.cells cur' e (0,0))∧cur'.size=cur.size∧cur'.toList.take (o + cs.length + rest.length)=cur.toList.take o ++ cs ++ rest:=by
 obtain ⟨c1,h1,h2,h3⟩:=setCells_row cs o w cur h (by omega)
 obtain ⟨c2,h4,h5,h6⟩:=setCells_row rest (o + cs.length) w1 c1 (hw1.trans h1) (by omega)
 have hlen:(cur.toList.take o).length=o:=by rw [List.length_take,Array.length_toList];omega
 refine ⟨c2,h4,by omega,?_⟩
 rw [h6,h3]
 have ha:(cur.toList.take o ++ cs ++ cur.toList.drop (o + cs.length)).take (o + cs.length)=cur.toList.take o ++ cs:=List.take_left' (by rw [List.length_append,hlen])
 rw [ha]
 exact List.take_left' (by rw [List.length_append,List.length_append,hlen])
theorem impl_inserted.two' {e g:Nat} (w:World) (cur:Array Value) (cs rest:List Value) (o:Nat) (h:w.heap[g]?=some (.cells cur e (0,0))) (hl:o + cs.length + rest.length≤cur.size) :
  ∃ cur',((w.setCells g (o + cs.length) rest).setCells g o cs).heap[g]?=some (.cells cur' e (0,0))∧cur'.size=cur.size∧cur'.toList.take (o + cs.length + rest.length)=cur.toList.take o ++ cs ++ rest:=by
 obtain ⟨c1,h1,h2,h3⟩:=setCells_row rest (o + cs.length) w cur h (by omega)
 obtain ⟨c2,h4,h5,h6⟩:=setCells_row cs o (w.setCells g (o + cs.length) rest) c1 h1 (by omega)
 have hlen:(cur.toList.take o).length=o:=by rw [List.length_take,Array.length_toList];omega
 have hlen2:(cur.toList.take (o + cs.length)).length=o + cs.length:=by rw [List.length_take,show cur.toList.length=cur.size from Array.length_toList];omega
 refine ⟨c2,h4,by omega,?_⟩
 rw [h6,h3]
 have ha:(cur.toList.take (o + cs.length) ++ rest ++ cur.toList.drop (o + cs.length + rest.length)).take o=cur.toList.take o:=by
  rw [List.append_assoc,List.take_append_of_le_length (by omega),List.take_take,Nat.min_eq_left (by omega)]
 have hb:(cur.toList.take (o + cs.length) ++ rest ++ cur.toList.drop (o + cs.length + rest.length)).drop (o + cs.length)=rest ++ cur.toList.drop (o + cs.length + rest.length):=by
  rw [List.append_assoc]
  exact List.drop_left' hlen2
 rw [ha,hb,← List.append_assoc]
 exact List.take_left' (by rw [List.length_append,List.length_append,hlen])
theorem impl_inserted.mk {α:Type} (d:Kd α) (e:Nat) (w':World) (base g C k:Nat) (cur:Array Value) (xs:List α) (x:α) (inner cs:List Value)
  (hr:Reps (d.M w' base (fun k=>True∧some k≠some g)) d.sz xs inner) (hx:d.M w' base (fun k=>True∧some k≠some g) x cs) (hk:k≤xs.length) (hb:base≤g) (hg:w'.heap[g]?=some (.cells cur e (0,0)))
  (hC:xs.length + 1≤C) (hCm:C≤maxLen) (hcs:cur.size=C * d.sz) (ht:cur.toList.take ((xs.length + 1) * d.sz)=inner.take (k * d.sz) ++ cs ++ inner.drop (k * d.sz)) :
  d.R e w' base (fun _=>True) (.slice (some ⟨g,0,none⟩) (xs.length + 1) C) (xs.take k ++ [x] ++ xs.drop k):=by
 have hl:(xs.take k ++ [x] ++ xs.drop k).length=xs.length + 1:=by simp;omega
 have hcl:cs.length=d.sz:=d.K_len (d.K_of_M hx)
 have h1:Reps (d.M w' base (fun k=>True∧some k≠some g)) d.sz (xs.take k ++ [x] ++ xs.drop k) (inner.take (k * d.sz) ++ cs ++ inner.drop (k * d.sz)) :=
  Kd.reps_append (Reps.snoc (Kd.reps_take hr hk) hx hcl) (Kd.reps_drop hr)
 exact ⟨fun _ _=>trivial,_,⟨h1.1,.inr ⟨g,C,cur,by rw [hl],hb,hg,by rw [hl];exact hC,hCm,hcs,by rw [hl];exact ht⟩⟩,h1⟩
theorem impl_inserted.wcopy {P:Program} (w:World) {ops:Array Oper} {rest:List Oper} {o:Oper} {a:Act} {Q:Exit→Act→World→Prop} (hgd:o.guard=none) (d s:Operand) (t t':TypeId)
  (ho:o.op=.call { callee:=.builtin .copy,args:=#[d,s],argTypes:=#[t,t'] }) (v u:Value) (hd:a.eval d=v) (hs:a.eval s=u) {v':Value} {w':World}
  (hr:(Builtin.copy_ #[t,t'] o.type #[v,u]).run P w=.ok v' w') (h:wpList P ops Q rest (a.put o.dst v') w'):wpList P ops Q (o::rest) a w :=
 wpList_plain hgd fun K hK=>by
  unfold Oper.wp execOp
  simp only [ho,resolve,invoke,builtin,Sem.run_bind,Sem.run_pure,Result.andThen_ok,List.map_toArray,List.map_cons,List.map_nil,hd,hs,hr]
  exact hK _ _ h
theorem impl_inserted.wapp {P:Program} (w:World) {ops:Array Oper} {rest:List Oper} {o:Oper} {a:Act} {Q:Exit→Act→World→Prop} (hgd:o.guard=none) (d s:Operand) (t t':TypeId)
  (ho:o.op=.call { callee:=.builtin .append,args:=#[d,s],argTypes:=#[t,t'] }) (v u:Value) (hd:a.eval d=v) (hs:a.eval s=u) {v':Value} {w':World}
  (hr:(Builtin.append_ #[t,t'] o.type #[v,u]).run P w=.ok v' w') (h:wpList P ops Q rest (a.put o.dst v') w'):wpList P ops Q (o::rest) a w :=
 wpList_plain hgd fun K hK=>by
  unfold Oper.wp execOp
  simp only [ho,resolve,invoke,builtin,Sem.run_bind,Sem.run_pure,Result.andThen_ok,List.map_toArray,List.map_cons,List.map_nil,hd,hs,hr]
  exact hK _ _ h
theorem impl_inserted.scopy {P:Program} {ops:Array Oper} {o:Oper} {a:Act} {w:World} {K:Act→World→Prop} {Q:Exit→Act→World→Prop} {E:Prop}
  (hg:o.guard=none) (d x:Operand) (dT sT:TypeId) (hop:o.op=Op.call { callee:=Callee.builtin Builtin.copy,args:=#[d,x],argTypes:=#[dT,sT] })
  (v u:Value) (hd:a.eval d=v) (hx:a.eval x=u) {v':Value} {w':World} (hr:(Builtin.copy_ #[dT,sT] o.type #[v,u]).run P w=.ok v' w') (hK:K (a.put o.dst v') w') :
  if Region.wanted o (yielded ops a.tmps)=true then Oper.wp P o a w K Q else E:=by
 have hw:Region.wanted o (yielded ops a.tmps)=true:=by simp [Region.wanted,hg]
 rw [if_pos hw]
 unfold Oper.wp
 simp [execOp,hop,resolve,invoke,builtin,hd,hx,hr,Result.andThen]
 exact hK
theorem impl_inserted.flat {w w':World} {base base':Nat} {ok ok':Nat→Prop} {p:Int} {cs:List Value} (h:((Kd.int .i64)).M w base ok p cs):((Kd.int .i64)).M w' base' ok' p cs:=h
theorem impl_inserted.end_fact (base c gv cv:Nat) (l0:List Int) (x:Int) (ok okv:Nat→Prop) (w0 w:World) (hlim:l0.length < 8796093022208) (A:Option Addr)
  (HO:Kd.R (Kd.int .i64) 3 w base ok (.slice A l0.length c) l0) (HV:Kd.R (Kd.int .i64) 3 w base okv (.slice (some ⟨gv,0,none⟩) 1 cv) [x]) (hb:Below base w0 w) (hbase:base≤w.heap.size) :
  ∃ v1 w1,(Builtin.append_ #[25,25] 25 #[.slice A l0.length c,.slice (some ⟨gv,0,none⟩) 1 cv]).run Tryz.prog w=.ok v1 w1∧Kd.R (Kd.int .i64) 3 w1 base (fun _=>True) v1 (l0 ++ [x])∧Below base w0 w1:=by
 obtain ⟨_,inner,hown,hr⟩:=HO
 obtain ⟨_,innv,hownv,hrv⟩:=HV
 obtain ⟨i0,hi0,hz0,hz1,hz2⟩:∃ i,Tryz.prog.info? 3=some i∧i.zero=some (.int .i64 0)∧i.size=1∧i.bytes=8:=by
  have h:=info3
  cases hq:Tryz.prog.info? 3 with
  | none=>rw [hq] at h;simp at h
  | some i=>rw [hq] at h;simp at h;exact ⟨i,rfl,h.1,h.2.1,h.2.2⟩
 obtain ⟨v1,w1,hrun,h2,hg,_,hat⟩:=run_append_own_at (P:=Tryz.prog) w base 25 25 3 i0 (.int .i64 0) 1 8 Tryz.underlying25 hi0 hz0 hz1 hz2 rfl (by decide) (.slice A l0.length c) l0.length inner hown ⟨gv,0,none⟩ 1 cv innv (by rw [hrv.1];rfl) (hownv.cells (g:=gv) rfl) (impl_inserted.one hrv (by decide) (fun _ _ hp=>((Kd.int .i64)).K_one (((Kd.int .i64)).K_of_M hp))) (by simp only [maxLen];omega) (by omega) hbase
 refine ⟨v1,w1,hrun,⟨fun _ _=>trivial,inner ++ innv,by rw [List.length_append];exact h2,Kd.reps_append (hr.imp_ (fun _ _ hp=>impl_inserted.flat hp)) (hrv.imp_ (fun _ _ hp=>impl_inserted.flat hp))⟩,hb.grown hg hbase (own_base hown)⟩
set_option maxHeartbeats 4000000 in
set_option maxRecDepth 100000 in
theorem impl_inserted.at_end (base c gv cv:Nat) (l0:List Int) (x:Int) (ok okv:Nat→Prop) (w0 w:World) (hlim:l0.length < 8796093022208) (A:Option Addr)
  (HO:Kd.R (Kd.int .i64) 3 w base ok (.slice A l0.length c) l0) (HV:Kd.R (Kd.int .i64) 3 w base okv (.slice (some ⟨gv,0,none⟩) 1 cv) [x]) (hb:Below base w0 w) (hbase:base≤w.heap.size) :
  Calls Tryz.prog 65 #[.slice A l0.length c,.int .i64 (l0.length:Int),.slice (some ⟨gv,0,none⟩) 1 cv] w fun e w'=>∃ v0_:Value,e=.returned v0_∧Kd.R (Kd.int .i64) 3 w' base (fun _=>True) v0_ (l0 ++ [x])∧Below base w0 w':=by
 obtain ⟨v1,w1,hap,ho1,hb1⟩:=impl_inserted.end_fact base c gv cv l0 x ok okv w0 w hlim A HO HV hb hbase
 have HO1:=Aside0.mk ho1
 have HB1:=Aside0.mk hb1
 have HO0:=Aside0.mk HO
 have HV0:=Aside0.mk HV
 have HL:=Aside0.mk hlim
 have HB:=Aside0.mk hb
 have HS:=Aside0.mk hbase
 clear HO HV hlim hb hbase ho1 hb1
 go_enter Tryz.func65,Tryz.ntmps65
 go_wp2_with (at_builtin;refine impl_inserted.wapp _ rfl _ _ _ _ rfl _ _ rfl rfl hap ?_)
 all_goals
  go_ret
  exact ⟨_,rfl,HO1.out,HB1.out⟩
set_option maxHeartbeats 4000000 in
set_option maxRecDepth 100000 in
theorem impl_inserted.grow_facts (base g gv cv k:Nat) (l0:List Int) (x:Int) (ok okv:Nat→Prop) (w0 w:World) (hlim:l0.length < 4398046511104) (hk:k < l0.length) (hne:gv≠g)
  (HO:Kd.R (Kd.int .i64) 3 w base ok (.slice (some ⟨g,0,none⟩) l0.length l0.length) l0) (HV:Kd.R (Kd.int .i64) 3 w base okv (.slice (some ⟨gv,0,none⟩) 1 cv) [x]) (hb:Below base w0 w) (hbase:base≤w.heap.size) :
  ∃ (C:Nat) (W1 W2 W3:World),l0.length + 1≤C ∧
   (Builtin.append_ #[25,3] 25 #[.slice (some ⟨g,0,none⟩) k l0.length,.int .i64 ((l0.length:Int) + 1 - (k:Int))]).run Tryz.prog w=.ok (.slice (some ⟨w.heap.size,0,none⟩) (l0.length + 1) C) W1 ∧
   (∀ ty dc,(Builtin.copy_ #[25,25] ty #[.slice (some ⟨w.heap.size,k * 1,none⟩) (l0.length + 1 - k) dc,.slice (some ⟨gv,0,none⟩) 1 cv]).run Tryz.prog W1=.ok (goInt ((1:Nat):Int)) W2) ∧
   (∀ ty dc sc,(Builtin.copy_ #[25,25] ty #[.slice (some ⟨w.heap.size,(k + 1) * 1,none⟩) (l0.length - k) dc,.slice (some ⟨g,k * 1,none⟩) (l0.length - k) sc]).run Tryz.prog W2.drew=.ok (goInt ((l0.length - k:Nat):Int)) W3) ∧
   Kd.R (Kd.int .i64) 3 W3 base (fun _=>True) (.slice (some ⟨w.heap.size,0,none⟩) (l0.length + 1) C) (l0.take k ++ [x] ++ l0.drop k)∧Below base w0 W3:=by
 obtain ⟨_,inner,hown,hr⟩:=HO
 obtain ⟨_,innv,hownv,hrv⟩:=HV
 rcases hown.2 with ⟨hv,_⟩|⟨g',c',cur,hv,hbg,hh,_,hcm,hcs,htake⟩
 ·
  cases hv
 injection hv with ha _ hcc
 injection ha with ha
 injection ha with hgg
 subst hgg;subst hcc
 rcases hownv.2 with ⟨hv,_⟩|⟨g',c',curv,hv,hbgv,hhv,hv1,hcmv,hcsv,htakev⟩
 ·
  cases hv
 injection hv with ha _ hcc
 injection ha with ha
 injection ha with hgg
 subst hgg;subst hcc
 have hil:inner.length=l0.length * 1:=hr.1
 have hivl:innv.length=1:=by rw [hrv.1];rfl
 have hx0:=hrv.2 0 x rfl
 have hx1:(innv.drop (0 * ((Kd.int .i64)).sz)).take ((Kd.int .i64)).sz=innv:=by rw [Nat.zero_mul,List.drop_zero];exact List.take_of_length_le (Nat.le_of_eq hivl)
 rw [hx1] at hx0
 have hsz:(Tryz.prog.info? 3).map (·.size)=some 1:=by
  have h:=info3
  cases hq:Tryz.prog.info? 3 with
  | none=>rw [hq] at h;simp at h
  | some i=>rw [hq] at h;simp at h;simp [h]
 have h1i:∀ u∈inner,u.oneCell'=true:=impl_inserted.one hr (by decide) (fun _ _ hp=>((Kd.int .i64)).K_one (((Kd.int .i64)).K_of_M hp))
 have h1v:∀ u∈innv,u.oneCell'=true:=((Kd.int .i64)).K_one (((Kd.int .i64)).K_of_M hx0)
 have hsc:cur.size=l0.length * 1:=hcs
 have hscv:curv.size=cv * 1:=hcsv
 have hcur:∀ q,q < l0.length * 1→cur.toList[q]?=inner[q]?:=by
  intro q hq
  rw [← (show cur.toList.take (l0.length * 1)=inner from htake),List.getElem?_take,if_pos hq]
 have hcv:∀ (W:World),W.heap[gv]?=some (.cells curv 3 (0,0))→∀ j v,innv[j]?=some v→W.cell? ((⟨gv,0,none⟩:Addr).add j)=some v:=by
  intro W hW j v hj
  have hlt:j < innv.length:=(List.getElem?_eq_some_iff.1 hj).1
  rw [add_plain,cell_of_row W gv _ curv 3 (0,0) hW,← Array.getElem?_toList]
  rw [← (show curv.toList.take ([x].length * 1)=innv from htakev),List.getElem?_take] at hj
  rw [if_pos (by simp;omega)] at hj
  exact hj
 have hdl:(inner.drop (k * 1)).length=(l0.length - k) * 1:=by rw [List.length_drop,hil];omega
 have htl:(inner.take (k * 1)).length=k * 1:=by rw [List.length_take,hil];omega
 have hgl:g < w.heap.size:=blk_lt hh
 have hgvl:gv < w.heap.size:=blk_lt hhv
 obtain ⟨i0,hi0,hz0,hz1,hz2⟩:∃ i,Tryz.prog.info? 3=some i∧i.zero=some (.int .i64 0)∧i.size=1∧i.bytes=8:=by
  have h:=info3
  cases hq:Tryz.prog.info? 3 with
  | none=>rw [hq] at h;simp at h
  | some i=>rw [hq] at h;simp at h;exact ⟨i,rfl,h.1,h.2.1,h.2.2⟩
 obtain ⟨C,cells,hap,hC,hCm,hCs,hCt⟩:=impl_inserted.az (P:=Tryz.prog) w 25 3 25 3 i0 (.int .i64 0) 1 8 Tryz.underlying25 Tryz.underlying3 hi0 hz0 hz1 hz2 rfl (by decide) (by decide) ⟨g,0,none⟩ k l0.length (inner.take (k * 1)) htl
  (fun j u hu=>by
   have hlt:j < (inner.take (k * 1)).length:=(List.getElem?_eq_some_iff.1 hu).1
   rw [add_plain,cell_of_row w g _ cur 3 (0,0) hh,← Array.getElem?_toList,hcur _ (by omega)]
   rw [List.getElem?_take,if_pos (by omega)] at hu
   exact hu) .i64 (l0.length + 1 - k) (by omega) (by omega) (by omega)
 have hkn:k + (l0.length + 1 - k)=l0.length + 1:=by omega
 have hcast:((l0.length + 1 - k:Nat):Int)=(l0.length:Int) + 1 - (k:Int):=by omega
 rw [hkn,hcast] at hap
 rw [hkn] at hC
 obtain ⟨W1,hW1⟩:∃ W1,W1=w.drew.alloc (.cells cells 3):=⟨_,rfl⟩
 have hG:W1.heap[w.heap.size]?=some (.cells cells 3 (0,0)):=by rw [hW1];exact heap_alloc_new w.drew _
 have hold:∀ q,q < w.heap.size→W1.heap[q]?=w.heap[q]?:=fun q hq=>by rw [hW1];exact heap_alloc_old w.drew _ hq
 have hgr1:w.grownBy W1 none:=by rw [hW1];exact ⟨rfl,rfl,rfl,by simp,fun q hq _=>heap_alloc_old w.drew _ hq⟩
 rw [← hW1] at hap
 have hcp2:∀ ty dc,(Builtin.copy_ #[25,25] ty #[.slice (some ⟨w.heap.size,k * 1,none⟩) (l0.length + 1 - k) dc,.slice (some ⟨gv,0,none⟩) 1 cv]).run Tryz.prog W1=.ok (goInt ((1:Nat):Int)) (W1.setCells w.heap.size (k * 1) innv):=fun ty dc =>
  impl_inserted.cp W1 25 ty 3 1 w.heap.size (k * 1) (l0.length + 1 - k) dc ⟨gv,0,none⟩ 1 cv 1 innv Tryz.underlying25 hsz (by simp only [Nat.min_def];split <;> omega) (by rw [hivl])
   (hcv W1 ((hold gv hgvl).trans hhv))
   (fun j hj=>by rw [cell_of_row W1 w.heap.size _ cells 3 (0,0) hG];simp;omega) (fun j _=>blk_frozen (w:=W1) hG _) h1v
 obtain ⟨W2,hW2⟩:∃ W2,W2=W1.setCells w.heap.size (k * 1) innv:=⟨_,rfl⟩
 obtain ⟨c1,hd1,hd2,hd3⟩:=setCells_row innv (k * 1) W1 cells hG (by omega)
 rw [← hW2] at hcp2 hd1
 have hg2:W2.drew.heap[g]?=some (.cells cur 3 (0,0)):=by
  show W2.heap[g]?=_
  rw [hW2,setCells_far _ _ g (by omega),hold g hgl,hh]
 have hcp1:∀ ty dc sc,(Builtin.copy_ #[25,25] ty #[.slice (some ⟨w.heap.size,(k + 1) * 1,none⟩) (l0.length - k) dc,.slice (some ⟨g,k * 1,none⟩) (l0.length - k) sc]).run Tryz.prog W2.drew=.ok (goInt ((l0.length - k:Nat):Int)) (W2.drew.setCells w.heap.size ((k + 1) * 1) (inner.drop (k * 1))):=fun ty dc sc =>
  impl_inserted.cp W2.drew 25 ty 3 1 w.heap.size ((k + 1) * 1) (l0.length - k) dc ⟨g,k * 1,none⟩ (l0.length - k) sc (l0.length - k) (inner.drop (k * 1)) Tryz.underlying25 hsz (by simp only [Nat.min_def];split <;> omega) hdl
   (fun j v hj=>by
    have hlt:j < (inner.drop (k * 1)).length:=(List.getElem?_eq_some_iff.1 hj).1
    rw [add_at,cell_of_row W2.drew g _ cur 3 (0,0) hg2,← Array.getElem?_toList,hcur _ (by omega)]
    rwa [List.getElem?_drop] at hj)
   (fun j hj=>by rw [cell_of_row W2.drew w.heap.size _ c1 3 (0,0) hd1];simp;omega) (fun j _=>blk_frozen (w:=W2.drew) hd1 _) (fun v hv=>h1i v (List.mem_of_mem_drop hv))
 have hin2:k * 1 + innv.length=(k + 1) * 1:=by omega
 obtain ⟨c2,he1,he2,he3⟩:=impl_inserted.two (e:=3) (g:=w.heap.size) W1 W2.drew cells innv (inner.drop (k * 1)) (k * 1) hG (by rw [hW2];rfl) (by omega)
 rw [hin2] at he1
 obtain ⟨W3,hW3⟩:∃ W3,W3=W2.drew.setCells w.heap.size ((k + 1) * 1) (inner.drop (k * 1)):=⟨_,rfl⟩
 rw [← hW3] at hcp1 he1
 have hB3:Below base w0 W3:=by
  refine Below.grown hb ?_ hbase (row:=none) (fun q hq=>by cases hq)
  obtain ⟨s1,s2,s3,s4⟩:=setCells_same w.heap.size (inner.drop (k * 1)) ((k + 1) * 1) W2.drew
  obtain ⟨t1,t2,t3,t4⟩:=setCells_same w.heap.size innv (k * 1) W1
  rw [hW3]
  refine ⟨s1.trans ?_,s2.trans ?_,s3.trans ?_,?_,fun q hql _=>?_⟩
  ·
   show W2.os=_;rw [hW2];exact t1.trans hgr1.os
  ·
   show W2.tape=_;rw [hW2];exact t2.trans hgr1.tape
  ·
   show W2.output=_;rw [hW2];exact t3.trans hgr1.output
  ·
   rw [s4];show _≤W2.heap.size;rw [hW2,t4];exact hgr1.size
  ·
   rw [setCells_far _ _ q (by omega)];show W2.heap[q]?=_;rw [hW2,setCells_far _ _ q (by omega)];exact hold q hql
 have hR3:Kd.R (Kd.int .i64) 3 W3 base (fun _=>True) (.slice (some ⟨w.heap.size,0,none⟩) (l0.length + 1) C) (l0.take k ++ [x] ++ l0.drop k) :=
  impl_inserted.mk (Kd.int .i64) 3 W3 base w.heap.size C k c2 l0 x inner innv (hr.imp_ (fun _ _ hp=>impl_inserted.flat hp)) (impl_inserted.flat hx0) (by omega) hbase he1 hC hCm (by rw [he2];exact hCs) (by
   have h6:k * 1 + innv.length + (inner.drop (k * 1)).length=(l0.length + 1) * 1:=by omega
   rw [h6,hCt] at he3
   exact he3)
 exact ⟨C,W1,W2,W3,hC,hap,hcp2,hcp1,hR3,hB3⟩
set_option maxHeartbeats 4000000 in
set_option maxRecDepth 100000 in
theorem impl_inserted.at_grow (base g gv cv k:Nat) (l0:List Int) (x:Int) (ok okv:Nat→Prop) (w0 w:World) (hlim:l0.length < 4398046511104) (hk:k < l0.length) (hne:gv≠g)
  (HO:Kd.R (Kd.int .i64) 3 w base ok (.slice (some ⟨g,0,none⟩) l0.length l0.length) l0) (HV:Kd.R (Kd.int .i64) 3 w base okv (.slice (some ⟨gv,0,none⟩) 1 cv) [x]) (hb:Below base w0 w) (hbase:base≤w.heap.size) :
  Calls Tryz.prog 65 #[.slice (some ⟨g,0,none⟩) l0.length l0.length,.int .i64 (k:Int),.slice (some ⟨gv,0,none⟩) 1 cv] w fun e w'=>∃ v0_:Value,e=.returned v0_∧Kd.R (Kd.int .i64) 3 w' base (fun _=>True) v0_ (l0.take k ++ [x] ++ l0.drop k)∧Below base w0 w':=by
 obtain ⟨C,W1,W2,W3,hC,hap,hcp2,hcp1,hR3,hB3⟩:=impl_inserted.grow_facts base g gv cv k l0 x ok okv w0 w hlim hk hne HO HV hb hbase
 have HR3:=Aside0.mk hR3
 have HB3:=Aside0.mk hB3
 simp only [Nat.mul_one] at hcp1 hcp2
 have hlen:l0.length≤9223372036854775807:=by omega
 have n1:(l0.length=k)=False:=eq_false (by omega)
 have n1b:(C=k)=False:=eq_false (by omega)
 have n1c:(C=k + 1)=False:=eq_false (by omega)
 have n2:(k=l0.length)=False:=eq_false (by omega)
 have n3:((k:Int) == (l0.length:Int))=false:=by simp;omega
 have n4:IntKind.i64.wrap ((l0.length:Int) + 1)=(l0.length:Int) + 1:=by rw [IntKind.wrap_i64];omega
 have n5:IntKind.i64.wrap ((l0.length:Int) + 1 - (k:Int))=(l0.length:Int) + 1 - (k:Int):=by rw [IntKind.wrap_i64];omega
 have n6:IntKind.i64.wrap ((k:Int) + 1)=(k:Int) + 1:=by rw [IntKind.wrap_i64];omega
 have n7:k≤l0.length:=by omega
 have n8:decide ((l0.length:Int) < (l0.length:Int) + 1)=true:=decide_eq_true (by omega)
 have n9:(0:Int)≤(l0.length:Int) + 1:=by omega
 have n12:((k:Int) + 1).toNat=k + 1:=by omega
 have n13:(0:Int)≤(k:Int) + 1:=by omega
 have n14:(k:Int)≤(l0.length:Int) + 1:=by omega
 have n15:k≤l0.length + 1:=by omega
 have mixed:Tryz.prog.follows Departure.mixedOrders=true:=by kernel_rfl
 clear hR3 hB3 HO HV hb hbase hne hk hlim hC
 go_enter Tryz.func65,Tryz.ntmps65
 go_wp2_with (first
  | (at_builtin;refine impl_inserted.wapp _ rfl _ _ _ _ rfl _ _ rfl rfl hap ?_)
  | (at_builtin;refine impl_inserted.wcopy _ rfl _ _ 25 25 rfl _ _ rfl rfl (hcp2 _ _) ?_))
 go_region_law_o (refine impl_inserted.scopy rfl _ _ 25 25 rfl _ _ (by simp [Act.eval,Act.put]) (by simp [Act.eval,Act.put]) (hcp1 _ _ _) ?_)
 go_wp2
 go_ret
 exact ⟨_,rfl,HR3.out,HB3.out⟩
set_option maxHeartbeats 4000000 in
set_option maxRecDepth 100000 in
theorem impl_inserted.room_facts (base g c gv cv k:Nat) (l0:List Int) (x:Int) (ok okv:Nat→Prop) (w0 w:World) (hlim:l0.length < 8796093022208) (hk:k < l0.length) (hc:l0.length < c) (hne:gv≠g)
  (HO:Kd.R (Kd.int .i64) 3 w base ok (.slice (some ⟨g,0,none⟩) l0.length c) l0) (HV:Kd.R (Kd.int .i64) 3 w base okv (.slice (some ⟨gv,0,none⟩) 1 cv) [x]) (hb:Below base w0 w) (hbase:base≤w.heap.size) :
  ∃ W1 W2:World,(∀ ty dc sc,(Builtin.copy_ #[25,25] ty #[.slice (some ⟨g,(k + 1) * 1,none⟩) (l0.length - k) dc,.slice (some ⟨g,k * 1,none⟩) (l0.length + 1 - k) sc]).run Tryz.prog w.drew=.ok (goInt ((l0.length - k:Nat):Int)) W1) ∧
   (∀ ty dc,(Builtin.copy_ #[25,25] ty #[.slice (some ⟨g,k * 1,none⟩) (l0.length + 1 - k) dc,.slice (some ⟨gv,0,none⟩) 1 cv]).run Tryz.prog W1=.ok (goInt ((1:Nat):Int)) W2) ∧
   Kd.R (Kd.int .i64) 3 W2 base (fun _=>True) (.slice (some ⟨g,0,none⟩) (l0.length + 1) c) (l0.take k ++ [x] ++ l0.drop k)∧Below base w0 W2 ∧
   (∀ lb cb,(callFunc 71 #[.slice (some ⟨gv,0,none⟩) 1 cv,.slice (some ⟨g,(k + 1) * 1,none⟩) lb cb]).run Tryz.prog w=.ok (.value (.bool false)) w):=by
 obtain ⟨_,inner,hown,hr⟩:=HO
 obtain ⟨_,innv,hownv,hrv⟩:=HV
 rcases hown.2 with ⟨hv,_⟩|⟨g',c',cur,hv,hbg,hh,_,hcm,hcs,htake⟩
 ·
  cases hv
 injection hv with ha _ hcc
 injection ha with ha
 injection ha with hgg
 subst hgg;subst hcc
 rcases hownv.2 with ⟨hv,_⟩|⟨g',c',curv,hv,hbgv,hhv,hv1,hcmv,hcsv,htakev⟩
 ·
  cases hv
 injection hv with ha _ hcc
 injection ha with ha
 injection ha with hgg
 subst hgg;subst hcc
 have hil:inner.length=l0.length * 1:=hr.1
 have hivl:innv.length=1:=by rw [hrv.1];rfl
 have hx0:=hrv.2 0 x rfl
 have hx1:(innv.drop (0 * ((Kd.int .i64)).sz)).take ((Kd.int .i64)).sz=innv:=by rw [Nat.zero_mul,List.drop_zero];exact List.take_of_length_le (Nat.le_of_eq hivl)
 rw [hx1] at hx0
 have hsz:(Tryz.prog.info? 3).map (·.size)=some 1:=by
  have h:=info3
  cases hq:Tryz.prog.info? 3 with
  | none=>rw [hq] at h;simp at h
  | some i=>rw [hq] at h;simp at h;simp [h]
 have h1i:∀ u∈inner,u.oneCell'=true:=impl_inserted.one hr (by decide) (fun _ _ hp=>((Kd.int .i64)).K_one (((Kd.int .i64)).K_of_M hp))
 have h1v:∀ u∈innv,u.oneCell'=true:=((Kd.int .i64)).K_one (((Kd.int .i64)).K_of_M hx0)
 have hsc:cur.size=c * 1:=hcs
 have hscv:curv.size=cv * 1:=hcsv
 have hcur:∀ q,q < l0.length * 1→cur.toList[q]?=inner[q]?:=by
  intro q hq
  rw [← (show cur.toList.take (l0.length * 1)=inner from htake),List.getElem?_take,if_pos hq]
 have hcv:∀ (W:World),W.heap[gv]?=some (.cells curv 3 (0,0))→∀ j v,innv[j]?=some v→W.cell? ((⟨gv,0,none⟩:Addr).add j)=some v:=by
  intro W hW j v hj
  have hlt:j < innv.length:=(List.getElem?_eq_some_iff.1 hj).1
  rw [add_plain,cell_of_row W gv _ curv 3 (0,0) hW,← Array.getElem?_toList]
  rw [← (show curv.toList.take ([x].length * 1)=innv from htakev),List.getElem?_take] at hj
  rw [if_pos (by simp;omega)] at hj
  exact hj
 have hdl:(inner.drop (k * 1)).length=(l0.length - k) * 1:=by rw [List.length_drop,hil];omega
 have hcp1:∀ ty dc sc,(Builtin.copy_ #[25,25] ty #[.slice (some ⟨g,(k + 1) * 1,none⟩) (l0.length - k) dc,.slice (some ⟨g,k * 1,none⟩) (l0.length + 1 - k) sc]).run Tryz.prog w.drew=.ok (goInt ((l0.length - k:Nat):Int)) (w.drew.setCells g ((k + 1) * 1) (inner.drop (k * 1))):=fun ty dc sc =>
  impl_inserted.cp w.drew 25 ty 3 1 g ((k + 1) * 1) (l0.length - k) dc ⟨g,k * 1,none⟩ (l0.length + 1 - k) sc (l0.length - k) (inner.drop (k * 1)) Tryz.underlying25 hsz (by simp only [Nat.min_def];split <;> omega) hdl
   (fun j v hj=>by
    have hlt:j < (inner.drop (k * 1)).length:=(List.getElem?_eq_some_iff.1 hj).1
    rw [add_at,cell_of_row w.drew g _ cur 3 (0,0) hh,← Array.getElem?_toList,hcur _ (by omega)]
    rwa [List.getElem?_drop] at hj)
   (fun j hj=>by rw [cell_of_row w.drew g _ cur 3 (0,0) hh];simp;omega) (fun j _=>blk_frozen (w:=w.drew) hh _) (fun v hv=>h1i v (List.mem_of_mem_drop hv))
 obtain ⟨c1,hd1,hd2,hd3⟩:=setCells_row (inner.drop (k * 1)) ((k + 1) * 1) w.drew cur hh (by omega)
 have hfv:(w.drew.setCells g ((k + 1) * 1) (inner.drop (k * 1))).heap[gv]?=some (.cells curv 3 (0,0)):=(setCells_far _ _ gv hne).trans hhv
 obtain ⟨W1,hW1⟩:∃ W1,W1=w.drew.setCells g ((k + 1) * 1) (inner.drop (k * 1)):=⟨_,rfl⟩
 rw [← hW1] at hcp1 hd1 hfv
 have hcp2:∀ ty dc,(Builtin.copy_ #[25,25] ty #[.slice (some ⟨g,k * 1,none⟩) (l0.length + 1 - k) dc,.slice (some ⟨gv,0,none⟩) 1 cv]).run Tryz.prog W1=.ok (goInt ((1:Nat):Int)) (W1.setCells g (k * 1) innv):=fun ty dc =>
  impl_inserted.cp W1 25 ty 3 1 g (k * 1) (l0.length + 1 - k) dc ⟨gv,0,none⟩ 1 cv 1 innv Tryz.underlying25 hsz (by simp only [Nat.min_def];split <;> omega) (by rw [hivl])
   (hcv W1 hfv)
   (fun j hj=>by rw [cell_of_row W1 g _ c1 3 (0,0) hd1];simp;omega) (fun j _=>blk_frozen (w:=W1) hd1 _) h1v
 have hin2:k * 1 + innv.length=(k + 1) * 1:=by omega
 obtain ⟨c2,he1,he2,he3⟩:=impl_inserted.two' (e:=3) (g:=g) w.drew cur innv (inner.drop (k * 1)) (k * 1) hh (by omega)
 rw [hin2,← hW1] at he1
 obtain ⟨W2,hW2⟩:∃ W2,W2=W1.setCells g (k * 1) innv:=⟨_,rfl⟩
 rw [← hW2] at hcp2 he1
 have hB2:Below base w0 W2:=by
  refine Below.grown hb ?_ hbase (row:=some g) (fun q hq=>by injection hq with hq;omega)
  obtain ⟨s1,s2,s3,s4⟩:=setCells_same g innv (k * 1) W1
  obtain ⟨t1,t2,t3,t4⟩:=setCells_same g (inner.drop (k * 1)) ((k + 1) * 1) w.drew
  rw [hW2]
  refine ⟨s1.trans (by rw [hW1];exact t1),s2.trans (by rw [hW1];exact t2),s3.trans (by rw [hW1];exact t3),by rw [s4,hW1,t4];exact Nat.le_refl _,fun q _ hq=>?_⟩
  rw [setCells_far _ _ q (fun he=>hq (by rw [he])),hW1,setCells_far _ _ q (fun he=>hq (by rw [he]))]
  rfl
 have hR2:Kd.R (Kd.int .i64) 3 W2 base (fun _=>True) (.slice (some ⟨g,0,none⟩) (l0.length + 1) c) (l0.take k ++ [x] ++ l0.drop k) :=
  impl_inserted.mk (Kd.int .i64) 3 W2 base g c k c2 l0 x inner innv (hr.imp_ (fun _ _ hp=>impl_inserted.flat hp)) (impl_inserted.flat hx0) (by omega) hbg he1 (by omega) hcm (by rw [he2,hcs]) (by
   have h5:cur.toList.take (k * 1)=inner.take (k * 1):=by
    rw [← (show cur.toList.take (l0.length * 1)=inner from htake),List.take_take,Nat.min_eq_left (by omega)]
   have h6:k * 1 + innv.length + (inner.drop (k * 1)).length=(l0.length + 1) * 1:=by omega
   rw [h6,h5] at he3
   exact he3)
 have hov:∀ lb cb,(callFunc 71 #[.slice (some ⟨gv,0,none⟩) 1 cv,.slice (some ⟨g,(k + 1) * 1,none⟩) lb cb]).run Tryz.prog w=.ok (.value (.bool false)) w:=fun lb cb=>by
  rw [run_callFunc_extern Tryz.func71 (by kernel_rfl) (by kernel_rfl) (by kernel_rfl) (e:=Extern.SlicesOverlaps.overlaps #[25,25] #[4]) (by kernel_rfl),
   Lib.run_overlaps_apart w 25 4 3 Tryz.underlying25 1 Tryz.sizeOf3 ⟨gv,0,none⟩ ⟨g,(k + 1) * 1,none⟩ 1 cv lb cb hne 3 3 curv.size cur.size (by simp [World.shape?,hhv]) (by simp [World.shape?,hh]) (by omega) (blk_frozen hhv _) (blk_frozen hhv _)]
  rfl
 exact ⟨W1,W2,hcp1,hcp2,hR2,hB2,hov⟩
set_option maxHeartbeats 4000000 in
set_option maxRecDepth 100000 in
theorem impl_inserted.at_room (base g c gv cv k:Nat) (l0:List Int) (x:Int) (ok okv:Nat→Prop) (w0 w:World) (hlim:l0.length < 8796093022208) (hk:k < l0.length) (hc:l0.length < c) (hne:gv≠g)
  (HO:Kd.R (Kd.int .i64) 3 w base ok (.slice (some ⟨g,0,none⟩) l0.length c) l0) (HV:Kd.R (Kd.int .i64) 3 w base okv (.slice (some ⟨gv,0,none⟩) 1 cv) [x]) (hb:Below base w0 w) (hbase:base≤w.heap.size) :
  Calls Tryz.prog 65 #[.slice (some ⟨g,0,none⟩) l0.length c,.int .i64 (k:Int),.slice (some ⟨gv,0,none⟩) 1 cv] w fun e w'=>∃ v0_:Value,e=.returned v0_∧Kd.R (Kd.int .i64) 3 w' base (fun _=>True) v0_ (l0.take k ++ [x] ++ l0.drop k)∧Below base w0 w':=by
 obtain ⟨W1,W2,hcp1,hcp2,hR2,hB2,hov⟩:=impl_inserted.room_facts base g c gv cv k l0 x ok okv w0 w hlim hk hc hne HO HV hb hbase
 have HR2:=Aside0.mk hR2
 have HB2:=Aside0.mk hB2
 have HK:=Aside0.mk hk
 simp only [Nat.mul_one] at hcp1 hcp2 hov
 have hlen:l0.length≤9223372036854775807:=by omega
 have n1:(c=k)=False:=eq_false (by omega)
 have n1b:(c=k + 1)=False:=eq_false (by omega)
 have n2:(k=l0.length)=False:=eq_false (by omega)
 have n3:((k:Int) == (l0.length:Int))=false:=by simp;omega
 have n4:IntKind.i64.wrap ((l0.length:Int) + 1)=(l0.length:Int) + 1:=by rw [IntKind.wrap_i64];omega
 have n6:IntKind.i64.wrap ((k:Int) + 1)=(k:Int) + 1:=by rw [IntKind.wrap_i64];omega
 have n7:k≤l0.length:=by omega
 have n8:decide ((c:Int) < (l0.length:Int) + 1)=false:=decide_eq_false (by omega)
 have n9:(0:Int)≤(l0.length:Int) + 1:=by omega
 have n10:(l0.length:Int) + 1≤(c:Int):=by omega
 have n11:((l0.length:Int) + 1).toNat=l0.length + 1:=by omega
 have n12:((k:Int) + 1).toNat=k + 1:=by omega
 have n13:(0:Int)≤(k:Int) + 1:=by omega
 have n14:(k:Int)≤(l0.length:Int) + 1:=by omega
 have n15:k≤l0.length + 1:=by omega
 have n16:l0.length + 1≤c:=by omega
 have mixed:Tryz.prog.follows Departure.mixedOrders=true:=by kernel_rfl
 clear hR2 hB2 HO HV hb hbase hne hk hc hlim
 go_enter Tryz.func65,Tryz.ntmps65
 go_wp2_with (simp only [hov])
 go_region_law_o (refine impl_inserted.scopy rfl _ _ 25 25 rfl _ _ (by simp [Act.eval,Act.put]) (by simp [Act.eval,Act.put]) (hcp1 _ _ _) ?_)
 go_wp2_with (at_builtin;refine impl_inserted.wcopy _ rfl _ _ 25 25 rfl _ _ rfl rfl (hcp2 _ _) ?_)
 go_ret
 exact ⟨_,rfl,HR2.out,HB2.out⟩
set_option maxHeartbeats 4000000 in
theorem impl_inserted.ins (base c gv cv k:Nat) (l0:List Int) (x:Int) (ok okv:Nat→Prop) (w0 w:World) (hlim:l0.length < 4398046511104) (A:Option Addr) (hk:k≤l0.length) (hne:∀ q,(Value.slice A l0.length c).ownBlock=some q→gv≠q)
  (HO:Kd.R (Kd.int .i64) 3 w base ok (.slice A l0.length c) l0) (HV:Kd.R (Kd.int .i64) 3 w base okv (.slice (some ⟨gv,0,none⟩) 1 cv) [x]) (hb:Below base w0 w) (hbase:base≤w.heap.size) :
  Calls Tryz.prog 65 #[.slice A l0.length c,.int .i64 (k:Int),.slice (some ⟨gv,0,none⟩) 1 cv] w fun e w'=>∃ v0_:Value,e=.returned v0_∧Kd.R (Kd.int .i64) 3 w' base (fun _=>True) v0_ (l0.take k ++ [x] ++ l0.drop k)∧Below base w0 w':=by
 by_cases hkl:k=l0.length
 ·
  subst hkl
  rw [List.take_length,List.drop_length,List.append_nil]
  exact impl_inserted.at_end base c gv cv l0 x ok okv w0 w (by omega) A HO HV hb hbase
 ·
  obtain ⟨g,cap,he,_,_,_⟩:=Kd.R_form HO (by omega)
  injection he with ha _ hcc
  subst ha;subst hcc
  have hg:=hne g (by simp [Value.ownBlock])
  have hc:=(Kd.R_reads' HO).2.1
  by_cases hcl:c=l0.length
  ·
   subst hcl
   exact impl_inserted.at_grow base g gv cv k l0 x ok okv w0 w hlim (by omega) hg HO HV hb hbase
  ·
   exact impl_inserted.at_room base g c gv cv k l0 x ok okv w0 w (by omega) (by omega) (by omega) hg HO HV hb hbase
def impl_inserted.f (k:Nat) (l0:List Int) (a1:Int):Option (List Int) :=
 if l0.length < 4398046511104 then ((slices_BinarySearch_int_int.f k l0 a1).bind fun r=>if 0≤r.1∧r.1.toNat≤l0.length then some (l0.take r.1.toNat ++ [a1] ++ l0.drop r.1.toNat) else none) else none
theorem impl_inserted.mono:∀ a0 a1 k,LeO (impl_inserted.f k a0 a1) (impl_inserted.f (k + 1) a0 a1):=by
 intro a0 a1 k
 unfold impl_inserted.f
 exact LeO.ite (LeO.bind (slices_BinarySearch_int_int.mono _ _ _) (fun _=>LeO.refl _)) (LeO.none _)
set_option maxHeartbeats 4000000 in
set_option maxRecDepth 100000 in
theorem impl_inserted.calls (k:Nat) (A0:Option Addr) (c0:Nat) (l0:List Int) (a1:Int) (r:List Int) (w:World) (hr0:Kd.C (Kd.int .i64) w A0 l0.length l0) (hc0:l0.length≤c0) (h:impl_inserted.f k l0 a1=some r) :
  Calls Tryz.prog 52 #[.slice A0 l0.length c0,.int .i64 a1] w fun e w'=>∃ v0_:Value,e=.returned (v0_)∧Kd.R (Kd.int .i64) 3 w' w.heap.size (fun _=>True) v0_ r∧Below w.heap.size w w':=by
 have HR0:=Aside0.mk hr0
 have HC0:=Aside0.mk hc0
 have hlen:l0.length≤9223372036854775807:=hr0.2.1
 have mixed:Tryz.prog.follows Departure.mixedOrders=true:=by kernel_rfl
 clear hr0 hc0
 unfold impl_inserted.f at h
 have hlim:=ifN h
 replace h:=ifT h
 obtain ⟨⟨p,b⟩,hbs,h⟩:=Option.bind_eq_some_iff.1 h
 have hp:0≤p∧p.toNat≤l0.length:=ifN h
 replace h:=ifT h
 obtain ⟨kk,rfl⟩:=Int.eq_ofNat_of_zero_le hp.1
 replace hp:kk≤l0.length:=hp.2
 replace h:=Option.some.inj h
 rw [show (((kk:Nat):Int),b).1.toNat=kk from rfl] at h
 have HE:=Aside0.mk h
 have HL:=Aside0.mk hlim
 have HK:=Aside0.mk hp
 have HBS:=Aside0.mk hbs
 have hcl:slices_Clone_int_int.f l0=some l0:=by
  unfold slices_Clone_int_int.f
  exact if_pos (by omega)
 have HCL:=Aside0.mk hcl
 clear h hlim hp hbs hcl
 go_enter Tryz.func52,Tryz.ntmps52
 go_wp2_with (first
  | (go_at_call 64;refine (slices_BinarySearch_int_int.calls k A0 c0 l0 a1 kk b _ HR0.out HC0.out HBS.out).mono ?_;rintro e w1 ⟨rfl,hb1⟩;have B1:=Aside0.mk (show Below w.heap.size w w1 from hb1.below);clear hb1)
  | (go_at_call 41;refine (slices_Clone_int_int.calls A0 c0 l0 l0 _ ?s1 HC0.out HCL.out).mono ?_;(case s1=>exact Kd.C_below HR0.out B1.out);rintro e w2 ⟨v2,rfl,ho2,hb2⟩;obtain ⟨Ao,co,eo⟩:=Kd.R_slice ho2;subst eo;have B2:=Aside0.mk (below_step B1.out hb2);have O2:=Aside0.mk (Kd.R_lower ho2 B1.out.size);have V2:=Aside0.mk (show Kd.R (Kd.int .i64) 3 (w2.alloc (.cells #[.int .i64 a1] 3)) w.heap.size (fun _=>True) (.slice (some ⟨w2.heap.size,0,none⟩) 1 1) [a1] from ⟨fun _ _=>trivial,[.int .i64 a1],World.ownsRow_lit w2 _ 1 B2.out.size (by decide) rfl,Reps.front rfl rfl (Reps.none _ _) rfl⟩);clear ho2 hb2)
  | (go_at_call 65;refine (impl_inserted.ins w.heap.size co w2.heap.size 1 kk l0 a1 (fun _=>True) (fun _=>True) w _ HL.out Ao HK.out ?t2 ?t3 ?t4 ?t5 ?t6).mono ?_;(case t2=>(intro q hq he;have h1:=Kd.R_lt O2.out q hq;omega));(case t3=>exact Kd.R_alloc O2.out _);(case t4=>exact V2.out);(case t5=>exact below_alloc B2.out _);(case t6=>exact (below_alloc B2.out _).size);rintro e w5 ⟨v5,rfl,ho5,hb5⟩;rw [HE.out] at ho5;have O5:=Aside0.mk ho5;have B5:=Aside0.mk hb5;clear ho5 hb5))
 go_ret
 exact ⟨_,rfl,O5.out,B5.out⟩

/-! ### impl_AddToStage: function 33 -/
def impl_AddToStage.l0:Nat→List (S58)→List Int→List (S58)→Int→Int→Option (List Int)
 | 0,_,_,_,_,_=>none
 | k + 1,x0,x5,x16,x17,x18=>if x18 < x17 then (if 0≤x18 then (if x18 < (x16.length:Int) then ((slices_Contains_int_int.f k x5 ((rd_T58 x16 x18).f0)).bind fun t712=>(if t712=true then (impl_AddToStage.l0 k x0 x5 x16 x17 (wrap64 (x18 + 1))) else ((impl_inserted.f k x5 ((rd_T58 x16 x18).f0)).bind fun t713=>((impl_IsTogether.f k x0 t713).bind fun t716=>(if t716=true then (impl_AddToStage.l0 k x0 t713 x16 x17 (wrap64 (x18 + 1))) else (impl_AddToStage.l0 k x0 x5 x16 x17 (wrap64 (x18 + 1)))))))) else (none)) else (none)) else (some x5)
def impl_AddToStage.f (k:Nat) (l0:List (S58)) (l1:List Int):Option (List Int):=(slices_Clone_int_int.f l1).bind fun t706=>((impl_IsTogether.f k l0 l1).bind fun t709=>(if t709=true then (impl_AddToStage.l0 k l0 t706 l0 (l0.length:Int) 0) else (some t706)))
theorem impl_AddToStage.mono_l:∀ k,(∀ y0 y1 y2 y3 y4,LeO (impl_AddToStage.l0 k y0 y1 y2 y3 y4) (impl_AddToStage.l0 (k + 1) y0 y1 y2 y3 y4))
 | 0=>fun _ _ _ _ _ r h=>by simp [impl_AddToStage.l0] at h
 | k + 1=>by
  have ih0:=impl_AddToStage.mono_l k
  ·intro y0 y1 y2 y3 y4;unfold impl_AddToStage.l0;exact mz4 ih0 impl_IsTogether.mono impl_inserted.mono slices_Contains_int_int.mono
theorem impl_AddToStage.mono:∀ a0 a1 k,LeO (impl_AddToStage.f k a0 a1) (impl_AddToStage.f (k + 1) a0 a1):=by
 intro a0 a1 k;have ih0:=impl_AddToStage.mono_l k;unfold impl_AddToStage.f;exact mz4 ih0 impl_IsTogether.mono impl_inserted.mono slices_Contains_int_int.mono
set_option maxHeartbeats 8000000 in
set_option maxRecDepth 100000 in
theorem impl_AddToStage.calls (k:Nat) (A0:Option Addr) (c0:Nat) (l0:List (S58)) (A1:Option Addr) (c1:Nat) (l1:List Int) (r:List Int) (w:World) (hr0:Kd.C k58 w A0 l0.length l0) (hc0:l0.length≤c0) (hr1:Kd.C (Kd.int .i64) w A1 l1.length l1) (hc1:l1.length≤c1) (h:impl_AddToStage.f k l0 l1=some r) :
  Calls Tryz.prog 33 #[.slice A0 l0.length c0,.slice A1 l1.length c1] w fun e w'=>∃ v0_:Value,e=.returned (v0_)∧Kd.R (Kd.int .i64) 3 w' w.heap.size (fun _=>True) v0_ r∧Below w.heap.size w w':=by
 have hu58:=Tryz.underlying58;have HR0:=am hr0;have HC0:=am hc0;clear hr0 hc0;have HR1:=am hr1;have HC1:=am hc1;clear hr1 hc1;have HB:=am (Below.refl w.heap.size w);unfold impl_AddToStage.f at h;have H:=h;clear h;obtain ⟨t706,A3,H⟩:=bindE H;try dsimp only at H
 obtain ⟨t709,A4,H⟩:=bindE H;try dsimp only at H
 by_cases c5:t709=true
 ·subst c5;rw [if_pos rfl] at H;have H':=am H;clear H;go_enter Tryz.func33,Tryz.ntmps33;go_wp2_with (first|((with_reducible refine gc 41 ?_);refine gL (some 10) Tryz.func41 #[.slice A1 l1.length c1] ?_;(with_reducible refine (slices_Clone_int_int.calls _ _ l1 t706 _ ?_ ?_ A3.out).mono ?_);exact cO HR1;exact HC1.out;rintro e w6 ⟨v707,rfl,ho0,hb⟩;refine ⟨_,rfl,?_⟩;have HO708:=rl w ho0;replace HB:=bs HB hb;(try clear hb);(try clear ho0))|((with_reducible refine gc 24 ?_);refine gL (some 13) Tryz.func24 #[.slice A0 l0.length c0,.slice A1 l1.length c1] ?_;(with_reducible refine (impl_IsTogether.calls k _ _ l0 _ _ l1 true _ ?_ ?_ ?_ ?_ A4.out).mono ?_);exact cB HR0;exact HC0.out;exact cB HR1;exact HC1.out;rintro e w7 ⟨rfl,hb⟩;refine ⟨_,rfl,?_⟩;replace HO708:=rb HO708 hb;replace HB:=bs HB hb;(try clear hb)));go_loopg [5,18] k (fun kq v5 v18 w'=>∃ (x5_1:List Int) (x18_1:Int),v18=.int .i64 x18_1∧Aside0 (impl_AddToStage.l0 kq l0 x5_1 l0 (l0.length:Int) x18_1=some r)∧Aside0 (kq≤k)∧Aside0 (Kd.R (Kd.int .i64) 3 w' w.heap.size (fun _=>True) v5 x5_1)∧Aside0 (Below w.heap.size w w'))
  case atStart=>exact ⟨(t706),(0),rS,H',⟨Nat.le_refl _⟩,⟨rK HO708⟩,⟨bA⟩⟩
  case round =>
   clear H';obtain ⟨x5_1,x18_1,rfl,HA,HK1,HO_5,HB⟩:=hrel
   cases gk with
   | zero=>exact absurd HA.out (by simp [impl_AddToStage.l0])
   | succ k1 =>
    have H:=HA.out;clear HA;simp only [impl_AddToStage.l0] at H;by_cases c8:x18_1 < (l0.length:Int)
    ·rw [if_pos c8] at H;have c8b0:=dt c8;clear c8;have c9b0:=ifC H;replace H:=ifT H;have c10b0:=ifC H;replace H:=ifT H;obtain ⟨t712,A11,H⟩:=bindE H;try dsimp only at H
     by_cases c12:t712=true
     ·subst c12;rw [if_pos rfl] at H;have H':=am H;clear H;obtain ⟨p710,q710⟩:=pq x18_1 l0;obtain ⟨ad710,e710,hx710_0,hx710_1,hx710_2,hx710_3⟩:=at_T58 (Kd.C_below HR0.out HB.out) x18_1 p710 q710;cases e710;obtain ⟨p710,q710⟩:=eT p710 q710;go_wp2_with (first|((with_reducible refine gd 7 ?_);refine bF w 7 #[.int .i64 0,.int .i64 0,.int .i64 0,.int .i64 0] 58 ?_;rintro gb711 w13 BK711 GW711 GE711 hb hg;replace HO_5:=rb HO_5 hb;replace HB:=bs HB hb;clear hb hg;obtain ⟨_,_,_,_,_,_,_,_⟩:=blkc4 BK711;obtain ⟨Ao15,co15,eo15⟩:=Kd.R_slice HO_5.out;subst eo15)|((with_reducible refine gc 29 ?_);refine gL (some 25) Tryz.func29 #[.slice Ao15 x5_1.length co15,.int .i64 ((rd_T58 l0 x18_1).f0)] ?_;(with_reducible refine (slices_Contains_int_int.calls k1 _ _ x5_1 ((rd_T58 l0 x18_1).f0) true _ ?_ ?_ A11.out).mono ?_);(focus refine (Kd.R_reads' (e:=3) (base:=w.heap.size) (ok:=fun k_=>True) (n:=x5_1.length) (c:=co15) ?_).2.2;exact (rf HO_5 BK711));exact (Kd.R_reads' HO_5.out).2.1;rintro e w' ⟨rfl,⟨nd,rfl⟩⟩;refine ⟨_,rfl,?_⟩));go_roundg k1
      case measure=>have:=HK1.out;omega
      case rel=>exact ⟨(x5_1),(wrap64 (x18_1 + 1)),rS,H',⟨by have:=HK1.out;omega⟩,⟨Kd.R_mono (rf HO_5 BK711) (fun _ hk=>trivial)⟩,⟨bG⟩⟩
     replace c12:=Bool.eq_false_iff.mpr c12;subst c12;rw [if_neg Bool.false_ne_true] at H;obtain ⟨t713,A16,H⟩:=bindE H;try dsimp only at H
     obtain ⟨t716,A17,H⟩:=bindE H;try dsimp only at H
     by_cases c18:t716=true
     ·subst c18;rw [if_pos rfl] at H;have H':=am H;clear H;obtain ⟨p710,q710⟩:=pq x18_1 l0;obtain ⟨ad710,e710,hx710_0,hx710_1,hx710_2,hx710_3⟩:=at_T58 (Kd.C_below HR0.out HB.out) x18_1 p710 q710;cases e710;obtain ⟨p710,q710⟩:=eT p710 q710;go_wp2_with (first|((with_reducible refine gd 7 ?_);refine bF w 7 #[.int .i64 0,.int .i64 0,.int .i64 0,.int .i64 0] 58 ?_;rintro gb711 w19 BK711 GW711 GE711 hb hg;replace HO_5:=rb HO_5 hb;replace HB:=bs HB hb;clear hb hg;obtain ⟨_,_,_,_,_,_,_,_⟩:=blkc4 BK711;obtain ⟨Ao21,co21,eo21⟩:=Kd.R_slice HO_5.out;subst eo21)|((with_reducible refine gc 29 ?_);refine gL (some 25) Tryz.func29 #[.slice Ao21 x5_1.length co21,.int .i64 ((rd_T58 l0 x18_1).f0)] ?_;(with_reducible refine (slices_Contains_int_int.calls k1 _ _ x5_1 ((rd_T58 l0 x18_1).f0) false _ ?_ ?_ A11.out).mono ?_);(focus refine (Kd.R_reads' (e:=3) (base:=w.heap.size) (ok:=fun k_=>True) (n:=x5_1.length) (c:=co21) ?_).2.2;exact (rf HO_5 BK711));exact (Kd.R_reads' HO_5.out).2.1;rintro e w' ⟨rfl,⟨nd,rfl⟩⟩;refine ⟨_,rfl,?_⟩)|((with_reducible refine gc 52 ?_);refine gL (some 29) Tryz.func52 #[.slice Ao21 x5_1.length co21,.int .i64 ((rd_T58 l0 x18_1).f0)] ?_;(with_reducible refine (impl_inserted.calls k1 _ _ x5_1 ((rd_T58 l0 x18_1).f0) t713 _ ?_ ?_ A16.out).mono ?_);(focus refine (Kd.R_reads' (e:=3) (base:=w.heap.size) (ok:=fun k_=>True) (n:=x5_1.length) (c:=co21) ?_).2.2;exact (rf HO_5 BK711));exact (Kd.R_reads' HO_5.out).2.1;rintro e w22 ⟨v714,rfl,ho0,hb⟩;refine ⟨_,rfl,?_⟩;have HO715:=rl w (Kd.R_new' ho0 (Kd.R_lt (rf HO_5 BK711)));replace HO_5:=am (Kd.R_elder' (rf HO_5 BK711) (Kd.R_base ho0) hb);replace BK711:=kc (o:=.cells #[.int .i64 ((rd_T58 l0 x18_1).f0),.int .i64 ((rd_T58 l0 x18_1).f1),.int .i64 ((rd_T58 l0 x18_1).f2),.int .i64 ((rd_T58 l0 x18_1).f3)] 58 (0,0)) (kp BK711) hb;replace HB:=bs HB hb;(try clear hb);(try clear ho0);obtain ⟨Ao23,co23,eo23⟩:=Kd.R_slice HO715.out;subst eo23)|((with_reducible refine gc 24 ?_);refine gL (some 32) Tryz.func24 #[.slice (some ad710) l0.length c0,.slice Ao23 t713.length co23] ?_;(with_reducible refine (impl_IsTogether.calls k1 _ _ l0 _ _ t713 true _ ?_ ?_ ?_ ?_ A17.out).mono ?_);exact cB HR0;exact HC0.out;exact cO ⟨(Kd.R_reads' HO715.out).2.2⟩;exact (Kd.R_reads' HO715.out).2.1;rintro e w24 ⟨rfl,hb⟩;refine ⟨_,rfl,?_⟩;replace HO_5:=rb HO_5 hb;replace HO715:=rb HO715 hb;replace BK711:=kb BK711 hb;replace HB:=bs HB hb;(try clear hb)));go_roundg k1
      case measure=>have:=HK1.out;omega
      case rel=>exact ⟨(t713),(wrap64 (x18_1 + 1)),rS,H',⟨by have:=HK1.out;omega⟩,⟨rm HO715 (fun _ hk=>trivial)⟩,⟨bG⟩⟩
     replace c18:=Bool.eq_false_iff.mpr c18;subst c18;rw [if_neg Bool.false_ne_true] at H;have H':=am H;clear H;obtain ⟨p710,q710⟩:=pq x18_1 l0;obtain ⟨ad710,e710,hx710_0,hx710_1,hx710_2,hx710_3⟩:=at_T58 (Kd.C_below HR0.out HB.out) x18_1 p710 q710;cases e710;obtain ⟨p710,q710⟩:=eT p710 q710;go_wp2_with (first|((with_reducible refine gd 7 ?_);refine bF w 7 #[.int .i64 0,.int .i64 0,.int .i64 0,.int .i64 0] 58 ?_;rintro gb711 w25 BK711 GW711 GE711 hb hg;replace HO_5:=rb HO_5 hb;replace HB:=bs HB hb;clear hb hg;obtain ⟨_,_,_,_,_,_,_,_⟩:=blkc4 BK711;obtain ⟨Ao27,co27,eo27⟩:=Kd.R_slice HO_5.out;subst eo27)|((with_reducible refine gc 29 ?_);refine gL (some 25) Tryz.func29 #[.slice Ao27 x5_1.length co27,.int .i64 ((rd_T58 l0 x18_1).f0)] ?_;(with_reducible refine (slices_Contains_int_int.calls k1 _ _ x5_1 ((rd_T58 l0 x18_1).f0) false _ ?_ ?_ A11.out).mono ?_);(focus refine (Kd.R_reads' (e:=3) (base:=w.heap.size) (ok:=fun k_=>True) (n:=x5_1.length) (c:=co27) ?_).2.2;exact (rf HO_5 BK711));exact (Kd.R_reads' HO_5.out).2.1;rintro e w' ⟨rfl,⟨nd,rfl⟩⟩;refine ⟨_,rfl,?_⟩)|((with_reducible refine gc 52 ?_);refine gL (some 29) Tryz.func52 #[.slice Ao27 x5_1.length co27,.int .i64 ((rd_T58 l0 x18_1).f0)] ?_;(with_reducible refine (impl_inserted.calls k1 _ _ x5_1 ((rd_T58 l0 x18_1).f0) t713 _ ?_ ?_ A16.out).mono ?_);(focus refine (Kd.R_reads' (e:=3) (base:=w.heap.size) (ok:=fun k_=>True) (n:=x5_1.length) (c:=co27) ?_).2.2;exact (rf HO_5 BK711));exact (Kd.R_reads' HO_5.out).2.1;rintro e w28 ⟨v714,rfl,ho0,hb⟩;refine ⟨_,rfl,?_⟩;have HO715:=rl w (Kd.R_new' ho0 (Kd.R_lt (rf HO_5 BK711)));replace HO_5:=am (Kd.R_elder' (rf HO_5 BK711) (Kd.R_base ho0) hb);replace BK711:=kc (o:=.cells #[.int .i64 ((rd_T58 l0 x18_1).f0),.int .i64 ((rd_T58 l0 x18_1).f1),.int .i64 ((rd_T58 l0 x18_1).f2),.int .i64 ((rd_T58 l0 x18_1).f3)] 58 (0,0)) (kp BK711) hb;replace HB:=bs HB hb;(try clear hb);(try clear ho0);obtain ⟨Ao29,co29,eo29⟩:=Kd.R_slice HO715.out;subst eo29)|((with_reducible refine gc 24 ?_);refine gL (some 32) Tryz.func24 #[.slice (some ad710) l0.length c0,.slice Ao29 t713.length co29] ?_;(with_reducible refine (impl_IsTogether.calls k1 _ _ l0 _ _ t713 false _ ?_ ?_ ?_ ?_ A17.out).mono ?_);exact cB HR0;exact HC0.out;exact cO ⟨(Kd.R_reads' HO715.out).2.2⟩;exact (Kd.R_reads' HO715.out).2.1;rintro e w30 ⟨rfl,hb⟩;refine ⟨_,rfl,?_⟩;replace HO_5:=rb HO_5 hb;replace HO715:=rb HO715 hb;replace BK711:=kb BK711 hb;replace HB:=bs HB hb;(try clear hb)));go_roundg k1
     case measure=>have:=HK1.out;omega
     case rel=>exact ⟨(x5_1),(wrap64 (x18_1 + 1)),rS,H',⟨by have:=HK1.out;omega⟩,⟨rm HO_5 (fun _ hk=>trivial)⟩,⟨bG⟩⟩
    rw [if_neg c8] at H;have c8b0:=df c8;clear c8;obtain rfl:=oj H;go_wp2;go_ret;exact ⟨_,rA,rK HO_5,bA⟩
 replace c5:=Bool.eq_false_iff.mpr c5;subst c5;rw [if_neg Bool.false_ne_true] at H;obtain rfl:=oj H;go_enter Tryz.func33,Tryz.ntmps33;go_wp2_with (first|((with_reducible refine gc 41 ?_);refine gL (some 10) Tryz.func41 #[.slice A1 l1.length c1] ?_;(with_reducible refine (slices_Clone_int_int.calls _ _ l1 t706 _ ?_ ?_ A3.out).mono ?_);exact cO HR1;exact HC1.out;rintro e w31 ⟨v707,rfl,ho0,hb⟩;refine ⟨_,rfl,?_⟩;have HO708:=rl w ho0;replace HB:=bs HB hb;(try clear hb);(try clear ho0))|((with_reducible refine gc 24 ?_);refine gL (some 13) Tryz.func24 #[.slice A0 l0.length c0,.slice A1 l1.length c1] ?_;(with_reducible refine (impl_IsTogether.calls k _ _ l0 _ _ l1 false _ ?_ ?_ ?_ ?_ A4.out).mono ?_);exact cB HR0;exact HC0.out;exact cB HR1;exact HC1.out;rintro e w32 ⟨rfl,hb⟩;refine ⟨_,rfl,?_⟩;replace HO708:=rb HO708 hb;replace HB:=bs HB hb;(try clear hb)));go_ret;exact ⟨_,rA,rK HO708,bA⟩

/-! ### impl_NextStage: function 14 -/
def impl_NextStage.f (k:Nat) (l0:List (S58)) (l1_0:List Int) (a1_1:Int) (l1_2:List Int) (a1_3:Int) (l2:List (S39)):Option (List Int):=(impl_LongestWant.f k l2 l1_0).bind fun t718=>(if t718=0 then (some (([]:List Int))) else ((impl_IsControl.f k l0 l1_0 a1_1 l1_2 a1_3).bind fun t722=>(if t722=true then ((impl_AreWants.f k l0 l2).bind fun t723=>(if t723=true then ((impl_AddToStage.f k l0 (([t718]:List Int))).bind fun t727=>(some t727)) else (some (([]:List Int))))) else (some (([]:List Int))))))
theorem impl_NextStage.mono:∀ a0 a1 a2 a3 a4 a5 k,LeO (impl_NextStage.f k a0 a1 a2 a3 a4 a5) (impl_NextStage.f (k + 1) a0 a1 a2 a3 a4 a5):=by
 intro a0 a1 a2 a3 a4 a5 k;unfold impl_NextStage.f;exact mz4 impl_AddToStage.mono impl_AreWants.mono impl_IsControl.mono impl_LongestWant.mono
set_option maxHeartbeats 8000000 in
set_option maxRecDepth 100000 in
theorem impl_NextStage.calls (k:Nat) (A0:Option Addr) (c0:Nat) (l0:List (S58)) (A1_0:Option Addr) (c1_0:Nat) (l1_0:List Int) (a1_1:Int) (A1_2:Option Addr) (c1_2:Nat) (l1_2:List Int) (a1_3:Int) (A2:Option Addr) (c2:Nat) (l2:List (S39)) (r:List Int) (w:World) (hr0:Kd.C k58 w A0 l0.length l0) (hc0:l0.length≤c0) (hr1_0:Kd.C (Kd.int .i64) w A1_0 l1_0.length l1_0) (hc1_0:l1_0.length≤c1_0) (hr1_2:Kd.C (Kd.int .i64) w A1_2 l1_2.length l1_2) (hc1_2:l1_2.length≤c1_2) (hr2:Kd.C k39 w A2 l2.length l2) (hc2:l2.length≤c2) (h:impl_NextStage.f k l0 l1_0 a1_1 l1_2 a1_3 l2=some r) :
  Calls Tryz.prog 14 #[.slice A0 l0.length c0,.agg #[.slice A1_0 l1_0.length c1_0,.int .i64 a1_1,.slice A1_2 l1_2.length c1_2,.int .i64 a1_3],.slice A2 l2.length c2] w fun e w'=>∃ v0_:Value,e=.returned (v0_)∧Kd.R (Kd.int .i64) 3 w' w.heap.size (fun _=>True) v0_ r∧Below w.heap.size w w':=by
 have hu27:=Tryz.underlying27;have HR0:=am hr0;have HC0:=am hc0;clear hr0 hc0;have HR1_0:=am hr1_0;have HC1_0:=am hc1_0;clear hr1_0 hc1_0;have HR1_2:=am hr1_2;have HC1_2:=am hc1_2;clear hr1_2 hc1_2;have HR2:=am hr2;have HC2:=am hc2;clear hr2 hc2;have HB:=am (Below.refl w.heap.size w);unfold impl_NextStage.f at h;have H:=h;clear h;obtain ⟨t718,A4,H⟩:=bindE H;try dsimp only at H
 by_cases c5:t718=0
 ·rw [if_pos c5] at H;obtain ⟨c5b0,c5b1⟩:=eI c5;clear c5;obtain ⟨y719,hy719⟩:∃ y_:List Int,y_=(([]:List Int)):=⟨_,rfl⟩;replace H:(some y719)=some r:=rH H hy719;have Ny719:=am hy719;clear hy719;obtain rfl:=oj H;go_enter Tryz.func14,Tryz.ntmps14;go_wp2_with (first|((with_reducible refine gd 4 ?_);refine bF w 4 #[.slice A1_0 l1_0.length c1_0,.int .i64 a1_1,.slice A1_2 l1_2.length c1_2,.int .i64 a1_3] 27 ?_;rintro gb717 w6 BK717 GW717 GE717 hb hg;replace HB:=bs HB hb;clear hb hg;obtain ⟨_,_,_,_,_,_,_,_⟩:=blkc4 BK717)|((with_reducible refine gc 15 ?_);refine gL (some 11) Tryz.func15 #[.slice A2 l2.length c2,.slice A1_0 l1_0.length c1_0] ?_;(with_reducible refine (impl_LongestWant.calls k _ _ l2 _ _ l1_0 t718 _ ?_ ?_ ?_ ?_ A4.out).mono ?_);exact cB HR2;exact HC2.out;exact cB HR1_0;exact HC1_0.out;rintro e w8 ⟨rfl,hb⟩;refine ⟨_,rfl,?_⟩;replace BK717:=kb BK717 hb;replace HB:=bs HB hb;(try clear hb))|((with_reducible refine gd 26 ?_);refine Kd.R_lit (Kd.int .i64) _ 3 ?hg (N:=26) ?hd (xs:=([]:List Int)) (inner:=[]) (ok:=fun _=>True) (okp:=fun _=>True) ?hr ?hp (fun _ hk=>hk) trivial (Below.refl _ _) (Nat.le_refl _) (by simp) ?_;(case hd=>rfl);(case hg=>rfl);(case hr=>first|(go_simp;done)|(go_simp;rfl));(case hp=>exact (Reps.none _ _));intro v720 w9 ho10 hb hg_ hnew_;clear hg_ hnew_;(first|rw [← Ny719.out] at ho10|(simp only [Int.reduceToNat] at ho10;rw [← Ny719.out] at ho10));have HO721:=rl w ho10;replace BK717:=kb BK717 hb;replace HB:=bs HB hb;clear hb ho10));go_ret;exact ⟨_,rA,rK HO721,bG⟩
 rw [if_neg c5] at H;obtain ⟨c5b0,c5b1⟩:=nI c5;obtain ⟨t722,A11,H⟩:=bindE H;try dsimp only at H
 by_cases c12:t722=true
 ·subst c12;rw [if_pos rfl] at H;obtain ⟨t723,A13,H⟩:=bindE H;try dsimp only at H
  by_cases c14:t723=true
  ·subst c14;rw [if_pos rfl] at H;obtain ⟨y724,hy724⟩:∃ y_:List Int,y_=(([t718]:List Int)):=⟨_,rfl⟩;replace H:=rF H hy724;have Ny724:=am hy724;clear hy724;obtain ⟨t727,A15,H⟩:=bindE H;try dsimp only at H
   obtain rfl:=oj H;go_enter Tryz.func14,Tryz.ntmps14;go_wp2_with (first|((with_reducible refine gd 4 ?_);refine bF w 4 #[.slice A1_0 l1_0.length c1_0,.int .i64 a1_1,.slice A1_2 l1_2.length c1_2,.int .i64 a1_3] 27 ?_;rintro gb717 w16 BK717 GW717 GE717 hb hg;replace HB:=bs HB hb;clear hb hg;obtain ⟨_,_,_,_,_,_,_,_⟩:=blkc4 BK717)|((with_reducible refine gc 15 ?_);refine gL (some 11) Tryz.func15 #[.slice A2 l2.length c2,.slice A1_0 l1_0.length c1_0] ?_;(with_reducible refine (impl_LongestWant.calls k _ _ l2 _ _ l1_0 t718 _ ?_ ?_ ?_ ?_ A4.out).mono ?_);exact cB HR2;exact HC2.out;exact cB HR1_0;exact HC1_0.out;rintro e w18 ⟨rfl,hb⟩;refine ⟨_,rfl,?_⟩;replace BK717:=kb BK717 hb;replace HB:=bs HB hb;(try clear hb);obtain ⟨_,_,_,_,_,_,_,_⟩:=blkc4 BK717)|(go_at_call 7;(with_reducible refine (impl_IsControl.calls k _ _ l0 _ _ l1_0 a1_1 _ _ l1_2 a1_3 true _ ?_ ?_ ?_ ?_ ?_ ?_ A11.out).mono ?_);exact cB HR0;exact HC0.out;exact cB HR1_0;exact HC1_0.out;exact cB HR1_2;exact HC1_2.out;rintro e w20 ⟨rfl,hb⟩;replace BK717:=kb BK717 hb;replace HB:=bs HB hb;(try clear hb))|(go_at_call 8;(with_reducible refine (impl_AreWants.calls k _ _ l0 _ _ l2 true _ ?_ ?_ ?_ ?_ A13.out).mono ?_);exact cB HR0;exact HC0.out;exact cB HR2;exact HC2.out;rintro e w21 ⟨rfl,hb⟩;replace BK717:=kb BK717 hb;replace HB:=bs HB hb;(try clear hb))|((with_reducible refine gd 29 ?_);refine Kd.R_lit (Kd.int .i64) _ 3 ?hg (N:=29) ?hd (xs:=([t718]:List Int)) (inner:=[.int .i64 t718]) (ok:=fun _=>True) (okp:=fun _=>True) ?hr ?hp (fun _ hk=>hk) trivial (Below.refl _ _) (Nat.le_refl _) (by simp) ?_;(case hd=>rfl);(case hg=>rfl);(case hr=>first|(go_simp;done)|(go_simp;rfl));(case hp=>exact (Reps.one (show Kd.M (Kd.int .i64) _ _ _ t718 [.int .i64 t718] from rfl) (Reps.none _ _)));intro v725 w22 ho23 hb hg_ hnew_;clear hg_ hnew_;(first|rw [← Ny724.out] at ho23|(simp only [Int.reduceToNat] at ho23;rw [← Ny724.out] at ho23));have HO726:=rl w ho23;replace BK717:=kb BK717 hb;replace HB:=bs HB hb;clear hb ho23;obtain ⟨Ao24,co24,eo24⟩:=Kd.R_slice HO726.out;subst eo24)|((with_reducible refine gc 33 ?_);refine gL (some 30) Tryz.func33 #[.slice A0 l0.length c0,.slice Ao24 y724.length co24] ?_;(with_reducible refine (impl_AddToStage.calls k _ _ l0 _ _ y724 t727 _ ?_ ?_ ?_ ?_ A15.out).mono ?_);exact cB HR0;exact HC0.out;exact cO ⟨(Kd.R_reads' HO726.out).2.2⟩;exact (Kd.R_reads' HO726.out).2.1;rintro e w25 ⟨v728,rfl,ho0,hb⟩;refine ⟨_,rfl,?_⟩;have HO729:=rl w (rn ho0 HO726);replace HO726:=re HO726 ho0 hb;replace BK717:=kb BK717 hb;replace HB:=bs HB hb;(try clear hb);(try clear ho0)));go_ret;exact ⟨_,rA,rm HO729 (fun _ hk=>trivial),bG⟩
  replace c14:=Bool.eq_false_iff.mpr c14;subst c14;rw [if_neg Bool.false_ne_true] at H;obtain ⟨y730,hy730⟩:∃ y_:List Int,y_=(([]:List Int)):=⟨_,rfl⟩;replace H:(some y730)=some r:=rH H hy730;have Ny730:=am hy730;clear hy730;obtain rfl:=oj H;go_enter Tryz.func14,Tryz.ntmps14;go_wp2_with (first|((with_reducible refine gd 4 ?_);refine bF w 4 #[.slice A1_0 l1_0.length c1_0,.int .i64 a1_1,.slice A1_2 l1_2.length c1_2,.int .i64 a1_3] 27 ?_;rintro gb717 w26 BK717 GW717 GE717 hb hg;replace HB:=bs HB hb;clear hb hg;obtain ⟨_,_,_,_,_,_,_,_⟩:=blkc4 BK717)|((with_reducible refine gc 15 ?_);refine gL (some 11) Tryz.func15 #[.slice A2 l2.length c2,.slice A1_0 l1_0.length c1_0] ?_;(with_reducible refine (impl_LongestWant.calls k _ _ l2 _ _ l1_0 t718 _ ?_ ?_ ?_ ?_ A4.out).mono ?_);exact cB HR2;exact HC2.out;exact cB HR1_0;exact HC1_0.out;rintro e w28 ⟨rfl,hb⟩;refine ⟨_,rfl,?_⟩;replace BK717:=kb BK717 hb;replace HB:=bs HB hb;(try clear hb);obtain ⟨_,_,_,_,_,_,_,_⟩:=blkc4 BK717)|(go_at_call 7;(with_reducible refine (impl_IsControl.calls k _ _ l0 _ _ l1_0 a1_1 _ _ l1_2 a1_3 true _ ?_ ?_ ?_ ?_ ?_ ?_ A11.out).mono ?_);exact cB HR0;exact HC0.out;exact cB HR1_0;exact HC1_0.out;exact cB HR1_2;exact HC1_2.out;rintro e w30 ⟨rfl,hb⟩;replace BK717:=kb BK717 hb;replace HB:=bs HB hb;(try clear hb))|(go_at_call 8;(with_reducible refine (impl_AreWants.calls k _ _ l0 _ _ l2 false _ ?_ ?_ ?_ ?_ A13.out).mono ?_);exact cB HR0;exact HC0.out;exact cB HR2;exact HC2.out;rintro e w31 ⟨rfl,hb⟩;replace BK717:=kb BK717 hb;replace HB:=bs HB hb;(try clear hb))|((with_reducible refine gd 26 ?_);refine Kd.R_lit (Kd.int .i64) _ 3 ?hg (N:=26) ?hd (xs:=([]:List Int)) (inner:=[]) (ok:=fun _=>True) (okp:=fun _=>True) ?hr ?hp (fun _ hk=>hk) trivial (Below.refl _ _) (Nat.le_refl _) (by simp) ?_;(case hd=>rfl);(case hg=>rfl);(case hr=>first|(go_simp;done)|(go_simp;rfl));(case hp=>exact (Reps.none _ _));intro v731 w32 ho33 hb hg_ hnew_;clear hg_ hnew_;(first|rw [← Ny730.out] at ho33|(simp only [Int.reduceToNat] at ho33;rw [← Ny730.out] at ho33));have HO732:=rl w ho33;replace BK717:=kb BK717 hb;replace HB:=bs HB hb;clear hb ho33));go_ret;exact ⟨_,rA,rK HO732,bG⟩
 replace c12:=Bool.eq_false_iff.mpr c12;subst c12;rw [if_neg Bool.false_ne_true] at H;obtain ⟨y733,hy733⟩:∃ y_:List Int,y_=(([]:List Int)):=⟨_,rfl⟩;replace H:(some y733)=some r:=rH H hy733;have Ny733:=am hy733;clear hy733;obtain rfl:=oj H;go_enter Tryz.func14,Tryz.ntmps14;go_wp2_with (first|((with_reducible refine gd 4 ?_);refine bF w 4 #[.slice A1_0 l1_0.length c1_0,.int .i64 a1_1,.slice A1_2 l1_2.length c1_2,.int .i64 a1_3] 27 ?_;rintro gb717 w34 BK717 GW717 GE717 hb hg;replace HB:=bs HB hb;clear hb hg;obtain ⟨_,_,_,_,_,_,_,_⟩:=blkc4 BK717)|((with_reducible refine gc 15 ?_);refine gL (some 11) Tryz.func15 #[.slice A2 l2.length c2,.slice A1_0 l1_0.length c1_0] ?_;(with_reducible refine (impl_LongestWant.calls k _ _ l2 _ _ l1_0 t718 _ ?_ ?_ ?_ ?_ A4.out).mono ?_);exact cB HR2;exact HC2.out;exact cB HR1_0;exact HC1_0.out;rintro e w36 ⟨rfl,hb⟩;refine ⟨_,rfl,?_⟩;replace BK717:=kb BK717 hb;replace HB:=bs HB hb;(try clear hb);obtain ⟨_,_,_,_,_,_,_,_⟩:=blkc4 BK717)|(go_at_call 7;(with_reducible refine (impl_IsControl.calls k _ _ l0 _ _ l1_0 a1_1 _ _ l1_2 a1_3 false _ ?_ ?_ ?_ ?_ ?_ ?_ A11.out).mono ?_);exact cB HR0;exact HC0.out;exact cB HR1_0;exact HC1_0.out;exact cB HR1_2;exact HC1_2.out;rintro e w38 ⟨rfl,hb⟩;replace BK717:=kb BK717 hb;replace HB:=bs HB hb;(try clear hb))|((with_reducible refine gd 26 ?_);refine Kd.R_lit (Kd.int .i64) _ 3 ?hg (N:=26) ?hd (xs:=([]:List Int)) (inner:=[]) (ok:=fun _=>True) (okp:=fun _=>True) ?hr ?hp (fun _ hk=>hk) trivial (Below.refl _ _) (Nat.le_refl _) (by simp) ?_;(case hd=>rfl);(case hg=>rfl);(case hr=>first|(go_simp;done)|(go_simp;rfl));(case hp=>exact (Reps.none _ _));intro v734 w39 ho40 hb hg_ hnew_;clear hg_ hnew_;(first|rw [← Ny733.out] at ho40|(simp only [Int.reduceToNat] at ho40;rw [← Ny733.out] at ho40));have HO735:=rl w ho40;replace BK717:=kb BK717 hb;replace HB:=bs HB hb;clear hb ho40));go_ret;exact ⟨_,rA,rK HO735,bG⟩

/-! ### impl_MustChange: function 12 -/
theorem impl_MustChange.has_loop (l:List Int) (x:Int) (hl:l.length≤9223372036854775807):∀ d i,i + d=l.length→∃ r:Int,slices_Index_int_int.l0 (d + 1) l x (l.length:Int) (i:Int)=some r∧(0≤r↔x∈l.drop i)
 | 0,i,h=>by
  refine ⟨-1,?_,?_⟩
  ·
   rw [slices_Index_int_int.l0,if_neg (by omega)]
  ·
   rw [List.drop_of_length_le (by omega)];simp
 | d + 1,i,h=>by
  have hi:i < l.length:=by omega
  have e:rd l (i:Int)=l[i]:=by unfold rd;simp [List.getD_eq_getElem?_getD,List.getElem?_eq_getElem hi]
  rw [slices_Index_int_int.l0,if_pos (by omega),if_pos (by omega),if_pos (by omega),e,List.drop_eq_getElem_cons hi]
  by_cases c:x=l[i]
  ·
   exact ⟨i,if_pos c,⟨fun _=>by rw [c];exact List.mem_cons_self ..,fun _=>by omega⟩⟩
  ·
   obtain ⟨r,h1,h2⟩:=impl_MustChange.has_loop l x hl d (i + 1) (by omega)
   refine ⟨r,?_,h2.trans ⟨fun hh=>List.mem_cons_of_mem _ hh,fun hh=>(List.mem_cons.1 hh).resolve_left c⟩⟩
   rw [if_neg c,show wrap64 ((i:Int) + 1)=((i + 1:Nat):Int) by unfold wrap64;omega]
   exact h1
theorem impl_MustChange.has (l:List Int) (x:Int) (hl:l.length≤9223372036854775807):slices_Contains_int_int.f (l.length + 1) l x=some (decide (x∈l)):=by
 obtain ⟨r,h1,h2⟩:=impl_MustChange.has_loop l x hl l.length 0 (by omega)
 unfold slices_Contains_int_int.f slices_Index_int_int.f
 have h1:slices_Index_int_int.l0 (l.length + 1) l x (l.length:Int) 0=some r:=h1
 rw [h1,Option.bind_some]
 congr 1
 exact decide_eq_decide.2 (by rw [List.drop_zero] at h2;exact h2)
def impl_MustChange.q (st:List Int) (x:S39):Bool:=decide (x.f0∈st)
set_option maxHeartbeats 400000 in
set_option maxRecDepth 100000 in
theorem impl_MustChange.clo (st:List Int) (g:Nat) (A1:Option Addr) (c1:Nat) (x:S39) (w:World) (hc1:st.length≤c1) (hcr:Kd.C (Kd.int .i64) w A1 st.length st) (hc:w.cell? ⟨g,0,none⟩=some (.slice A1 st.length c1)) :
  Calls Tryz.prog 31 #[.agg #[.int .i64 x.f0,.int .i64 x.f1],.pointer (some ⟨g,0,none⟩)] w fun e w'=>e=.returned (.bool (impl_MustChange.q st x))∧Below w.heap.size w w':=by
 have hu:=Tryz.underlying39
 have hu2:=Tryz.underlying27
 have hg:g < w.heap.size:=World.block_lt_of_cell? w _ hc
 have HI:=Aside0.mk (impl_MustChange.has st x.f0 hcr.2.1)
 have HR:=Aside0.mk hcr
 have HK:=Aside0.mk hc1
 clear hcr hc1
 go_enter Tryz.func31,Tryz.ntmps31
 go_wp2_with (go_at_call 29;refine (slices_Contains_int_int.calls _ _ _ st x.f0 _ _ ?s1 HK.out HI.out).mono ?_;(case s1=>first|exact HR.out|exact Kd.C_alloc HR.out _|exact Kd.C_drew (Kd.C_alloc HR.out _));rintro e w1 ⟨rfl,hb1⟩)
 go_ret
 exact ⟨rfl,below_step (below_alloc (Below.refl _ _) _) hb1.below⟩
def impl_MustChange.ix (st:List Int):List S39→Int→Int
 | [],_=>-1
 | x::l,i=>if impl_MustChange.q st x=true then i else impl_MustChange.ix st l (i + 1)
theorem impl_MustChange.ix_hit (st:List Int):∀ (l:List S39) (i:Int) (m:Nat) (hm:m < l.length),(∀ j (hj:j < m),impl_MustChange.q st (l[j]'(by omega))=false)→impl_MustChange.q st l[m]=true→impl_MustChange.ix st l i=i + m
 | [],i,m,hm,_,_=>absurd hm (by simp)
 | p::l,i,0,hm,_,h=>by
  unfold impl_MustChange.ix
  rw [if_pos (show impl_MustChange.q st p=true from h)]
  simp
 | p::l,i,m + 1,hm,hne,h=>by
  unfold impl_MustChange.ix
  have h2:impl_MustChange.q st p=false:=hne 0 (by omega)
  rw [if_neg (by rw [h2];decide),impl_MustChange.ix_hit st l (i + 1) m (by simpa using hm) (fun j hj=>hne (j + 1) (by omega)) h]
  omega
theorem impl_MustChange.ix_miss (st:List Int):∀ (l:List S39) (i:Int),(∀ j (hj:j < l.length),impl_MustChange.q st l[j]=false)→impl_MustChange.ix st l i=-1
 | [],i,_=>rfl
 | p::l,i,h=>by
  unfold impl_MustChange.ix
  have h2:impl_MustChange.q st p=false:=h 0 (by simp)
  rw [if_neg (by rw [h2];decide),impl_MustChange.ix_miss st l (i + 1) (fun j hj=>h (j + 1) (by simpa using hj))]
theorem impl_MustChange.rd_ (l:List S39) (j:Nat) (hj:j < l.length):rd_T39 l (j:Int)=l[j]:=by
 unfold rd_T39;simp [List.getD_eq_getElem?_getD,List.getElem?_eq_getElem hj]
set_option maxHeartbeats 4000000 in
set_option maxRecDepth 100000 in
theorem impl_MustChange.idx (st:List Int) (g:Nat) (A0:Option Addr) (c0:Nat) (l0:List S39) (w:World) (hr0:Kd.C k39 w A0 l0.length l0) (hc0:l0.length≤c0) (A1:Option Addr) (c1:Nat) (hc1:st.length≤c1) (hcr:Kd.C (Kd.int .i64) w A1 st.length st) (hc:w.cell? ⟨g,0,none⟩=some (.slice A1 st.length c1)) :
  Calls Tryz.prog 51 #[.slice A0 l0.length c0,.func (.func 31) #[] #[.pointer (some ⟨g,0,none⟩)]] w fun e w'=>e=.returned (.int .i64 (impl_MustChange.ix st l0 0))∧Below w.heap.size w w':=by
 have hu:=Tryz.underlying39
 have HC:=Aside0.mk hc
 have HCR:=Aside0.mk hcr
 have HK1:=Aside0.mk hc1
 clear hc hcr hc1
 have HR0:=Aside0.mk hr0
 have HC0:=Aside0.mk hc0
 have hlen:l0.length≤9223372036854775807:=hr0.2.1
 clear hr0 hc0
 have HB:=Aside0.mk (Below.refl w.heap.size w)
 go_enter Tryz.func51,Tryz.ntmps51
 go_wp2
 go_loopg [5,8] l0.length (fun gg v5 v8 w'=>∃ kk:Nat,v8=.int .i64 kk∧Aside0 (kk≤l0.length)∧Aside0 (l0.length - kk≤gg)∧Aside0 (Below w.heap.size w w')∧Aside0 (∀ j (hj:j < kk) (hl:j < l0.length),impl_MustChange.q st l0[j]=false))
 case atStart=>exact ⟨0,rfl,⟨Nat.zero_le _⟩,⟨by omega⟩,HB,⟨fun j hj=>absurd hj (Nat.not_lt_zero _)⟩⟩
 case round =>
  clear HB
  obtain ⟨kk,rfl,hk,hg,HB,HA⟩:=hrel
  by_cases hlt:kk < l0.length
  ·
   have hltz:decide ((kk:Int) < (l0.length:Int))=true:=decide_eq_true (by omega)
   have hltn:decide (kk < l0.length)=true:=decide_eq_true hlt
   have p0:(0:Int)≤(kk:Int):=by omega
   have q0:(kk:Int) < (l0.length:Int):=by omega
   have HE:=Aside0.mk (impl_MustChange.rd_ l0 kk hlt)
   obtain ⟨ad,e1,hx0,hx1⟩:=at_T39 HR0.out (kk:Int) p0 q0
   cases e1
   rw [Int.toNat_natCast] at hx0 hx1
   replace hx0:=hC HB hx0
   replace hx1:=hC HB hx1
   replace p0:=eq_true p0
   replace q0:=eq_true q0
   have hcl:=fun (w':World) (hb:Below w.heap.size w w')=>impl_MustChange.clo st g A1 c1 (rd_T39 l0 (kk:Int)) w' HK1.out (Kd.C_below HCR.out hb) ((hb.cell (World.block_lt_of_cell? w _ HC.out)).trans HC.out)
   cases hq:impl_MustChange.q st (rd_T39 l0 (kk:Int)) with
   | true =>
    rw [hq] at hcl
    have HCL:=Aside0.mk hcl
    have HQ:=Aside0.mk hq
    clear hcl hq
    go_wp2_with (go_at_call 31;refine (HCL.out _ HB.out).mono ?_;rintro e w1 ⟨rfl,hb1⟩)
    go_ret
    refine ⟨?_,below_step HB.out hb1⟩
    have hq:=HQ.out
    rw [HE.out] at hq
    rw [impl_MustChange.ix_hit st l0 0 kk hlt (fun j hj=>HA.out j hj (by omega)) hq,Int.zero_add]
    rfl
   | false =>
    rw [hq] at hcl
    have HCL:=Aside0.mk hcl
    have HQ:=Aside0.mk hq
    clear hcl hq
    go_wp2_with (go_at_call 31;refine (HCL.out _ HB.out).mono ?_;rintro e w1 ⟨rfl,hb1⟩)
    go_roundg (l0.length - (kk + 1))
    case measure=>have:=hg.out;omega
    case rel =>
     refine ⟨kk + 1,by go_num,⟨by omega⟩,⟨by omega⟩,⟨below_step HB.out hb1⟩,⟨fun j hj hl=>?_⟩⟩
     rcases Nat.lt_or_ge j kk with h3|h3
     ·
      exact HA.out j h3 hl
     ·
      have h4:j=kk:=by omega
      subst h4
      rw [← HE.out]
      exact HQ.out
  ·
   have hge:decide ((kk:Int) < (l0.length:Int))=false:=decide_eq_false (by omega)
   have hgen:decide (kk < l0.length)=false:=decide_eq_false hlt
   go_wp2
   go_ret
   refine ⟨?_,HB.out⟩
   rw [impl_MustChange.ix_miss st l0 0 (fun j hj=>HA.out j (by omega) hj)]
   rfl
set_option maxHeartbeats 400000 in
set_option maxRecDepth 100000 in
theorem impl_MustChange.cont (st:List Int) (g:Nat) (A0:Option Addr) (c0:Nat) (l0:List S39) (w:World) (hr0:Kd.C k39 w A0 l0.length l0) (hc0:l0.length≤c0) (A1:Option Addr) (c1:Nat) (hc1:st.length≤c1) (hcr:Kd.C (Kd.int .i64) w A1 st.length st) (hc:w.cell? ⟨g,0,none⟩=some (.slice A1 st.length c1)) :
  Calls Tryz.prog 30 #[.slice A0 l0.length c0,.func (.func 31) #[] #[.pointer (some ⟨g,0,none⟩)]] w fun e w'=>e=.returned (.bool (decide (0≤impl_MustChange.ix st l0 0)))∧Below w.heap.size w w':=by
 have HR0:=Aside0.mk hr0
 have HC0:=Aside0.mk hc0
 have HC:=Aside0.mk hc
 have HCR:=Aside0.mk hcr
 have HK:=Aside0.mk hc1
 clear hr0 hc0 hc hcr hc1
 go_enter Tryz.func30,Tryz.ntmps30
 go_wp2_with (go_at_call 51;refine (impl_MustChange.idx st g A0 c0 l0 _ HR0.out HC0.out A1 c1 HK.out HCR.out HC.out).mono ?_;rintro e w1 ⟨rfl,hb1⟩)
 go_ret
 exact ⟨rfl,hb1⟩
def impl_MustChange.f (k:Nat) (l0:List S58) (l1_0:List Int) (a1_1:Int) (l1_2:List Int) (a1_3:Int) (l2:List S39):Option Bool :=
 (impl_CanEnd.f k l0 l1_0 a1_1 l1_2 a1_3).bind fun a=>if a=true then ((impl_NextStage.f k l0 l1_0 a1_1 l1_2 a1_3 l2).bind fun s=>if s.length=0 then some false else (if 60≤a1_1 then some true else some (!decide (0≤impl_MustChange.ix l1_0 l2 0)))) else some false
theorem impl_MustChange.mono:∀ a0 a1 a2 a3 a4 a5 k,LeO (impl_MustChange.f k a0 a1 a2 a3 a4 a5) (impl_MustChange.f (k + 1) a0 a1 a2 a3 a4 a5):=by
 intro a0 a1 a2 a3 a4 a5 k
 unfold impl_MustChange.f
 exact LeO.bind (impl_CanEnd.mono _ _ _ _ _ _) (fun _=>LeO.ite (LeO.bind (impl_NextStage.mono _ _ _ _ _ _ _) (fun _=>LeO.refl _)) (LeO.refl _))
set_option maxHeartbeats 4000000 in
set_option maxRecDepth 100000 in
theorem impl_MustChange.calls (k:Nat) (A0:Option Addr) (c0:Nat) (l0:List S58) (A1_0:Option Addr) (c1_0:Nat) (l1_0:List Int) (a1_1:Int) (A1_2:Option Addr) (c1_2:Nat) (l1_2:List Int) (a1_3:Int) (A2:Option Addr) (c2:Nat) (l2:List S39) (r:Bool) (w:World) (hr0:Kd.C k58 w A0 l0.length l0) (hc0:l0.length≤c0) (hr1_0:Kd.C (Kd.int .i64) w A1_0 l1_0.length l1_0) (hc1_0:l1_0.length≤c1_0) (hr1_2:Kd.C (Kd.int .i64) w A1_2 l1_2.length l1_2) (hc1_2:l1_2.length≤c1_2) (hr2:Kd.C k39 w A2 l2.length l2) (hc2:l2.length≤c2) (h:impl_MustChange.f k l0 l1_0 a1_1 l1_2 a1_3 l2=some r) :
  Calls Tryz.prog 12 #[.slice A0 l0.length c0,.agg #[.slice A1_0 l1_0.length c1_0,.int .i64 a1_1,.slice A1_2 l1_2.length c1_2,.int .i64 a1_3],.slice A2 l2.length c2] w fun e w'=>e=.returned (.bool r)∧Below w.heap.size w w':=by
 have hu:=Tryz.underlying27
 have HR0:=Aside0.mk hr0
 have HC0:=Aside0.mk hc0
 have HR1:=Aside0.mk hr1_0
 have HC1:=Aside0.mk hc1_0
 have HR3:=Aside0.mk hr1_2
 have HC3:=Aside0.mk hc1_2
 have HR2:=Aside0.mk hr2
 have HC2:=Aside0.mk hc2
 clear hr0 hc0 hr1_0 hc1_0 hr1_2 hc1_2 hr2 hc2
 unfold impl_MustChange.f at h
 obtain ⟨a,ha,h⟩:=Option.bind_eq_some_iff.1 h
 have HA:=Aside0.mk ha
 clear ha
 cases a with
 | false =>
  rw [if_neg (by decide)] at h
  obtain rfl:=Option.some.inj h
  clear h
  go_enter Tryz.func12,Tryz.ntmps12
  go_wp2_with (go_at_call 13;refine (impl_CanEnd.calls k A0 c0 l0 A1_0 c1_0 l1_0 a1_1 A1_2 c1_2 l1_2 a1_3 _ _ (Kd.C_alloc HR0.out _) HC0.out (Kd.C_alloc HR1.out _) HC1.out (Kd.C_alloc HR3.out _) HC3.out HA.out).mono ?_;rintro e w1 ⟨rfl,hb1⟩;have y10:w1.cell? ⟨w.heap.size,0,none⟩=some (.slice A1_0 l1_0.length c1_0):=(by rw [hb1.cell (by simp)];(try simp));have y11:w1.cell? ⟨w.heap.size,1,none⟩=some (.int .i64 a1_1):=(by rw [hb1.cell (by simp)];(try simp));have y12:w1.cell? ⟨w.heap.size,2,none⟩=some (.slice A1_2 l1_2.length c1_2):=(by rw [hb1.cell (by simp)];(try simp));have y13:w1.cell? ⟨w.heap.size,3,none⟩=some (.int .i64 a1_3):=(by rw [hb1.cell (by simp)];(try simp));have B1:=Aside0.mk (below_step (below_alloc (Below.refl w.heap.size w) _) hb1);clear hb1)
  go_ret
  exact ⟨rfl,B1.out⟩
 | true =>
  rw [if_pos rfl] at h
  obtain ⟨s,hs,h⟩:=Option.bind_eq_some_iff.1 h
  have HS:=Aside0.mk hs
  clear hs
  by_cases hz:s.length=0
  ·
   rw [if_pos hz] at h
   obtain rfl:=Option.some.inj h
   clear h
   have hz0:(s.length:Int)=0:=by omega
   have hz1:((s.length:Int) == 0)=true:=by rw [hz0];rfl
   go_enter Tryz.func12,Tryz.ntmps12
   go_wp2_with (first|(go_at_call 13;refine (impl_CanEnd.calls k A0 c0 l0 A1_0 c1_0 l1_0 a1_1 A1_2 c1_2 l1_2 a1_3 _ _ (Kd.C_alloc HR0.out _) HC0.out (Kd.C_alloc HR1.out _) HC1.out (Kd.C_alloc HR3.out _) HC3.out HA.out).mono ?_;rintro e w1 ⟨rfl,hb1⟩;have y10:w1.cell? ⟨w.heap.size,0,none⟩=some (.slice A1_0 l1_0.length c1_0):=(by rw [hb1.cell (by simp)];(try simp));have y11:w1.cell? ⟨w.heap.size,1,none⟩=some (.int .i64 a1_1):=(by rw [hb1.cell (by simp)];(try simp));have y12:w1.cell? ⟨w.heap.size,2,none⟩=some (.slice A1_2 l1_2.length c1_2):=(by rw [hb1.cell (by simp)];(try simp));have y13:w1.cell? ⟨w.heap.size,3,none⟩=some (.int .i64 a1_3):=(by rw [hb1.cell (by simp)];(try simp));have B1:=Aside0.mk (below_step (below_alloc (Below.refl w.heap.size w) _) hb1);clear hb1)|(go_at_call 14;refine (impl_NextStage.calls k A0 c0 l0 A1_0 c1_0 l1_0 a1_1 A1_2 c1_2 l1_2 a1_3 A2 c2 l2 s _ (Kd.C_below HR0.out B1.out) HC0.out (Kd.C_below HR1.out B1.out) HC1.out (Kd.C_below HR3.out B1.out) HC3.out (Kd.C_below HR2.out B1.out) HC2.out HS.out).mono ?_;rintro e w2 ⟨v2,rfl,ho2,hb2⟩;obtain ⟨Ao,co,eo⟩:=Kd.R_slice ho2;subst eo;clear ho2;have y20:w2.cell? ⟨w.heap.size,0,none⟩=some (.slice A1_0 l1_0.length c1_0):=(by rw [hb2.cell (by have:=B1.out.size;have:=World.block_lt_of_cell? _ _ y10;show w.heap.size < _;omega)];(try exact y10));have y21:w2.cell? ⟨w.heap.size,1,none⟩=some (.int .i64 a1_1):=(by rw [hb2.cell (by have:=B1.out.size;have:=World.block_lt_of_cell? _ _ y10;show w.heap.size < _;omega)];(try exact y11));have y22:w2.cell? ⟨w.heap.size,2,none⟩=some (.slice A1_2 l1_2.length c1_2):=(by rw [hb2.cell (by have:=B1.out.size;have:=World.block_lt_of_cell? _ _ y10;show w.heap.size < _;omega)];(try exact y12));have y23:w2.cell? ⟨w.heap.size,3,none⟩=some (.int .i64 a1_3):=(by rw [hb2.cell (by have:=B1.out.size;have:=World.block_lt_of_cell? _ _ y10;show w.heap.size < _;omega)];(try exact y13));have B2:=Aside0.mk (below_step B1.out hb2);clear hb2 y10 y11 y12 y13))
   go_ret
   exact ⟨rfl,B2.out⟩
  ·
   rw [if_neg hz] at h
   have hz1:((s.length:Int) == 0)=false:=by simpa using hz
   by_cases hm:60≤a1_1
   ·
    rw [if_pos hm] at h
    obtain rfl:=Option.some.inj h
    have hmd:decide ((60:Int)≤a1_1)=true:=decide_eq_true hm
    clear h hm
    go_enter Tryz.func12,Tryz.ntmps12
    go_wp2_with (first|(go_at_call 13;refine (impl_CanEnd.calls k A0 c0 l0 A1_0 c1_0 l1_0 a1_1 A1_2 c1_2 l1_2 a1_3 _ _ (Kd.C_alloc HR0.out _) HC0.out (Kd.C_alloc HR1.out _) HC1.out (Kd.C_alloc HR3.out _) HC3.out HA.out).mono ?_;rintro e w1 ⟨rfl,hb1⟩;have y10:w1.cell? ⟨w.heap.size,0,none⟩=some (.slice A1_0 l1_0.length c1_0):=(by rw [hb1.cell (by simp)];(try simp));have y11:w1.cell? ⟨w.heap.size,1,none⟩=some (.int .i64 a1_1):=(by rw [hb1.cell (by simp)];(try simp));have y12:w1.cell? ⟨w.heap.size,2,none⟩=some (.slice A1_2 l1_2.length c1_2):=(by rw [hb1.cell (by simp)];(try simp));have y13:w1.cell? ⟨w.heap.size,3,none⟩=some (.int .i64 a1_3):=(by rw [hb1.cell (by simp)];(try simp));have B1:=Aside0.mk (below_step (below_alloc (Below.refl w.heap.size w) _) hb1);clear hb1)|(go_at_call 14;refine (impl_NextStage.calls k A0 c0 l0 A1_0 c1_0 l1_0 a1_1 A1_2 c1_2 l1_2 a1_3 A2 c2 l2 s _ (Kd.C_below HR0.out B1.out) HC0.out (Kd.C_below HR1.out B1.out) HC1.out (Kd.C_below HR3.out B1.out) HC3.out (Kd.C_below HR2.out B1.out) HC2.out HS.out).mono ?_;rintro e w2 ⟨v2,rfl,ho2,hb2⟩;obtain ⟨Ao,co,eo⟩:=Kd.R_slice ho2;subst eo;clear ho2;have y20:w2.cell? ⟨w.heap.size,0,none⟩=some (.slice A1_0 l1_0.length c1_0):=(by rw [hb2.cell (by have:=B1.out.size;have:=World.block_lt_of_cell? _ _ y10;show w.heap.size < _;omega)];(try exact y10));have y21:w2.cell? ⟨w.heap.size,1,none⟩=some (.int .i64 a1_1):=(by rw [hb2.cell (by have:=B1.out.size;have:=World.block_lt_of_cell? _ _ y10;show w.heap.size < _;omega)];(try exact y11));have y22:w2.cell? ⟨w.heap.size,2,none⟩=some (.slice A1_2 l1_2.length c1_2):=(by rw [hb2.cell (by have:=B1.out.size;have:=World.block_lt_of_cell? _ _ y10;show w.heap.size < _;omega)];(try exact y12));have y23:w2.cell? ⟨w.heap.size,3,none⟩=some (.int .i64 a1_3):=(by rw [hb2.cell (by have:=B1.out.size;have:=World.block_lt_of_cell? _ _ y10;show w.heap.size < _;omega)];(try exact y13));have B2:=Aside0.mk (below_step B1.out hb2);clear hb2 y10 y11 y12 y13))
    go_ret
    exact ⟨rfl,B2.out⟩
   ·
    rw [if_neg hm] at h
    obtain rfl:=Option.some.inj h
    have hmd:decide ((60:Int)≤a1_1)=false:=decide_eq_false hm
    clear h hm
    go_enter Tryz.func12,Tryz.ntmps12
    go_wp2_with (first|(go_at_call 13;refine (impl_CanEnd.calls k A0 c0 l0 A1_0 c1_0 l1_0 a1_1 A1_2 c1_2 l1_2 a1_3 _ _ (Kd.C_alloc HR0.out _) HC0.out (Kd.C_alloc HR1.out _) HC1.out (Kd.C_alloc HR3.out _) HC3.out HA.out).mono ?_;rintro e w1 ⟨rfl,hb1⟩;have y10:w1.cell? ⟨w.heap.size,0,none⟩=some (.slice A1_0 l1_0.length c1_0):=(by rw [hb1.cell (by simp)];(try simp));have y11:w1.cell? ⟨w.heap.size,1,none⟩=some (.int .i64 a1_1):=(by rw [hb1.cell (by simp)];(try simp));have y12:w1.cell? ⟨w.heap.size,2,none⟩=some (.slice A1_2 l1_2.length c1_2):=(by rw [hb1.cell (by simp)];(try simp));have y13:w1.cell? ⟨w.heap.size,3,none⟩=some (.int .i64 a1_3):=(by rw [hb1.cell (by simp)];(try simp));have B1:=Aside0.mk (below_step (below_alloc (Below.refl w.heap.size w) _) hb1);clear hb1)|(go_at_call 14;refine (impl_NextStage.calls k A0 c0 l0 A1_0 c1_0 l1_0 a1_1 A1_2 c1_2 l1_2 a1_3 A2 c2 l2 s _ (Kd.C_below HR0.out B1.out) HC0.out (Kd.C_below HR1.out B1.out) HC1.out (Kd.C_below HR3.out B1.out) HC3.out (Kd.C_below HR2.out B1.out) HC2.out HS.out).mono ?_;rintro e w2 ⟨v2,rfl,ho2,hb2⟩;obtain ⟨Ao,co,eo⟩:=Kd.R_slice ho2;subst eo;clear ho2;have y20:w2.cell? ⟨w.heap.size,0,none⟩=some (.slice A1_0 l1_0.length c1_0):=(by rw [hb2.cell (by have:=B1.out.size;have:=World.block_lt_of_cell? _ _ y10;show w.heap.size < _;omega)];(try exact y10));have y21:w2.cell? ⟨w.heap.size,1,none⟩=some (.int .i64 a1_1):=(by rw [hb2.cell (by have:=B1.out.size;have:=World.block_lt_of_cell? _ _ y10;show w.heap.size < _;omega)];(try exact y11));have y22:w2.cell? ⟨w.heap.size,2,none⟩=some (.slice A1_2 l1_2.length c1_2):=(by rw [hb2.cell (by have:=B1.out.size;have:=World.block_lt_of_cell? _ _ y10;show w.heap.size < _;omega)];(try exact y12));have y23:w2.cell? ⟨w.heap.size,3,none⟩=some (.int .i64 a1_3):=(by rw [hb2.cell (by have:=B1.out.size;have:=World.block_lt_of_cell? _ _ y10;show w.heap.size < _;omega)];(try exact y13));have B2:=Aside0.mk (below_step B1.out hb2);clear hb2 y10 y11 y12 y13)|(go_at_call 30;refine (impl_MustChange.cont l1_0 w.heap.size A2 c2 l2 _ (Kd.C_below HR2.out B2.out) HC2.out A1_0 c1_0 HC1.out (Kd.C_below HR1.out B2.out) y20).mono ?_;rintro e w3 ⟨rfl,hb3⟩;have B3:=Aside0.mk (below_step B2.out hb3);clear hb3))
    go_ret
    exact ⟨rfl,B3.out⟩

/-! ### slices_Equal_int_int: function 34 -/
def slices_Equal_int_int.l0:Nat→List Int→List Int→Int→Int→Option (Bool)
 | 0,_,_,_,_=>none
 | k + 1,x0,x1,x12,x13=>if x13 < x12 then (if 0≤x13 then (if x13 < (x0.length:Int) then (if x13 < (x1.length:Int) then (if (rd x0 x13)=(rd x1 x13) then (slices_Equal_int_int.l0 k x0 x1 x12 (wrap64 (x13 + 1))) else (some false)) else (none)) else (none)) else (none)) else (some true)
def slices_Equal_int_int.f (k:Nat) (l0:List Int) (l1:List Int):Option (Bool):=if (l0.length:Int)=(l1.length:Int) then (slices_Equal_int_int.l0 k l0 l1 (l0.length:Int) 0) else (some false)
theorem slices_Equal_int_int.mono_l:∀ k,(∀ y0 y1 y2 y3,LeO (slices_Equal_int_int.l0 k y0 y1 y2 y3) (slices_Equal_int_int.l0 (k + 1) y0 y1 y2 y3))
 | 0=>fun _ _ _ _ r h=>by simp [slices_Equal_int_int.l0] at h
 | k + 1=>by
  have ih0:=slices_Equal_int_int.mono_l k
  ·intro y0 y1 y2 y3;unfold slices_Equal_int_int.l0;exact mz1 ih0
theorem slices_Equal_int_int.mono:∀ a0 a1 k,LeO (slices_Equal_int_int.f k a0 a1) (slices_Equal_int_int.f (k + 1) a0 a1):=by
 intro a0 a1 k;have ih0:=slices_Equal_int_int.mono_l k;unfold slices_Equal_int_int.f;exact mz1 ih0
set_option maxHeartbeats 8000000 in
set_option maxRecDepth 100000 in
theorem slices_Equal_int_int.calls (k:Nat) (A0:Option Addr) (c0:Nat) (l0:List Int) (A1:Option Addr) (c1:Nat) (l1:List Int) (r:Bool) (w:World) (hr0:Kd.C (Kd.int .i64) w A0 l0.length l0) (hc0:l0.length≤c0) (hr1:Kd.C (Kd.int .i64) w A1 l1.length l1) (hc1:l1.length≤c1) (h:slices_Equal_int_int.f k l0 l1=some r) :
  Calls Tryz.prog 34 #[.slice A0 l0.length c0,.slice A1 l1.length c1] w fun e w'=>e=.returned (.bool r)∧Drawn0 w w':=by
 have HR0:=am hr0;have HC0:=am hc0;clear hr0 hc0;have HR1:=am hr1;have HC1:=am hc1;clear hr1 hc1;unfold slices_Equal_int_int.f at h;have H:=h;clear h;by_cases c3:(l0.length:Int)=(l1.length:Int)
 ·rw [if_pos c3] at H;obtain ⟨c3b0,c3b1⟩:=eI c3;have c3b2:(l0.length == l1.length)=true:=by first|simpa using c3|(simp at c3 ⊢;omega)
  clear c3;have H':=am H;clear H;go_enter Tryz.func34,Tryz.ntmps34;go_wp2;repeat (go_quiet (fail);try go_wp2)
  go_loopg [13] k (fun kq v13 w'=>∃ (x13_1:Int),v13=.int .i64 x13_1∧Aside0 (slices_Equal_int_int.l0 kq l0 l1 (l0.length:Int) x13_1=some r)∧Aside0 (kq≤k)∧Drawn0 w w')
  case atStart=>exact ⟨(0),rS,H',⟨Nat.le_refl _⟩,by repeat (first|exact Drawn0.refl _|apply Drawn0.step)⟩
  case round =>
   clear H';obtain ⟨x13_1,rfl,HA,HK1,⟨m1,rfl⟩⟩:=hrel
   cases gk with
   | zero=>exact absurd HA.out (by simp [slices_Equal_int_int.l0])
   | succ k1 =>
    have H:=HA.out;clear HA;simp only [slices_Equal_int_int.l0] at H;by_cases c4:x13_1 < (l0.length:Int)
    ·rw [if_pos c4] at H;have c4b0:=dt c4;clear c4;have c5b0:=ifC H;replace H:=ifT H;have c6b0:=ifC H;replace H:=ifT H;have c7b0:=ifC H;replace H:=ifT H;by_cases c8:(rd l0 x13_1)=(rd l1 x13_1)
     ·rw [if_pos c8] at H;obtain ⟨c8b0,c8b1⟩:=eI c8;clear c8;have H':=am H;clear H;obtain ⟨p736,q736⟩:=pq x13_1 l0;obtain ⟨ad736,e736,hx736_0⟩:=Kd.at_int HR0.out x13_1 p736 q736;cases e736;obtain ⟨p736,q736⟩:=eT p736 q736;obtain ⟨p737,q737⟩:=pq x13_1 l1;obtain ⟨ad737,e737,hx737_0⟩:=Kd.at_int HR1.out x13_1 p737 q737;cases e737;obtain ⟨p737,q737⟩:=eT p737 q737;go_wp2;repeat (go_quiet (fail);try go_wp2)
      go_roundg k1
      case measure=>have:=HK1.out;omega
      case rel=>exact ⟨(wrap64 (x13_1 + 1)),rS,H',⟨by have:=HK1.out;omega⟩,by repeat (first|exact Drawn0.refl _|apply Drawn0.step)⟩
     rw [if_neg c8] at H;obtain ⟨c8b0,c8b1⟩:=nI c8;obtain rfl:=oj H;obtain ⟨p736,q736⟩:=pq x13_1 l0;obtain ⟨ad736,e736,hx736_0⟩:=Kd.at_int HR0.out x13_1 p736 q736;cases e736;obtain ⟨p736,q736⟩:=eT p736 q736;obtain ⟨p737,q737⟩:=pq x13_1 l1;obtain ⟨ad737,e737,hx737_0⟩:=Kd.at_int HR1.out x13_1 p737 q737;cases e737;obtain ⟨p737,q737⟩:=eT p737 q737;go_wp2;repeat (go_quiet (fail);try go_wp2)
     go_ret;exact ⟨rS,dD⟩
    rw [if_neg c4] at H;have c4b0:=df c4;clear c4;obtain rfl:=oj H;go_wp2;repeat (go_quiet (fail);try go_wp2)
    go_ret;exact ⟨rS,dD⟩
 rw [if_neg c3] at H;obtain ⟨c3b0,c3b1⟩:=nI c3;have c3b2:(l0.length == l1.length)=false:=by first|simpa using c3|(simp at c3 ⊢;omega)
 obtain rfl:=oj H;go_enter Tryz.func34,Tryz.ntmps34;go_wp2;repeat (go_quiet (fail);try go_wp2)
 go_ret;exact ⟨rS,dD⟩

/-! ### impl_AskStage: function 42 -/
def impl_AskStage.j0:Nat→List (S58)→List Int→Bool→List Int→Int→List Int→Int→List Int→Int→List Int→Int→Option (List Int × Int × List Int × Int × Bool)
 | 0,_,_,_,_,_,_,_,_,_,_,_=>none
 | k + 1,x0,x2,x32,x739000,x739001,x739002,x739003,x749000,x749001,x749002,x749003=>if x32=true then (some (x749000,x749001,x749002,x749003,false)) else ((impl_ClearBetween.f k x0 x739000 x2).bind fun t752=>(if t752 > 0 then ((slices_Clone_int_int.f x2).bind fun t753=>(some (x749000,x749001,t753,t752,true))) else ((slices_Clone_int_int.f x2).bind fun t756=>(some (t756,0,([]:List Int),0,true)))))
def impl_AskStage.f (k:Nat) (l0:List (S58)) (l1_0:List Int) (a1_1:Int) (l1_2:List Int) (a1_3:Int) (l2:List Int):Option (List Int × Int × List Int × Int × Bool):=(impl_cloneControl.f l1_0 a1_1 l1_2 a1_3).bind fun bt740=>((impl_CanEnd.f k l0 l1_0 a1_1 l1_2 a1_3).bind fun t749=>(if t749=true then (if (l2.length:Int)=0 then (impl_AskStage.j0 k l0 l2 true l1_0 a1_1 l1_2 a1_3 bt740.1 bt740.2.1 bt740.2.2.1 bt740.2.2.2) else ((impl_IsTogether.f k l0 l2).bind fun t750=>(if t750=true then ((slices_Equal_int_int.f k l2 l1_0).bind fun t751=>(impl_AskStage.j0 k l0 l2 t751 l1_0 a1_1 l1_2 a1_3 bt740.1 bt740.2.1 bt740.2.2.1 bt740.2.2.2)) else (impl_AskStage.j0 k l0 l2 true l1_0 a1_1 l1_2 a1_3 bt740.1 bt740.2.1 bt740.2.2.1 bt740.2.2.2)))) else (impl_AskStage.j0 k l0 l2 true l1_0 a1_1 l1_2 a1_3 bt740.1 bt740.2.1 bt740.2.2.1 bt740.2.2.2)))
theorem impl_AskStage.mono_l:∀ k,(∀ y0 y1 y2 y3 y4 y5 y6 y7 y8 y9 y10,LeO (impl_AskStage.j0 k y0 y1 y2 y3 y4 y5 y6 y7 y8 y9 y10) (impl_AskStage.j0 (k + 1) y0 y1 y2 y3 y4 y5 y6 y7 y8 y9 y10))
 | 0=>fun _ _ _ _ _ _ _ _ _ _ _ r h=>by simp [impl_AskStage.j0] at h
 | k + 1=>by
  have ih0:=impl_AskStage.mono_l k
  ·intro y0 y1 y2 y3 y4 y5 y6 y7 y8 y9 y10;unfold impl_AskStage.j0;exact mz5 ih0 impl_CanEnd.mono impl_ClearBetween.mono impl_IsTogether.mono slices_Equal_int_int.mono
theorem impl_AskStage.mono:∀ a0 a1 a2 a3 a4 a5 k,LeO (impl_AskStage.f k a0 a1 a2 a3 a4 a5) (impl_AskStage.f (k + 1) a0 a1 a2 a3 a4 a5):=by
 intro a0 a1 a2 a3 a4 a5 k;have ih0:=impl_AskStage.mono_l k;unfold impl_AskStage.f;exact mz5 ih0 impl_CanEnd.mono impl_ClearBetween.mono impl_IsTogether.mono slices_Equal_int_int.mono
set_option maxHeartbeats 8000000 in
set_option maxRecDepth 100000 in
theorem impl_AskStage.calls (k:Nat) (A0:Option Addr) (c0:Nat) (l0:List (S58)) (A1_0:Option Addr) (c1_0:Nat) (l1_0:List Int) (a1_1:Int) (A1_2:Option Addr) (c1_2:Nat) (l1_2:List Int) (a1_3:Int) (A2:Option Addr) (c2:Nat) (l2:List Int) (r1:List Int) (r2:Int) (r3:List Int) (r4:Int) (r5:Bool) (w:World) (hr0:Kd.C k58 w A0 l0.length l0) (hc0:l0.length≤c0) (hr1_0:Kd.C (Kd.int .i64) w A1_0 l1_0.length l1_0) (hc1_0:l1_0.length≤c1_0) (hr1_2:Kd.C (Kd.int .i64) w A1_2 l1_2.length l1_2) (hc1_2:l1_2.length≤c1_2) (hr2:Kd.C (Kd.int .i64) w A2 l2.length l2) (hc2:l2.length≤c2) (h:impl_AskStage.f k l0 l1_0 a1_1 l1_2 a1_3 l2=some (r1,r2,r3,r4,r5)) :
  Calls Tryz.prog 42 #[.slice A0 l0.length c0,.agg #[.slice A1_0 l1_0.length c1_0,.int .i64 a1_1,.slice A1_2 l1_2.length c1_2,.int .i64 a1_3],.slice A2 l2.length c2] w fun e w'=>∃ v0_ v2_:Value,e=.returned (.tuple #[.agg #[v0_,.int .i64 r2,v2_,.int .i64 r4],.bool r5])∧Kd.R (Kd.int .i64) 3 w' w.heap.size (n1 v2_) v0_ r1∧Kd.R (Kd.int .i64) 3 w' w.heap.size (n1 v0_) v2_ r3∧Below w.heap.size w w':=by
 have hu27:=Tryz.underlying27;have HR0:=am hr0;have HC0:=am hc0;clear hr0 hc0;have HR1_0:=am hr1_0;have HC1_0:=am hc1_0;clear hr1_0 hc1_0;have HR1_2:=am hr1_2;have HC1_2:=am hc1_2;clear hr1_2 hc1_2;have HR2:=am hr2;have HC2:=am hc2;clear hr2 hc2;have HB:=am (Below.refl w.heap.size w);unfold impl_AskStage.f at h;have H:=h;clear h;obtain ⟨⟨t740,t743,t744,t747⟩,A4,H⟩:=bindE H;try dsimp only at H
 have HC5:=am H;clear H;go_enter Tryz.func42,Tryz.ntmps42;go_upto_region 2 with (first|((with_reducible refine gd 4 ?_);(try (refine gate_guard (by rfl) ?_;dsimp only));refine bF w 4 #[.slice A1_0 l1_0.length c1_0,.int .i64 a1_1,.slice A1_2 l1_2.length c1_2,.int .i64 a1_3] 27 ?_;rintro gb738 w6 BK738 GW738 GE738 hb hg;replace HB:=bs HB hb;clear hb hg)|((with_reducible refine gd 6 ?_);(try (refine gate_guard (by rfl) ?_;dsimp only));refine bF w 6 #[.slice none 0 0,.int .i64 0,.slice none 0 0,.int .i64 0] 27 ?_;rintro gb739 w7 BK739 GW739 GE739 hb hg;replace HB:=bs HB hb;have NB738_739:=nl BK738 hg;have NB739_738:=nr BK738 hg;replace BK738:=kb BK738 hb;clear hb hg;have hnb8:=NB738_739.out;have hnc8:=NB739_738.out;obtain ⟨_,_,_,_,_,_,_,_⟩:=blkc4 BK738)|((with_reducible refine gc 20 ?_);refine gL (some 11) Tryz.func20 #[.agg #[.slice A1_0 l1_0.length c1_0,.int .i64 a1_1,.slice A1_2 l1_2.length c1_2,.int .i64 a1_3]] ?_;(with_reducible refine (impl_cloneControl.calls _ _ l1_0 a1_1 _ _ l1_2 a1_3 t740 t743 t744 t747 _ ?_ ?_ ?_ ?_ A4.out).mono ?_);exact cB HR1_0;exact HC1_0.out;exact cB HR1_2;exact HC1_2.out;rintro e w10 ⟨v741,v745,rfl,ho0,ho1,hb⟩;refine ⟨_,rfl,?_⟩;have HO742:=rl w ho0;have HO746:=rl w ho1;replace BK738:=kb BK738 hb;replace BK739:=kb BK739 hb;replace HB:=bs HB hb;(try clear hb);(try clear ho0);(try clear ho1))|((with_reducible refine gd 8 ?_);(try (refine gate_guard (by rfl) ?_;dsimp only));refine bF w 8 #[.slice none 0 0,.int .i64 0,.slice none 0 0,.int .i64 0] 27 ?_;rintro gb748 w11 BK748 GW748 GE748 hb hg;replace HO742:=rb HO742 hb;replace HO746:=rb HO746 hb;replace HB:=bs HB hb;have NB738_748:=nl BK738 hg;have NB748_738:=nr BK738 hg;replace BK738:=kb BK738 hb;have NB739_748:=nl BK739 hg;have NB748_739:=nr BK739 hg;replace BK739:=kb BK739 hb;clear hb hg;obtain ⟨Ao12,co12,eo12⟩:=Kd.R_slice HO742.out;subst eo12;have hnb13:=NB748_738.out;have hnc13:=NB738_748.out;have hnb14:=NB748_739.out;have hnc14:=NB739_748.out;obtain ⟨_,_,_,_,_,_,_,_⟩:=blkc4 BK748;obtain ⟨Ao16,co16,eo16⟩:=Kd.R_slice HO746.out;subst eo16));(try simp only [Act.put,List.setIfInBounds_toArray,List.set_cons_zero,List.set_cons_succ]);go_cut [32] (fun v32 wc=>∃ (kq:Nat) (x32_4:Bool),v32=.bool x32_4∧Aside0 (impl_AskStage.j0 kq l0 l2 x32_4 l1_0 a1_1 l1_2 a1_3 t740 t743 t744 t747=some (r1,r2,r3,r4,r5))∧Aside0 (kq≤k)∧Aside0 (Kd.R (Kd.int .i64) 3 wc w.heap.size (n1 (.slice Ao16 t744.length co16)) (.slice Ao12 t740.length co12) t740)∧Aside0 (Kd.R (Kd.int .i64) 3 wc w.heap.size (n1 (.slice Ao12 t740.length co12)) (.slice Ao16 t744.length co16) t744)∧Aside0 (wc.heap[gb738]?=some (.cells #[(.slice A1_0 l1_0.length c1_0),.int .i64 a1_1,(.slice A1_2 l1_2.length c1_2),.int .i64 a1_3] 27 (0,0)))∧Aside0 (wc.heap[gb739]?=some (.cells #[(.slice none 0 0),.int .i64 0,(.slice none 0 0),.int .i64 0] 27 (0,0)))∧Aside0 (wc.heap[gb748]?=some (.cells #[(.slice Ao12 t740.length co12),.int .i64 t743,(.slice Ao16 t744.length co16),.int .i64 t747] 27 (0,0)))∧Aside0 (Below w.heap.size w wc))
 case first =>
  have H:=HC5.out;clear HC5;obtain ⟨t749,A17,H⟩:=bindE H;try dsimp only at H
  by_cases c18:t749=true
  ·subst c18;rw [if_pos rfl] at H;by_cases c19:(l2.length:Int)=0
   ·rw [if_pos c19] at H;obtain ⟨c19b0,c19b1⟩:=eI c19;clear c19;(first|rw [c19b0]|(simp only [i64_w,i32_w];rw [c19b0])|skip);have H':=am H;clear H;have hnb20:=NB738_739.out;have hnc20:=NB739_738.out;have hnb21:=NB738_748.out;have hnc21:=NB748_738.out;obtain ⟨_,_,_,_,_,_,_,_⟩:=blkc4 BK738;go_wp2_with (first|((with_reducible refine gc 13 ?_);refine gL (some 14) Tryz.func13 #[.slice A0 l0.length c0,.agg #[.slice A1_0 l1_0.length c1_0,.int .i64 a1_1,.slice A1_2 l1_2.length c1_2,.int .i64 a1_3]] ?_;(with_reducible refine (impl_CanEnd.calls k _ _ l0 _ _ l1_0 a1_1 _ _ l1_2 a1_3 true _ ?_ ?_ ?_ ?_ ?_ ?_ A17.out).mono ?_);exact Kd.C_below HR0.out bG;exact HC0.out;exact Kd.C_below HR1_0.out bG;exact HC1_0.out;exact Kd.C_below HR1_2.out bG;exact HC1_2.out;rintro e w23 ⟨rfl,hb⟩;refine ⟨_,rfl,?_⟩;replace HO742:=am (Kd.R_below (rf HO742 BK748) hb);replace HO746:=am (Kd.R_below (rf HO746 BK748) hb);replace BK738:=kc (kf BK738 NB738_748) hb;replace BK739:=kc (kf BK739 NB739_748) hb;replace BK748:=kc (o:=.cells #[.slice Ao12 t740.length co12,.int .i64 t743,.slice Ao16 t744.length co16,.int .i64 t747] 27 (0,0)) (kp BK748) hb;replace HB:=bs HB hb;(try clear hb)))
    go_meet
    case rel=>exact ⟨_,(true),rS,H',⟨oL⟩,⟨rK HO742⟩,⟨rK HO746⟩,⟨bK BK738⟩,⟨bK BK739⟩,⟨bK BK748⟩,⟨bG⟩⟩
   rw [if_neg c19] at H;obtain ⟨c19b0,c19b1⟩:=nI c19;have c19b2:¬ (l2=[]):=fun h_=>c19 (by rw [h_];rfl);(first|rw [c19b0]|(simp only [i64_w,i32_w];rw [c19b0])|skip);obtain ⟨t750,A24,H⟩:=bindE H;try dsimp only at H
   by_cases c25:t750=true
   ·subst c25;rw [if_pos rfl] at H;obtain ⟨t751,A26,H⟩:=bindE H;try dsimp only at H
    have H':=am H;clear H;have hnb27:=NB738_739.out;have hnc27:=NB739_738.out;have hnb28:=NB738_748.out;have hnc28:=NB748_738.out;obtain ⟨_,_,_,_,_,_,_,_⟩:=blkc4 BK738;go_wp2_with (first|((with_reducible refine gc 13 ?_);refine gL (some 14) Tryz.func13 #[.slice A0 l0.length c0,.agg #[.slice A1_0 l1_0.length c1_0,.int .i64 a1_1,.slice A1_2 l1_2.length c1_2,.int .i64 a1_3]] ?_;(with_reducible refine (impl_CanEnd.calls k _ _ l0 _ _ l1_0 a1_1 _ _ l1_2 a1_3 true _ ?_ ?_ ?_ ?_ ?_ ?_ A17.out).mono ?_);exact Kd.C_below HR0.out bG;exact HC0.out;exact Kd.C_below HR1_0.out bG;exact HC1_0.out;exact Kd.C_below HR1_2.out bG;exact HC1_2.out;rintro e w30 ⟨rfl,hb⟩;refine ⟨_,rfl,?_⟩;replace HO742:=am (Kd.R_below (rf HO742 BK748) hb);replace HO746:=am (Kd.R_below (rf HO746 BK748) hb);replace BK738:=kc (kf BK738 NB738_748) hb;replace BK739:=kc (kf BK739 NB739_748) hb;replace BK748:=kc (o:=.cells #[.slice Ao12 t740.length co12,.int .i64 t743,.slice Ao16 t744.length co16,.int .i64 t747] 27 (0,0)) (kp BK748) hb;replace HB:=bs HB hb;(try clear hb))|(go_at_call 24;(with_reducible refine (impl_IsTogether.calls k _ _ l0 _ _ l2 true _ ?_ ?_ ?_ ?_ A24.out).mono ?_);exact cB HR0;exact HC0.out;exact cB HR2;exact HC2.out;rintro e w31 ⟨rfl,hb⟩;replace HO742:=rb HO742 hb;replace HO746:=rb HO746 hb;replace BK738:=kb BK738 hb;replace BK739:=kb BK739 hb;replace BK748:=kb BK748 hb;replace HB:=bs HB hb;(try clear hb);obtain ⟨_,_,_,_,_,_,_,_⟩:=blkc4 BK738)|(go_at_call 34;(with_reducible refine (slices_Equal_int_int.calls k _ _ l2 _ _ l1_0 t751 _ ?_ ?_ ?_ ?_ A26.out).mono ?_);exact cB HR2;exact HC2.out;exact cB HR1_0;exact HC1_0.out;rintro e w' ⟨rfl,⟨nd,rfl⟩⟩))
    go_meet
    case rel=>exact ⟨_,(t751),rS,H',⟨oL⟩,⟨rK HO742⟩,⟨rK HO746⟩,⟨bK BK738⟩,⟨bK BK739⟩,⟨bK BK748⟩,⟨bG⟩⟩
   replace c25:=Bool.eq_false_iff.mpr c25;subst c25;rw [if_neg Bool.false_ne_true] at H;have H':=am H;clear H;have hnb33:=NB738_739.out;have hnc33:=NB739_738.out;have hnb34:=NB738_748.out;have hnc34:=NB748_738.out;obtain ⟨_,_,_,_,_,_,_,_⟩:=blkc4 BK738;go_wp2_with (first|((with_reducible refine gc 13 ?_);refine gL (some 14) Tryz.func13 #[.slice A0 l0.length c0,.agg #[.slice A1_0 l1_0.length c1_0,.int .i64 a1_1,.slice A1_2 l1_2.length c1_2,.int .i64 a1_3]] ?_;(with_reducible refine (impl_CanEnd.calls k _ _ l0 _ _ l1_0 a1_1 _ _ l1_2 a1_3 true _ ?_ ?_ ?_ ?_ ?_ ?_ A17.out).mono ?_);exact Kd.C_below HR0.out bG;exact HC0.out;exact Kd.C_below HR1_0.out bG;exact HC1_0.out;exact Kd.C_below HR1_2.out bG;exact HC1_2.out;rintro e w36 ⟨rfl,hb⟩;refine ⟨_,rfl,?_⟩;replace HO742:=am (Kd.R_below (rf HO742 BK748) hb);replace HO746:=am (Kd.R_below (rf HO746 BK748) hb);replace BK738:=kc (kf BK738 NB738_748) hb;replace BK739:=kc (kf BK739 NB739_748) hb;replace BK748:=kc (o:=.cells #[.slice Ao12 t740.length co12,.int .i64 t743,.slice Ao16 t744.length co16,.int .i64 t747] 27 (0,0)) (kp BK748) hb;replace HB:=bs HB hb;(try clear hb))|(go_at_call 24;(with_reducible refine (impl_IsTogether.calls k _ _ l0 _ _ l2 false _ ?_ ?_ ?_ ?_ A24.out).mono ?_);exact cB HR0;exact HC0.out;exact cB HR2;exact HC2.out;rintro e w37 ⟨rfl,hb⟩;replace HO742:=rb HO742 hb;replace HO746:=rb HO746 hb;replace BK738:=kb BK738 hb;replace BK739:=kb BK739 hb;replace BK748:=kb BK748 hb;replace HB:=bs HB hb;(try clear hb)))
   go_meet
   case rel=>exact ⟨_,(true),rS,H',⟨oL⟩,⟨rK HO742⟩,⟨rK HO746⟩,⟨bK BK738⟩,⟨bK BK739⟩,⟨bK BK748⟩,⟨bG⟩⟩
  replace c18:=Bool.eq_false_iff.mpr c18;subst c18;rw [if_neg Bool.false_ne_true] at H;have H':=am H;clear H;have hnb38:=NB738_739.out;have hnc38:=NB739_738.out;have hnb39:=NB738_748.out;have hnc39:=NB748_738.out;obtain ⟨_,_,_,_,_,_,_,_⟩:=blkc4 BK738;go_wp2_with (first|((with_reducible refine gc 13 ?_);refine gL (some 14) Tryz.func13 #[.slice A0 l0.length c0,.agg #[.slice A1_0 l1_0.length c1_0,.int .i64 a1_1,.slice A1_2 l1_2.length c1_2,.int .i64 a1_3]] ?_;(with_reducible refine (impl_CanEnd.calls k _ _ l0 _ _ l1_0 a1_1 _ _ l1_2 a1_3 false _ ?_ ?_ ?_ ?_ ?_ ?_ A17.out).mono ?_);exact Kd.C_below HR0.out bG;exact HC0.out;exact Kd.C_below HR1_0.out bG;exact HC1_0.out;exact Kd.C_below HR1_2.out bG;exact HC1_2.out;rintro e w41 ⟨rfl,hb⟩;refine ⟨_,rfl,?_⟩;replace HO742:=am (Kd.R_below (rf HO742 BK748) hb);replace HO746:=am (Kd.R_below (rf HO746 BK748) hb);replace BK738:=kc (kf BK738 NB738_748) hb;replace BK739:=kc (kf BK739 NB739_748) hb;replace BK748:=kc (o:=.cells #[.slice Ao12 t740.length co12,.int .i64 t743,.slice Ao16 t744.length co16,.int .i64 t747] 27 (0,0)) (kp BK748) hb;replace HB:=bs HB hb;(try clear hb)))
  go_meet
  case rel=>exact ⟨_,(true),rS,H',⟨oL⟩,⟨rK HO742⟩,⟨rK HO746⟩,⟨bK BK738⟩,⟨bK BK739⟩,⟨bK BK748⟩,⟨bG⟩⟩
 case rest =>
  clear HC5;obtain ⟨kq,x32_4,rfl,HA,HJ4,HO_749000,HO_749002,BK738,BK739,BK748,HB⟩:=hcut
  cases kq with
  | zero=>exact absurd HA.out (by simp [impl_AskStage.j0])
  | succ kj4 =>
   have H:=HA.out;clear HA;simp only [impl_AskStage.j0] at H;by_cases c42:x32_4=true
   ·subst c42;rw [if_pos rfl] at H;simp only [Option.some.injEq,Prod.mk.injEq] at H;obtain ⟨rfl,rfl,rfl,rfl,rfl⟩:=H;have hnb43:=NB748_738.out;have hnc43:=NB738_748.out;have hnb44:=NB748_739.out;have hnc44:=NB739_748.out;obtain ⟨_,_,_,_,_,_,_,_⟩:=blkc4 BK748;have hnb46:=NB739_738.out;have hnc46:=NB738_739.out;obtain ⟨_,_,_,_,_,_,_,_⟩:=blkc4 BK739;go_wp2;refine bodyPost_ret (results_ct rfl _ _ gb739 27 #[.slice Ao12 t740.length co12,.int .i64 t743,.slice Ao16 t744.length co16,.int .i64 t747] (0,0) _ rfl (kp BK739) Tryz.underlying27 rfl (by kernel_rfl)) rfl ?_;exact ⟨_,_,rA,rf HO_749000 BK739,rf HO_749002 BK739,bG⟩
   replace c42:=Bool.eq_false_iff.mpr c42;subst c42;rw [if_neg Bool.false_ne_true] at H;obtain ⟨t752,A48,H⟩:=bindE H;try dsimp only at H
   by_cases c49:t752 > 0
   ·rw [if_pos c49] at H;have c49b0:=dt c49;clear c49;obtain ⟨t753,A50,H⟩:=bindE H;try dsimp only at H
    simp only [Option.some.injEq,Prod.mk.injEq] at H;obtain ⟨rfl,rfl,rfl,rfl,rfl⟩:=H;have hnb51:=NB738_739.out;have hnc51:=NB739_738.out;have hnb52:=NB738_748.out;have hnc52:=NB748_738.out;obtain ⟨_,_,_,_,_,_,_,_⟩:=blkc4 BK738;go_wp2_with (first|((with_reducible refine gc 26 ?_);refine gL (some 38) Tryz.func26 #[.slice A0 l0.length c0,.slice A1_0 l1_0.length c1_0,.slice A2 l2.length c2] ?_;(with_reducible refine (impl_ClearBetween.calls kj4 _ _ l0 _ _ l1_0 _ _ l2 t752 _ ?_ ?_ ?_ ?_ ?_ ?_ A48.out).mono ?_);exact cB HR0;exact HC0.out;exact cB HR1_0;exact HC1_0.out;exact cB HR2;exact HC2.out;rintro e w54 ⟨rfl,hb⟩;refine ⟨_,rfl,?_⟩;replace HO_749000:=rb HO_749000 hb;replace HO_749002:=rb HO_749002 hb;replace BK738:=kb BK738 hb;replace BK739:=kb BK739 hb;replace BK748:=kb BK748 hb;replace HB:=bs HB hb;(try clear hb))|((with_reducible refine gc 41 ?_);refine gL (some 42) Tryz.func41 #[.slice A2 l2.length c2] ?_;(with_reducible refine (slices_Clone_int_int.calls _ _ l2 t753 _ ?_ ?_ A50.out).mono ?_);exact cB HR2;exact HC2.out;rintro e w55 ⟨v754,rfl,ho0,hb⟩;refine ⟨_,rfl,?_⟩;have HO755:=rl w (rn (rn ho0 HO_749000) HO_749002);replace HO_749000:=re HO_749000 ho0 hb;replace HO_749002:=re HO_749002 ho0 hb;replace BK738:=kb BK738 hb;replace BK739:=kb BK739 hb;replace BK748:=kb BK748 hb;replace HB:=bs HB hb;(try clear hb);(try clear ho0);obtain ⟨Ao56,co56,eo56⟩:=Kd.R_slice HO755.out;subst eo56;have hnb57:=NB748_739.out;have hnc57:=NB739_748.out;obtain ⟨_,_,_,_,_,_,_,_⟩:=blkc4 BK748;obtain ⟨_,_,_,_,_,_,_,_⟩:=blkc4 BK739));refine bodyPost_ret (results_ct rfl _ _ gb739 27 #[.slice Ao12 t740.length co12,.int .i64 t743,.slice Ao56 t753.length co56,.int .i64 t752] (0,0) _ rfl (kP BK739 NB739_748) Tryz.underlying27 rfl (by kernel_rfl)) rfl ?_;exact ⟨_,_,rA,by (with_reducible repeat (first|apply Kd.R_alloc|apply Kd.R_drewN|apply Kd.R_drew));exact Kd.R_mono (Kd.R_far (p:=⟨gb739,3,none⟩) (Kd.R_far (p:=⟨gb739,2,none⟩) (Kd.R_far (p:=⟨gb739,1,none⟩) (Kd.R_far (p:=⟨gb739,0,none⟩) (Kd.R_far (p:=⟨gb748,3,none⟩) (Kd.R_far (p:=⟨gb748,2,none⟩) (Kd.R_types (Kd.R_types HO_749000.out BK748.out (by decide)) BK739.out (by decide)) (fun _ hk=>hk.1.2) (.slice Ao56 t753.length co56)) (fun _ hk=>hk.1.2) (.int .i64 t752)) (fun _ hk=>hk.2) (.slice Ao12 t740.length co12)) (fun _ hk=>hk.2) (.int .i64 t743)) (fun _ hk=>hk.2) (.slice Ao56 t753.length co56)) (fun _ hk=>hk.2) (.int .i64 t752)) (fun _ hk=>hk.1.1.2),by (with_reducible repeat (first|apply Kd.R_alloc|apply Kd.R_drewN|apply Kd.R_drew));exact Kd.R_mono (Kd.R_far (p:=⟨gb739,3,none⟩) (Kd.R_far (p:=⟨gb739,2,none⟩) (Kd.R_far (p:=⟨gb739,1,none⟩) (Kd.R_far (p:=⟨gb739,0,none⟩) (Kd.R_far (p:=⟨gb748,3,none⟩) (Kd.R_far (p:=⟨gb748,2,none⟩) (Kd.R_types (Kd.R_types HO755.out BK748.out (by decide)) BK739.out (by decide)) (fun _ hk=>hk.1.2) (.slice Ao56 t753.length co56)) (fun _ hk=>hk.1.2) (.int .i64 t752)) (fun _ hk=>hk.2) (.slice Ao12 t740.length co12)) (fun _ hk=>hk.2) (.int .i64 t743)) (fun _ hk=>hk.2) (.slice Ao56 t753.length co56)) (fun _ hk=>hk.2) (.int .i64 t752)) (fun _ hk=>hk.1.1.1.2),bG⟩
   rw [if_neg c49] at H;have c49b0:=df c49;clear c49;obtain ⟨t756,A60,H⟩:=bindE H;try dsimp only at H
   simp only [Option.some.injEq,Prod.mk.injEq] at H;obtain ⟨rfl,rfl,rfl,rfl,rfl⟩:=H;have hnb61:=NB738_739.out;have hnc61:=NB739_738.out;have hnb62:=NB738_748.out;have hnc62:=NB748_738.out;obtain ⟨_,_,_,_,_,_,_,_⟩:=blkc4 BK738;go_wp2_with (first|((with_reducible refine gc 26 ?_);refine gL (some 38) Tryz.func26 #[.slice A0 l0.length c0,.slice A1_0 l1_0.length c1_0,.slice A2 l2.length c2] ?_;(with_reducible refine (impl_ClearBetween.calls kj4 _ _ l0 _ _ l1_0 _ _ l2 t752 _ ?_ ?_ ?_ ?_ ?_ ?_ A48.out).mono ?_);exact cB HR0;exact HC0.out;exact cB HR1_0;exact HC1_0.out;exact cB HR2;exact HC2.out;rintro e w64 ⟨rfl,hb⟩;refine ⟨_,rfl,?_⟩;replace HO_749000:=rb HO_749000 hb;replace HO_749002:=rb HO_749002 hb;replace BK738:=kb BK738 hb;replace BK739:=kb BK739 hb;replace BK748:=kb BK748 hb;replace HB:=bs HB hb;(try clear hb))|((with_reducible refine gc 41 ?_);refine gL (some 48) Tryz.func41 #[.slice A2 l2.length c2] ?_;(with_reducible refine (slices_Clone_int_int.calls _ _ l2 t756 _ ?_ ?_ A60.out).mono ?_);exact cB HR2;exact HC2.out;rintro e w65 ⟨v757,rfl,ho0,hb⟩;refine ⟨_,rfl,?_⟩;have HO758:=rl w (rn (rn ho0 HO_749000) HO_749002);replace HO_749000:=re HO_749000 ho0 hb;replace HO_749002:=re HO_749002 ho0 hb;replace BK738:=kb BK738 hb;replace BK739:=kb BK739 hb;replace BK748:=kb BK748 hb;replace HB:=bs HB hb;(try clear hb);(try clear ho0);obtain ⟨Ao66,co66,eo66⟩:=Kd.R_slice HO758.out;subst eo66;have hnb67:=NB739_748.out;have hnc67:=NB748_739.out;obtain ⟨_,_,_,_,_,_,_,_⟩:=blkc4 BK739));refine bodyPost_ret (results_ct rfl _ _ gb739 27 #[.slice Ao66 t756.length co66,.int .i64 0,.slice none 0 0,.int .i64 0] (0,0) _ rfl (kp BK739) Tryz.underlying27 rfl (by kernel_rfl)) rfl ?_;exact ⟨_,_,rA,Kd.R_mono (rf HO758 BK739) (fun _ hk=>(by simp [Value.ownBlock])),by first|exact Kd.R_nil _ _ _ _ _|exact Kd.N_nil _ _ _ _ _|exact Kd.V_nil _ _ _ _ _|exact Kd.Q_nil _ _ _ _ _|exact Kd.S_nil _ _ _ _ _,bG⟩

/-! ### impl_TickControl: function 43 -/
def impl_TickControl.f (k:Nat) (l0:List (S58)) (l1_0:List Int) (a1_1:Int) (l1_2:List Int) (a1_3:Int):Option (List Int × Int × List Int × Int):=(impl_cloneControl.f l1_0 a1_1 l1_2 a1_3).bind fun bt761=>((impl_IsControl.f k l0 l1_0 a1_1 l1_2 a1_3).bind fun t770=>(if t770=true then (if (l1_2.length:Int)=0 then (some (bt761.1,mn (wrap64 (a1_1 + 1)) 1000000,bt761.2.2.1,bt761.2.2.2)) else (if a1_3 > 1 then (some (bt761.1,bt761.2.1,bt761.2.2.1,wrap64 (bt761.2.2.2 - 1))) else ((slices_Clone_int_int.f l1_2).bind fun t771=>(some (t771,0,([]:List Int),0))))) else (some (bt761.1,bt761.2.1,bt761.2.2.1,bt761.2.2.2))))
theorem impl_TickControl.mono:∀ a0 a1 a2 a3 a4 k,LeO (impl_TickControl.f k a0 a1 a2 a3 a4) (impl_TickControl.f (k + 1) a0 a1 a2 a3 a4):=by
 intro a0 a1 a2 a3 a4 k;unfold impl_TickControl.f;exact mz1 impl_IsControl.mono
set_option maxHeartbeats 8000000 in
set_option maxRecDepth 100000 in
theorem impl_TickControl.calls (k:Nat) (A0:Option Addr) (c0:Nat) (l0:List (S58)) (A1_0:Option Addr) (c1_0:Nat) (l1_0:List Int) (a1_1:Int) (A1_2:Option Addr) (c1_2:Nat) (l1_2:List Int) (a1_3:Int) (r1:List Int) (r2:Int) (r3:List Int) (r4:Int) (w:World) (hr0:Kd.C k58 w A0 l0.length l0) (hc0:l0.length≤c0) (hr1_0:Kd.C (Kd.int .i64) w A1_0 l1_0.length l1_0) (hc1_0:l1_0.length≤c1_0) (hr1_2:Kd.C (Kd.int .i64) w A1_2 l1_2.length l1_2) (hc1_2:l1_2.length≤c1_2) (h:impl_TickControl.f k l0 l1_0 a1_1 l1_2 a1_3=some (r1,r2,r3,r4)) :
  Calls Tryz.prog 43 #[.slice A0 l0.length c0,.agg #[.slice A1_0 l1_0.length c1_0,.int .i64 a1_1,.slice A1_2 l1_2.length c1_2,.int .i64 a1_3]] w fun e w'=>∃ v0_ v2_:Value,e=.returned (.agg #[v0_,.int .i64 r2,v2_,.int .i64 r4])∧Kd.R (Kd.int .i64) 3 w' w.heap.size (n1 v2_) v0_ r1∧Kd.R (Kd.int .i64) 3 w' w.heap.size (n1 v0_) v2_ r3∧Below w.heap.size w w':=by
 have hu27:=Tryz.underlying27;have HR0:=am hr0;have HC0:=am hc0;clear hr0 hc0;have HR1_0:=am hr1_0;have HC1_0:=am hc1_0;clear hr1_0 hc1_0;have HR1_2:=am hr1_2;have HC1_2:=am hc1_2;clear hr1_2 hc1_2;have HB:=am (Below.refl w.heap.size w);unfold impl_TickControl.f at h;have H:=h;clear h;obtain ⟨⟨t761,t764,t765,t768⟩,A3,H⟩:=bindE H;try dsimp only at H
 obtain ⟨t770,A4,H⟩:=bindE H;try dsimp only at H
 by_cases c5:t770=true
 ·subst c5;rw [if_pos rfl] at H;by_cases c6:(l1_2.length:Int)=0
  ·rw [if_pos c6] at H;obtain ⟨c6b0,c6b1⟩:=eI c6;clear c6;obtain ⟨ji7,hji7⟩:∃ j_:Int,(mn (wrap64 (a1_1 + 1)) 1000000)=j_:=⟨_,rfl⟩;replace H:(some (t761,ji7,t765,t768))=some (r1,r2,r3,r4):=by first|(rw [hji7] at H;exact H)|(simp only [hji7] at H ⊢;exact H)
   (try rw [hji7] at A3);(try rw [hji7] at A4);(try (have hji7h:ji7≤1000000:=by (rw [← hji7];unfold mn;(repeat' split) <;> omega)));(try (have hji7g:ji7≤64:=by omega));have hji7_:(if 1000000 < (wrap64 (a1_1 + 1)) then 1000000 else (wrap64 (a1_1 + 1)))=ji7:=hji7;simp only [Option.some.injEq,Prod.mk.injEq] at H;obtain ⟨rfl,rfl,rfl,rfl⟩:=H;go_enter Tryz.func43,Tryz.ntmps43;go_wp2_with (first|((with_reducible refine gd 3 ?_);refine bF w 3 #[.slice A1_0 l1_0.length c1_0,.int .i64 a1_1,.slice A1_2 l1_2.length c1_2,.int .i64 a1_3] 27 ?_;rintro gb759 w8 BK759 GW759 GE759 hb hg;replace HB:=bs HB hb;clear hb hg)|((with_reducible refine gd 4 ?_);refine bF w 4 #[.slice none 0 0,.int .i64 0,.slice none 0 0,.int .i64 0] 27 ?_;rintro gb760 w9 BK760 GW760 GE760 hb hg;replace HB:=bs HB hb;have NB759_760:=nl BK759 hg;have NB760_759:=nr BK759 hg;replace BK759:=kb BK759 hb;clear hb hg;have hnb10:=NB759_760.out;have hnc10:=NB760_759.out;obtain ⟨_,_,_,_,_,_,_,_⟩:=blkc4 BK759)|((with_reducible refine gc 20 ?_);refine gL (some 7) Tryz.func20 #[.agg #[.slice A1_0 l1_0.length c1_0,.int .i64 a1_1,.slice A1_2 l1_2.length c1_2,.int .i64 a1_3]] ?_;(with_reducible refine (impl_cloneControl.calls _ _ l1_0 a1_1 _ _ l1_2 a1_3 t761 t764 t765 t768 _ ?_ ?_ ?_ ?_ A3.out).mono ?_);exact cB HR1_0;exact HC1_0.out;exact cB HR1_2;exact HC1_2.out;rintro e w12 ⟨v762,v766,rfl,ho0,ho1,hb⟩;refine ⟨_,rfl,?_⟩;have HO763:=rl w ho0;have HO767:=rl w ho1;replace BK759:=kb BK759 hb;replace BK760:=kb BK760 hb;replace HB:=bs HB hb;(try clear hb);(try clear ho0);(try clear ho1))|((with_reducible refine gd 5 ?_);refine bF w 5 #[.slice none 0 0,.int .i64 0,.slice none 0 0,.int .i64 0] 27 ?_;rintro gb769 w13 BK769 GW769 GE769 hb hg;replace HO763:=rb HO763 hb;replace HO767:=rb HO767 hb;replace HB:=bs HB hb;have NB759_769:=nl BK759 hg;have NB769_759:=nr BK759 hg;replace BK759:=kb BK759 hb;have NB760_769:=nl BK760 hg;have NB769_760:=nr BK760 hg;replace BK760:=kb BK760 hb;clear hb hg;obtain ⟨Ao14,co14,eo14⟩:=Kd.R_slice HO763.out;subst eo14;have hnb15:=NB769_759.out;have hnc15:=NB759_769.out;have hnb16:=NB769_760.out;have hnc16:=NB760_769.out;obtain ⟨_,_,_,_,_,_,_,_⟩:=blkc4 BK769;obtain ⟨Ao18,co18,eo18⟩:=Kd.R_slice HO767.out;subst eo18;obtain ⟨_,_,_,_,_,_,_,_⟩:=blkc4 BK759)|((with_reducible refine gc 7 ?_);refine gL (some 15) Tryz.func7 #[.slice A0 l0.length c0,.agg #[.slice A1_0 l1_0.length c1_0,.int .i64 a1_1,.slice A1_2 l1_2.length c1_2,.int .i64 a1_3]] ?_;(with_reducible refine (impl_IsControl.calls k _ _ l0 _ _ l1_0 a1_1 _ _ l1_2 a1_3 true _ ?_ ?_ ?_ ?_ ?_ ?_ A4.out).mono ?_);exact Kd.C_below HR0.out bG;exact HC0.out;exact Kd.C_below HR1_0.out bG;exact HC1_0.out;exact Kd.C_below HR1_2.out bG;exact HC1_2.out;rintro e w20 ⟨rfl,hb⟩;refine ⟨_,rfl,?_⟩;replace HO763:=am (Kd.R_below (rf HO763 BK769) hb);replace HO767:=am (Kd.R_below (rf HO767 BK769) hb);replace BK759:=kc (kf BK759 NB759_769) hb;replace BK760:=kc (kf BK760 NB760_769) hb;replace BK769:=kc (o:=.cells #[.slice Ao14 t761.length co14,.int .i64 t764,.slice Ao18 t765.length co18,.int .i64 t768] 27 (0,0)) (kp BK769) hb;replace HB:=bs HB hb;(try clear hb);obtain ⟨_,_,_,_,_,_,_,_⟩:=blkc4 BK759;obtain ⟨_,_,_,_,_,_,_,_⟩:=blkc4 BK769;obtain ⟨_,_,_,_,_,_,_,_⟩:=blkc4 BK760));refine bodyPost_ret (results_cell_row rfl _ _ gb760 27 #[.slice Ao14 t761.length co14,.int .i64 ji7,.slice Ao18 t765.length co18,.int .i64 t768] (0,0) _ rfl (kP BK760 NB760_769) Tryz.underlying27 rfl (by kernel_rfl)) rfl ?_;exact ⟨_,_,by first|rfl|(simp [errW_none,errW_some] <;> rfl)|(simp only [← hji7];first|rfl|(simp [errW_none,errW_some] <;> rfl))|(simp [*,errW_none,errW_some] <;> rfl),by (with_reducible repeat (first|apply Kd.R_alloc|apply Kd.R_drewN|apply Kd.R_drew));exact Kd.R_mono (Kd.R_far (p:=⟨gb760,3,none⟩) (Kd.R_far (p:=⟨gb760,2,none⟩) (Kd.R_far (p:=⟨gb760,1,none⟩) (Kd.R_far (p:=⟨gb760,0,none⟩) (Kd.R_far (p:=⟨gb769,1,none⟩) (Kd.R_types (Kd.R_types HO763.out BK769.out (by decide)) BK760.out (by decide)) (fun _ hk=>hk.1.2) (.int .i64 ji7)) (fun _ hk=>hk.2) (.slice Ao14 t761.length co14)) (fun _ hk=>hk.2) (.int .i64 ji7)) (fun _ hk=>hk.2) (.slice Ao18 t765.length co18)) (fun _ hk=>hk.2) (.int .i64 t768)) (fun _ hk=>hk.1.1),by (with_reducible repeat (first|apply Kd.R_alloc|apply Kd.R_drewN|apply Kd.R_drew));exact Kd.R_mono (Kd.R_far (p:=⟨gb760,3,none⟩) (Kd.R_far (p:=⟨gb760,2,none⟩) (Kd.R_far (p:=⟨gb760,1,none⟩) (Kd.R_far (p:=⟨gb760,0,none⟩) (Kd.R_far (p:=⟨gb769,1,none⟩) (Kd.R_types (Kd.R_types HO767.out BK769.out (by decide)) BK760.out (by decide)) (fun _ hk=>hk.1.2) (.int .i64 ji7)) (fun _ hk=>hk.2) (.slice Ao14 t761.length co14)) (fun _ hk=>hk.2) (.int .i64 ji7)) (fun _ hk=>hk.2) (.slice Ao18 t765.length co18)) (fun _ hk=>hk.2) (.int .i64 t768)) (fun _ hk=>hk.1.1),bG⟩
  rw [if_neg c6] at H;obtain ⟨c6b0,c6b1⟩:=nI c6;have c6b2:¬ (l1_2=[]):=fun h_=>c6 (by rw [h_];rfl);by_cases c24:a1_3 > 1
  ·rw [if_pos c24] at H;have c24b0:=dt c24;clear c24;simp only [Option.some.injEq,Prod.mk.injEq] at H;obtain ⟨rfl,rfl,rfl,rfl⟩:=H;go_enter Tryz.func43,Tryz.ntmps43;go_wp2_with (first|((with_reducible refine gd 3 ?_);refine bF w 3 #[.slice A1_0 l1_0.length c1_0,.int .i64 a1_1,.slice A1_2 l1_2.length c1_2,.int .i64 a1_3] 27 ?_;rintro gb759 w25 BK759 GW759 GE759 hb hg;replace HB:=bs HB hb;clear hb hg)|((with_reducible refine gd 4 ?_);refine bF w 4 #[.slice none 0 0,.int .i64 0,.slice none 0 0,.int .i64 0] 27 ?_;rintro gb760 w26 BK760 GW760 GE760 hb hg;replace HB:=bs HB hb;have NB759_760:=nl BK759 hg;have NB760_759:=nr BK759 hg;replace BK759:=kb BK759 hb;clear hb hg;have hnb27:=NB759_760.out;have hnc27:=NB760_759.out;obtain ⟨_,_,_,_,_,_,_,_⟩:=blkc4 BK759)|((with_reducible refine gc 20 ?_);refine gL (some 7) Tryz.func20 #[.agg #[.slice A1_0 l1_0.length c1_0,.int .i64 a1_1,.slice A1_2 l1_2.length c1_2,.int .i64 a1_3]] ?_;(with_reducible refine (impl_cloneControl.calls _ _ l1_0 a1_1 _ _ l1_2 a1_3 t761 t764 t765 t768 _ ?_ ?_ ?_ ?_ A3.out).mono ?_);exact cB HR1_0;exact HC1_0.out;exact cB HR1_2;exact HC1_2.out;rintro e w29 ⟨v762,v766,rfl,ho0,ho1,hb⟩;refine ⟨_,rfl,?_⟩;have HO763:=rl w ho0;have HO767:=rl w ho1;replace BK759:=kb BK759 hb;replace BK760:=kb BK760 hb;replace HB:=bs HB hb;(try clear hb);(try clear ho0);(try clear ho1))|((with_reducible refine gd 5 ?_);refine bF w 5 #[.slice none 0 0,.int .i64 0,.slice none 0 0,.int .i64 0] 27 ?_;rintro gb769 w30 BK769 GW769 GE769 hb hg;replace HO763:=rb HO763 hb;replace HO767:=rb HO767 hb;replace HB:=bs HB hb;have NB759_769:=nl BK759 hg;have NB769_759:=nr BK759 hg;replace BK759:=kb BK759 hb;have NB760_769:=nl BK760 hg;have NB769_760:=nr BK760 hg;replace BK760:=kb BK760 hb;clear hb hg;obtain ⟨Ao31,co31,eo31⟩:=Kd.R_slice HO763.out;subst eo31;have hnb32:=NB769_759.out;have hnc32:=NB759_769.out;have hnb33:=NB769_760.out;have hnc33:=NB760_769.out;obtain ⟨_,_,_,_,_,_,_,_⟩:=blkc4 BK769;obtain ⟨Ao35,co35,eo35⟩:=Kd.R_slice HO767.out;subst eo35;obtain ⟨_,_,_,_,_,_,_,_⟩:=blkc4 BK759)|((with_reducible refine gc 7 ?_);refine gL (some 15) Tryz.func7 #[.slice A0 l0.length c0,.agg #[.slice A1_0 l1_0.length c1_0,.int .i64 a1_1,.slice A1_2 l1_2.length c1_2,.int .i64 a1_3]] ?_;(with_reducible refine (impl_IsControl.calls k _ _ l0 _ _ l1_0 a1_1 _ _ l1_2 a1_3 true _ ?_ ?_ ?_ ?_ ?_ ?_ A4.out).mono ?_);exact Kd.C_below HR0.out bG;exact HC0.out;exact Kd.C_below HR1_0.out bG;exact HC1_0.out;exact Kd.C_below HR1_2.out bG;exact HC1_2.out;rintro e w37 ⟨rfl,hb⟩;refine ⟨_,rfl,?_⟩;replace HO763:=am (Kd.R_below (rf HO763 BK769) hb);replace HO767:=am (Kd.R_below (rf HO767 BK769) hb);replace BK759:=kc (kf BK759 NB759_769) hb;replace BK760:=kc (kf BK760 NB760_769) hb;replace BK769:=kc (o:=.cells #[.slice Ao31 t761.length co31,.int .i64 t764,.slice Ao35 t765.length co35,.int .i64 t768] 27 (0,0)) (kp BK769) hb;replace HB:=bs HB hb;(try clear hb);obtain ⟨_,_,_,_,_,_,_,_⟩:=blkc4 BK759;obtain ⟨_,_,_,_,_,_,_,_⟩:=blkc4 BK769;obtain ⟨_,_,_,_,_,_,_,_⟩:=blkc4 BK760));refine bodyPost_ret (results_cell_row rfl _ _ gb760 27 #[.slice Ao31 t761.length co31,.int .i64 t764,.slice Ao35 t765.length co35,.int .i64 (wrap64 (t768 - 1))] (0,0) _ rfl (kP BK760 NB760_769) Tryz.underlying27 rfl (by kernel_rfl)) rfl ?_;exact ⟨_,_,rA,by (with_reducible repeat (first|apply Kd.R_alloc|apply Kd.R_drewN|apply Kd.R_drew));exact Kd.R_mono (Kd.R_far (p:=⟨gb760,3,none⟩) (Kd.R_far (p:=⟨gb760,2,none⟩) (Kd.R_far (p:=⟨gb760,1,none⟩) (Kd.R_far (p:=⟨gb760,0,none⟩) (Kd.R_far (p:=⟨gb769,3,none⟩) (Kd.R_types (Kd.R_types HO763.out BK769.out (by decide)) BK760.out (by decide)) (fun _ hk=>hk.1.2) (.int .i64 (wrap64 (t768 - 1)))) (fun _ hk=>hk.2) (.slice Ao31 t761.length co31)) (fun _ hk=>hk.2) (.int .i64 t764)) (fun _ hk=>hk.2) (.slice Ao35 t765.length co35)) (fun _ hk=>hk.2) (.int .i64 (wrap64 (t768 - 1)))) (fun _ hk=>hk.1.1),by (with_reducible repeat (first|apply Kd.R_alloc|apply Kd.R_drewN|apply Kd.R_drew));exact Kd.R_mono (Kd.R_far (p:=⟨gb760,3,none⟩) (Kd.R_far (p:=⟨gb760,2,none⟩) (Kd.R_far (p:=⟨gb760,1,none⟩) (Kd.R_far (p:=⟨gb760,0,none⟩) (Kd.R_far (p:=⟨gb769,3,none⟩) (Kd.R_types (Kd.R_types HO767.out BK769.out (by decide)) BK760.out (by decide)) (fun _ hk=>hk.1.2) (.int .i64 (wrap64 (t768 - 1)))) (fun _ hk=>hk.2) (.slice Ao31 t761.length co31)) (fun _ hk=>hk.2) (.int .i64 t764)) (fun _ hk=>hk.2) (.slice Ao35 t765.length co35)) (fun _ hk=>hk.2) (.int .i64 (wrap64 (t768 - 1)))) (fun _ hk=>hk.1.1),bG⟩
  rw [if_neg c24] at H;have c24b0:=df c24;clear c24;obtain ⟨t771,A41,H⟩:=bindE H;try dsimp only at H
  simp only [Option.some.injEq,Prod.mk.injEq] at H;obtain ⟨rfl,rfl,rfl,rfl⟩:=H;go_enter Tryz.func43,Tryz.ntmps43;go_wp2_with (first|((with_reducible refine gd 3 ?_);refine bF w 3 #[.slice A1_0 l1_0.length c1_0,.int .i64 a1_1,.slice A1_2 l1_2.length c1_2,.int .i64 a1_3] 27 ?_;rintro gb759 w42 BK759 GW759 GE759 hb hg;replace HB:=bs HB hb;clear hb hg)|((with_reducible refine gd 4 ?_);refine bF w 4 #[.slice none 0 0,.int .i64 0,.slice none 0 0,.int .i64 0] 27 ?_;rintro gb760 w43 BK760 GW760 GE760 hb hg;replace HB:=bs HB hb;have NB759_760:=nl BK759 hg;have NB760_759:=nr BK759 hg;replace BK759:=kb BK759 hb;clear hb hg;have hnb44:=NB759_760.out;have hnc44:=NB760_759.out;obtain ⟨_,_,_,_,_,_,_,_⟩:=blkc4 BK759)|((with_reducible refine gc 20 ?_);refine gL (some 7) Tryz.func20 #[.agg #[.slice A1_0 l1_0.length c1_0,.int .i64 a1_1,.slice A1_2 l1_2.length c1_2,.int .i64 a1_3]] ?_;(with_reducible refine (impl_cloneControl.calls _ _ l1_0 a1_1 _ _ l1_2 a1_3 t761 t764 t765 t768 _ ?_ ?_ ?_ ?_ A3.out).mono ?_);exact cB HR1_0;exact HC1_0.out;exact cB HR1_2;exact HC1_2.out;rintro e w46 ⟨v762,v766,rfl,ho0,ho1,hb⟩;refine ⟨_,rfl,?_⟩;have HO763:=rl w ho0;have HO767:=rl w ho1;replace BK759:=kb BK759 hb;replace BK760:=kb BK760 hb;replace HB:=bs HB hb;(try clear hb);(try clear ho0);(try clear ho1))|((with_reducible refine gd 5 ?_);refine bF w 5 #[.slice none 0 0,.int .i64 0,.slice none 0 0,.int .i64 0] 27 ?_;rintro gb769 w47 BK769 GW769 GE769 hb hg;replace HO763:=rb HO763 hb;replace HO767:=rb HO767 hb;replace HB:=bs HB hb;have NB759_769:=nl BK759 hg;have NB769_759:=nr BK759 hg;replace BK759:=kb BK759 hb;have NB760_769:=nl BK760 hg;have NB769_760:=nr BK760 hg;replace BK760:=kb BK760 hb;clear hb hg;obtain ⟨Ao48,co48,eo48⟩:=Kd.R_slice HO763.out;subst eo48;have hnb49:=NB769_759.out;have hnc49:=NB759_769.out;have hnb50:=NB769_760.out;have hnc50:=NB760_769.out;obtain ⟨_,_,_,_,_,_,_,_⟩:=blkc4 BK769;obtain ⟨Ao52,co52,eo52⟩:=Kd.R_slice HO767.out;subst eo52;obtain ⟨_,_,_,_,_,_,_,_⟩:=blkc4 BK759)|((with_reducible refine gc 7 ?_);refine gL (some 15) Tryz.func7 #[.slice A0 l0.length c0,.agg #[.slice A1_0 l1_0.length c1_0,.int .i64 a1_1,.slice A1_2 l1_2.length c1_2,.int .i64 a1_3]] ?_;(with_reducible refine (impl_IsControl.calls k _ _ l0 _ _ l1_0 a1_1 _ _ l1_2 a1_3 true _ ?_ ?_ ?_ ?_ ?_ ?_ A4.out).mono ?_);exact Kd.C_below HR0.out bG;exact HC0.out;exact Kd.C_below HR1_0.out bG;exact HC1_0.out;exact Kd.C_below HR1_2.out bG;exact HC1_2.out;rintro e w54 ⟨rfl,hb⟩;refine ⟨_,rfl,?_⟩;replace HO763:=am (Kd.R_below (rf HO763 BK769) hb);replace HO767:=am (Kd.R_below (rf HO767 BK769) hb);replace BK759:=kc (kf BK759 NB759_769) hb;replace BK760:=kc (kf BK760 NB760_769) hb;replace BK769:=kc (o:=.cells #[.slice Ao48 t761.length co48,.int .i64 t764,.slice Ao52 t765.length co52,.int .i64 t768] 27 (0,0)) (kp BK769) hb;replace HB:=bs HB hb;(try clear hb);obtain ⟨_,_,_,_,_,_,_,_⟩:=blkc4 BK759)|((with_reducible refine gc 41 ?_);refine gL (some 10) Tryz.func41 #[.slice A1_2 l1_2.length c1_2] ?_;(with_reducible refine (slices_Clone_int_int.calls _ _ l1_2 t771 _ ?_ ?_ A41.out).mono ?_);exact cB HR1_2;exact HC1_2.out;rintro e w56 ⟨v772,rfl,ho0,hb⟩;refine ⟨_,rfl,?_⟩;have HO773:=rl w (rn (rn ho0 HO763) HO767);replace HO763:=re HO763 ho0 hb;replace HO767:=re HO767 ho0 hb;replace BK759:=kb BK759 hb;replace BK760:=kb BK760 hb;replace BK769:=kb BK769 hb;replace HB:=bs HB hb;(try clear hb);(try clear ho0);obtain ⟨Ao57,co57,eo57⟩:=Kd.R_slice HO773.out;subst eo57;obtain ⟨_,_,_,_,_,_,_,_⟩:=blkc4 BK760));refine bodyPost_ret (results_cell_row rfl _ _ gb760 27 #[.slice Ao57 t771.length co57,.int .i64 0,.slice none 0 0,.int .i64 0] (0,0) _ rfl (kp BK760) Tryz.underlying27 rfl (by kernel_rfl)) rfl ?_;exact ⟨_,_,rA,Kd.R_mono (rf HO773 BK760) (fun _ hk=>(by simp [Value.ownBlock])),by first|exact Kd.R_nil _ _ _ _ _|exact Kd.N_nil _ _ _ _ _|exact Kd.V_nil _ _ _ _ _|exact Kd.Q_nil _ _ _ _ _|exact Kd.S_nil _ _ _ _ _,bG⟩
 replace c5:=Bool.eq_false_iff.mpr c5;subst c5;rw [if_neg Bool.false_ne_true] at H;simp only [Option.some.injEq,Prod.mk.injEq] at H;obtain ⟨rfl,rfl,rfl,rfl⟩:=H;go_enter Tryz.func43,Tryz.ntmps43;go_wp2_with (first|((with_reducible refine gd 3 ?_);refine bF w 3 #[.slice A1_0 l1_0.length c1_0,.int .i64 a1_1,.slice A1_2 l1_2.length c1_2,.int .i64 a1_3] 27 ?_;rintro gb759 w59 BK759 GW759 GE759 hb hg;replace HB:=bs HB hb;clear hb hg)|((with_reducible refine gd 4 ?_);refine bF w 4 #[.slice none 0 0,.int .i64 0,.slice none 0 0,.int .i64 0] 27 ?_;rintro gb760 w60 BK760 GW760 GE760 hb hg;replace HB:=bs HB hb;have NB759_760:=nl BK759 hg;have NB760_759:=nr BK759 hg;replace BK759:=kb BK759 hb;clear hb hg;have hnb61:=NB759_760.out;have hnc61:=NB760_759.out;obtain ⟨_,_,_,_,_,_,_,_⟩:=blkc4 BK759)|((with_reducible refine gc 20 ?_);refine gL (some 7) Tryz.func20 #[.agg #[.slice A1_0 l1_0.length c1_0,.int .i64 a1_1,.slice A1_2 l1_2.length c1_2,.int .i64 a1_3]] ?_;(with_reducible refine (impl_cloneControl.calls _ _ l1_0 a1_1 _ _ l1_2 a1_3 t761 t764 t765 t768 _ ?_ ?_ ?_ ?_ A3.out).mono ?_);exact cB HR1_0;exact HC1_0.out;exact cB HR1_2;exact HC1_2.out;rintro e w63 ⟨v762,v766,rfl,ho0,ho1,hb⟩;refine ⟨_,rfl,?_⟩;have HO763:=rl w ho0;have HO767:=rl w ho1;replace BK759:=kb BK759 hb;replace BK760:=kb BK760 hb;replace HB:=bs HB hb;(try clear hb);(try clear ho0);(try clear ho1))|((with_reducible refine gd 5 ?_);refine bF w 5 #[.slice none 0 0,.int .i64 0,.slice none 0 0,.int .i64 0] 27 ?_;rintro gb769 w64 BK769 GW769 GE769 hb hg;replace HO763:=rb HO763 hb;replace HO767:=rb HO767 hb;replace HB:=bs HB hb;have NB759_769:=nl BK759 hg;have NB769_759:=nr BK759 hg;replace BK759:=kb BK759 hb;have NB760_769:=nl BK760 hg;have NB769_760:=nr BK760 hg;replace BK760:=kb BK760 hb;clear hb hg;obtain ⟨Ao65,co65,eo65⟩:=Kd.R_slice HO763.out;subst eo65;have hnb66:=NB769_759.out;have hnc66:=NB759_769.out;have hnb67:=NB769_760.out;have hnc67:=NB760_769.out;obtain ⟨_,_,_,_,_,_,_,_⟩:=blkc4 BK769;obtain ⟨Ao69,co69,eo69⟩:=Kd.R_slice HO767.out;subst eo69;obtain ⟨_,_,_,_,_,_,_,_⟩:=blkc4 BK759)|((with_reducible refine gc 7 ?_);refine gL (some 15) Tryz.func7 #[.slice A0 l0.length c0,.agg #[.slice A1_0 l1_0.length c1_0,.int .i64 a1_1,.slice A1_2 l1_2.length c1_2,.int .i64 a1_3]] ?_;(with_reducible refine (impl_IsControl.calls k _ _ l0 _ _ l1_0 a1_1 _ _ l1_2 a1_3 false _ ?_ ?_ ?_ ?_ ?_ ?_ A4.out).mono ?_);exact Kd.C_below HR0.out bG;exact HC0.out;exact Kd.C_below HR1_0.out bG;exact HC1_0.out;exact Kd.C_below HR1_2.out bG;exact HC1_2.out;rintro e w71 ⟨rfl,hb⟩;refine ⟨_,rfl,?_⟩;replace HO763:=am (Kd.R_below (rf HO763 BK769) hb);replace HO767:=am (Kd.R_below (rf HO767 BK769) hb);replace BK759:=kc (kf BK759 NB759_769) hb;replace BK760:=kc (kf BK760 NB760_769) hb;replace BK769:=kc (o:=.cells #[.slice Ao65 t761.length co65,.int .i64 t764,.slice Ao69 t765.length co69,.int .i64 t768] 27 (0,0)) (kp BK769) hb;replace HB:=bs HB hb;(try clear hb);obtain ⟨_,_,_,_,_,_,_,_⟩:=blkc4 BK769;obtain ⟨_,_,_,_,_,_,_,_⟩:=blkc4 BK760));refine bodyPost_ret (results_cell_row rfl _ _ gb760 27 #[.slice Ao65 t761.length co65,.int .i64 t764,.slice Ao69 t765.length co69,.int .i64 t768] (0,0) _ rfl (kp BK760) Tryz.underlying27 rfl (by kernel_rfl)) rfl ?_;exact ⟨_,_,rA,rf HO763 BK760,rf HO767 BK760,bG⟩

/-! ### impl_asked: function 22 -/
def impl_asked.f (k:Nat) (l0:List (S58)) (l1_0:List Int) (a1_1:Int) (l1_2:List Int) (a1_3:Int) (l2:List (S39)):Option (List Int × Int × List Int × Int):=(impl_MustChange.f k l0 l1_0 a1_1 l1_2 a1_3 l2).bind fun t776=>(if t776=true then ((impl_NextStage.f k l0 l1_0 a1_1 l1_2 a1_3 l2).bind fun t777=>((impl_AskStage.f k l0 l1_0 a1_1 l1_2 a1_3 t777).bind fun bt780=>(some (bt780.1,bt780.2.1,bt780.2.2.1,bt780.2.2.2.1)))) else ((impl_TickControl.f k l0 l1_0 a1_1 l1_2 a1_3).bind fun bt790=>(some (bt790.1,bt790.2.1,bt790.2.2.1,bt790.2.2.2))))
theorem impl_asked.mono:∀ a0 a1 a2 a3 a4 a5 k,LeO (impl_asked.f k a0 a1 a2 a3 a4 a5) (impl_asked.f (k + 1) a0 a1 a2 a3 a4 a5):=by
 intro a0 a1 a2 a3 a4 a5 k;unfold impl_asked.f;exact mz4 impl_AskStage.mono impl_MustChange.mono impl_NextStage.mono impl_TickControl.mono
def impl_asked.T2:Bool × List (List Nat × List Nat):=(true,[([],[]),([],[]),([],[]),([],[]),([],[]),([2,3,4],[2,3,4]),([0,1,5,5],[0,1,5]),([6],[6]),([7],[7]),([7],[7]),([],[]),([10,8,6,0,1,2,3,4,5,6,7,8,10],[8,10]),([9,11,0,1,2,3,4,5,6,7,8,9,10,11],[9])])
def impl_asked.B2:List Nat:=[0,0,0,0,0,28,63,127,255,255,0,1535,4095]
theorem impl_asked.tab2:rtab .any (opsOf Tryz.f22 2)=impl_asked.T2:=by kernel_rfl
theorem impl_asked.bits2:waitsOk impl_asked.T2.2 impl_asked.B2=true:=by kernel_rfl
set_option maxHeartbeats 8000000 in
set_option maxRecDepth 100000 in
theorem impl_asked.calls (k:Nat) (A0:Option Addr) (c0:Nat) (l0:List (S58)) (A1_0:Option Addr) (c1_0:Nat) (l1_0:List Int) (a1_1:Int) (A1_2:Option Addr) (c1_2:Nat) (l1_2:List Int) (a1_3:Int) (A2:Option Addr) (c2:Nat) (l2:List (S39)) (r1:List Int) (r2:Int) (r3:List Int) (r4:Int) (w:World) (hr0:Kd.C k58 w A0 l0.length l0) (hc0:l0.length≤c0) (hr1_0:Kd.C (Kd.int .i64) w A1_0 l1_0.length l1_0) (hc1_0:l1_0.length≤c1_0) (hr1_2:Kd.C (Kd.int .i64) w A1_2 l1_2.length l1_2) (hc1_2:l1_2.length≤c1_2) (hr2:Kd.C k39 w A2 l2.length l2) (hc2:l2.length≤c2) (h:impl_asked.f k l0 l1_0 a1_1 l1_2 a1_3 l2=some (r1,r2,r3,r4)) :
  Calls Tryz.prog 22 #[.slice A0 l0.length c0,.agg #[.slice A1_0 l1_0.length c1_0,.int .i64 a1_1,.slice A1_2 l1_2.length c1_2,.int .i64 a1_3],.slice A2 l2.length c2] w fun e w'=>∃ v0_ v2_:Value,e=.returned (.agg #[v0_,.int .i64 r2,v2_,.int .i64 r4])∧Kd.R (Kd.int .i64) 3 w' w.heap.size (n1 v2_) v0_ r1∧Kd.R (Kd.int .i64) 3 w' w.heap.size (n1 v0_) v2_ r3∧Below w.heap.size w w':=by
 have hu27:=Tryz.underlying27;have HR0:=am hr0;have HC0:=am hc0;clear hr0 hc0;have HR1_0:=am hr1_0;have HC1_0:=am hc1_0;clear hr1_0 hc1_0;have HR1_2:=am hr1_2;have HC1_2:=am hc1_2;clear hr1_2 hc1_2;have HR2:=am hr2;have HC2:=am hc2;clear hr2 hc2;have HB:=am (Below.refl w.heap.size w);unfold impl_asked.f at h;have H:=h;clear h;obtain ⟨t776,A4,H⟩:=bindE H;try dsimp only at H
 by_cases c5:t776=true
 ·subst c5;rw [if_pos rfl] at H;obtain ⟨t777,A6,H⟩:=bindE H;try dsimp only at H
  obtain ⟨⟨t780,t783,t784,t787,t788⟩,A7,H⟩:=bindE H;try dsimp only at H
  simp only [Option.some.injEq,Prod.mk.injEq] at H;obtain ⟨rfl,rfl,rfl,rfl⟩:=H;go_enter Tryz.func22,Tryz.ntmps22;try go_wp2_with (first|((with_reducible refine gd 4 ?_);refine bF w 4 #[.slice A1_0 l1_0.length c1_0,.int .i64 a1_1,.slice A1_2 l1_2.length c1_2,.int .i64 a1_3] 27 ?_;rintro gb774 w8 BK774 GW774 GE774 hb hg;replace HB:=bs HB hb;clear hb hg)|((with_reducible refine gd 6 ?_);refine bF w 6 #[.slice none 0 0,.int .i64 0,.slice none 0 0,.int .i64 0] 27 ?_;rintro gb775 w9 BK775 GW775 GE775 hb hg;replace HB:=bs HB hb;have NB774_775:=nl BK774 hg;have NB775_774:=nr BK774 hg;replace BK774:=kb BK774 hb;clear hb hg;have hnb10:=NB774_775.out;have hnc10:=NB775_774.out;obtain ⟨_,_,_,_,_,_,_,_⟩:=blkc4 BK774)|((with_reducible refine gc 12 ?_);refine gL (some 12) Tryz.func12 #[.slice A0 l0.length c0,.agg #[.slice A1_0 l1_0.length c1_0,.int .i64 a1_1,.slice A1_2 l1_2.length c1_2,.int .i64 a1_3],.slice A2 l2.length c2] ?_;(with_reducible refine (impl_MustChange.calls k _ _ l0 _ _ l1_0 a1_1 _ _ l1_2 a1_3 _ _ l2 true _ ?_ ?_ ?_ ?_ ?_ ?_ ?_ ?_ A4.out).mono ?_);exact cB HR0;exact HC0.out;exact cB HR1_0;exact HC1_0.out;exact cB HR1_2;exact HC1_2.out;exact cB HR2;exact HC2.out;rintro e w12 ⟨rfl,hb⟩;refine ⟨_,rfl,?_⟩;replace BK774:=kb BK774 hb;replace BK775:=kb BK775 hb;replace HB:=bs HB hb;(try clear hb)))
  replace BK774:=dk BK774;replace BK775:=dk BK775;have HBo:=HB;replace HB:=db HB;refine sw (ds:=[]) 13 (mb 13 0) impl_asked.tab2 impl_asked.bits2 (h4 BK774) (fun hHeld HT_ HW_=>?_);generalize w12.drew=w13 at BK774 BK775 HB hHeld ⊢;refine pz [0,2,4,1,3] ?_;refine join_ (σ:=Value × Value × Value × Nat) 2 (mb 13 2047) (fun s_=>[(19,s_.1),(20,.tuple #[.agg #[s_.2.1,.int .i64 t783,s_.2.2.1,.int .i64 t787],.bool t788]),(7,.pointer (some ⟨s_.2.2.2,0,none⟩)),(13,.tuple #[.agg #[s_.2.1,.int .i64 t783,s_.2.2.1,.int .i64 t787],.bool t788]),(21,.agg #[s_.2.1,.int .i64 t783,s_.2.2.1,.int .i64 t787]),(22,.bool t788)]) (fun s_ w'=>(w'.cell? ⟨gb774,0,none⟩=some (.slice A1_0 l1_0.length c1_0)∧w'.cell? ⟨gb774,1,none⟩=some (.int .i64 a1_1)∧w'.cell? ⟨gb774,2,none⟩=some (.slice A1_2 l1_2.length c1_2)∧w'.cell? ⟨gb774,3,none⟩=some (.int .i64 a1_3))∧(Kd.R (Kd.int .i64) 3 w' w.heap.size (n2 s_.2.1 s_.2.2.1) s_.1 t777)∧(Kd.R (Kd.int .i64) 3 w' w.heap.size (n2 s_.1 s_.2.2.1) s_.2.1 t780)∧(Kd.R (Kd.int .i64) 3 w' w.heap.size (n2 s_.1 s_.2.1) s_.2.2.1 t784)∧(w'.heap[gb774]?=some (.cells #[.slice A1_0 l1_0.length c1_0,.int .i64 a1_1,.slice A1_2 l1_2.length c1_2,.int .i64 a1_3] 27 (0,0)))∧(w'.heap[gb775]?=some (.cells #[.slice none 0 0,.int .i64 0,.slice none 0 0,.int .i64 0] 27 (0,0)))∧(w'.heap[s_.2.2.2]?=some (.cells #[.slice none 0 0,.int .i64 0,.slice none 0 0,.int .i64 0] 27 (0,0)))∧(w.heap.size≤s_.2.2.2)∧(w.heap.size≤s_.2.2.2)∧(gb774≠s_.2.2.2)∧(s_.2.2.2≠gb774)∧(gb775≠s_.2.2.2)∧(s_.2.2.2≠gb775)∧(Below w.heap.size w w')) ?_ ?_;rotate_left
  ·intro hCont;refine two_ (i:=5) (j:=10) (Ni:=some 19) (Nj:=some 7) (mb 13 63) (mb 13 1055) rfl rfl rfl rfl (two_of HT_.out (by kernel_rfl)) (by decide) (by decide) (fun K hK=>?_) (fun K hK=>?_)
   ·skip
    refine gA Tryz.func14 #[.slice A0 l0.length c0,.agg #[.slice A1_0 l1_0.length c1_0,.int .i64 a1_1,.slice A1_2 l1_2.length c1_2,.int .i64 a1_3],.slice A2 l2.length c2] ?_;(with_reducible refine (impl_NextStage.calls k _ _ l0 _ _ l1_0 a1_1 _ _ l1_2 a1_3 _ _ l2 t777 _ ?_ ?_ ?_ ?_ ?_ ?_ ?_ ?_ A6.out).mono ?_);exact cB HR0;exact HC0.out;exact cB HR1_0;exact HC1_0.out;exact cB HR1_2;exact HC1_2.out;exact cB HR2;exact HC2.out;rintro e w14 ⟨v778,rfl,ho0,hb⟩;refine ⟨_,rfl,?_⟩;have HO779:=rl w ho0;replace BK774:=kb BK774 hb;replace BK775:=kb BK775 hb;replace HB:=bs HB hb;(try clear hb);(try clear ho0);obtain ⟨Ao15,co15,eo15⟩:=Kd.R_slice HO779.out;(first|subst eo15|(injection eo15 with f1_ f2_ f3_;have f4_:=f1_.symm;have f5_:=f3_.symm;clear f1_ f2_ f3_;subst f4_;subst f5_));refine hK.out _ _ (cn4 BK774) (fun hHeld=>?_);clear hK K;refine nB ?_;refine two_ (i:=6) (j:=10) (Ni:=some 20) (Nj:=some 7) (mb 13 127) (mb 13 1087) rfl rfl rfl rfl (two_of HT_.out (by kernel_rfl)) (by decide) (by decide) (fun K hK=>?_) (fun K hK=>?_)
    ·skip
     refine gA Tryz.func42 #[.slice A0 l0.length c0,.agg #[.slice A1_0 l1_0.length c1_0,.int .i64 a1_1,.slice A1_2 l1_2.length c1_2,.int .i64 a1_3],.slice Ao15 t777.length co15] ?_;(with_reducible refine (impl_AskStage.calls k _ _ l0 _ _ l1_0 a1_1 _ _ l1_2 a1_3 _ _ t777 t780 t783 t784 t787 t788 _ ?_ ?_ ?_ ?_ ?_ ?_ ?_ ?_ A7.out).mono ?_);exact cB HR0;exact HC0.out;exact cB HR1_0;exact HC1_0.out;exact cB HR1_2;exact HC1_2.out;exact cO ⟨(Kd.R_reads' HO779.out).2.2⟩;exact (Kd.R_reads' HO779.out).2.1;rintro e w16 ⟨v781,v785,rfl,ho0,ho1,hb⟩;refine ⟨_,rfl,?_⟩;have HO782:=rl w (rn ho0 HO779);have HO786:=rl w (rn ho1 HO779);replace HO779:=rt2 HO779 hb ho0 ho1;replace BK774:=kb BK774 hb;replace BK775:=kb BK775 hb;replace HB:=bs HB hb;(try clear hb);(try clear ho0);(try clear ho1);refine hK.out _ _ (cn4 BK774) (fun hHeld=>?_);clear hK K;refine nB ?_;refine pz [7,8,9] ?_;refine oa 10 7 (mb 13 2047) HT_ (fun K hK=>?_);refine box_step ?hg (N:=7) ?hd (cs:=#[.slice none 0 0,.int .i64 0,.slice none 0 0,.int .i64 0]) (t:=27) ?hr ?_;(case hd=>rfl);(case hg=>rfl);(case hr=>first|(go_simp;done)|(go_simp;rfl));intro gb789 hg w17 hbox hb;replace HO779:=rb HO779 hb;replace HO782:=rb HO782 hb;replace HO786:=rb HO786 hb;have BK789:=am (hbox);have GW789:=gw w hg;have GE789:=gw w hg;replace HB:=bs HB hb;have NB774_789:=nl BK774 hg;have NB789_774:=nr BK774 hg;replace BK774:=kb BK774 hb;have NB775_789:=nl BK775 hg;have NB789_775:=nr BK775 hg;replace BK775:=kb BK775 hb;clear hb hbox hg;refine hK.out _ _ (cn4 BK774) (fun hHeld=>?_);clear hK K;refine nB ?_;exact mB (hCont (.slice Ao15 t777.length co15,v781,v785,gb789) _ ⟨hHeld,(rm HO779 (fun _ hk=>⟨hk.1.2,hk.2⟩)),(rm HO782 (fun _ hk=>⟨hk.2,hk.1⟩)),(rm HO786 (fun _ hk=>⟨hk.2,hk.1⟩)),(bK BK774),(bK BK775),(bK BK789),GW789.out,GE789.out,NB774_789.out,NB789_774.out,NB775_789.out,NB789_775.out,bG⟩)
    ·skip
     refine box_step ?hg (N:=7) ?hd (cs:=#[.slice none 0 0,.int .i64 0,.slice none 0 0,.int .i64 0]) (t:=27) ?hr ?_;(case hd=>rfl);(case hg=>rfl);(case hr=>first|(go_simp;done)|(go_simp;rfl));intro gb789 hg w15 hbox hb;replace HO779:=rb HO779 hb;have BK789:=am (hbox);have GW789:=gw w hg;have GE789:=gw w hg;replace HB:=bs HB hb;have NB774_789:=nl BK774 hg;have NB789_774:=nr BK774 hg;replace BK774:=kb BK774 hb;have NB775_789:=nl BK775 hg;have NB789_775:=nr BK775 hg;replace BK775:=kb BK775 hb;clear hb hbox hg;obtain ⟨Ao16,co16,eo16⟩:=Kd.R_slice HO779.out;(first|subst eo16|(injection eo16 with f1_ f2_ f3_;have f4_:=f1_.symm;have f5_:=f3_.symm;clear f1_ f2_ f3_;subst f4_;subst f5_));refine hK.out _ _ (cn4 BK774) (fun hHeld=>?_);clear hK K;refine nB ?_;refine oa 6 20 (mb 13 1151) HT_ (fun K hK=>?_);refine gA Tryz.func42 #[.slice A0 l0.length c0,.agg #[.slice A1_0 l1_0.length c1_0,.int .i64 a1_1,.slice A1_2 l1_2.length c1_2,.int .i64 a1_3],.slice Ao16 t777.length co16] ?_;(with_reducible refine (impl_AskStage.calls k _ _ l0 _ _ l1_0 a1_1 _ _ l1_2 a1_3 _ _ t777 t780 t783 t784 t787 t788 _ ?_ ?_ ?_ ?_ ?_ ?_ ?_ ?_ A7.out).mono ?_);exact cB HR0;exact HC0.out;exact cB HR1_0;exact HC1_0.out;exact cB HR1_2;exact HC1_2.out;exact cO ⟨(Kd.R_reads' HO779.out).2.2⟩;exact (Kd.R_reads' HO779.out).2.1;rintro e w17 ⟨v781,v785,rfl,ho0,ho1,hb⟩;refine ⟨_,rfl,?_⟩;have HO782:=rl w (rn ho0 HO779);have HO786:=rl w (rn ho1 HO779);replace HO779:=rt2 HO779 hb ho0 ho1;replace BK774:=kb BK774 hb;replace BK775:=kb BK775 hb;replace BK789:=kb BK789 hb;replace HB:=bs HB hb;(try clear hb);(try clear ho0);(try clear ho1);refine hK.out _ _ (cn4 BK774) (fun hHeld=>?_);clear hK K;refine nB ?_;refine pz [7,8,9] ?_;exact mB (hCont (.slice Ao16 t777.length co16,v781,v785,gb789) _ ⟨hHeld,(rm HO779 (fun _ hk=>⟨hk.1.2,hk.2⟩)),(rm HO782 (fun _ hk=>⟨hk.2,hk.1⟩)),(rm HO786 (fun _ hk=>⟨hk.2,hk.1⟩)),(bK BK774),(bK BK775),(bK BK789),GW789.out,GE789.out,NB774_789.out,NB789_774.out,NB775_789.out,NB789_775.out,bG⟩)
   ·skip
    refine box_step ?hg (N:=7) ?hd (cs:=#[.slice none 0 0,.int .i64 0,.slice none 0 0,.int .i64 0]) (t:=27) ?hr ?_;(case hd=>rfl);(case hg=>rfl);(case hr=>first|(go_simp;done)|(go_simp;rfl));intro gb789 hg w14 hbox hb;have BK789:=am (hbox);have GW789:=gw w hg;have GE789:=gw w hg;replace HB:=bs HB hb;have NB774_789:=nl BK774 hg;have NB789_774:=nr BK774 hg;replace BK774:=kb BK774 hb;have NB775_789:=nl BK775 hg;have NB789_775:=nr BK775 hg;replace BK775:=kb BK775 hb;clear hb hbox hg;refine hK.out _ _ (cn4 BK774) (fun hHeld=>?_);clear hK K;refine nB ?_;refine oa 5 19 (mb 13 1087) HT_ (fun K hK=>?_);refine gA Tryz.func14 #[.slice A0 l0.length c0,.agg #[.slice A1_0 l1_0.length c1_0,.int .i64 a1_1,.slice A1_2 l1_2.length c1_2,.int .i64 a1_3],.slice A2 l2.length c2] ?_;(with_reducible refine (impl_NextStage.calls k _ _ l0 _ _ l1_0 a1_1 _ _ l1_2 a1_3 _ _ l2 t777 _ ?_ ?_ ?_ ?_ ?_ ?_ ?_ ?_ A6.out).mono ?_);exact cB HR0;exact HC0.out;exact cB HR1_0;exact HC1_0.out;exact cB HR1_2;exact HC1_2.out;exact cB HR2;exact HC2.out;rintro e w15 ⟨v778,rfl,ho0,hb⟩;refine ⟨_,rfl,?_⟩;have HO779:=rl w ho0;replace BK774:=kb BK774 hb;replace BK775:=kb BK775 hb;replace BK789:=kb BK789 hb;replace HB:=bs HB hb;(try clear hb);(try clear ho0);obtain ⟨Ao16,co16,eo16⟩:=Kd.R_slice HO779.out;(first|subst eo16|(injection eo16 with f1_ f2_ f3_;have f4_:=f1_.symm;have f5_:=f3_.symm;clear f1_ f2_ f3_;subst f4_;subst f5_));refine hK.out _ _ (cn4 BK774) (fun hHeld=>?_);clear hK K;refine nB ?_;refine oa 6 20 (mb 13 1151) HT_ (fun K hK=>?_);refine gA Tryz.func42 #[.slice A0 l0.length c0,.agg #[.slice A1_0 l1_0.length c1_0,.int .i64 a1_1,.slice A1_2 l1_2.length c1_2,.int .i64 a1_3],.slice Ao16 t777.length co16] ?_;(with_reducible refine (impl_AskStage.calls k _ _ l0 _ _ l1_0 a1_1 _ _ l1_2 a1_3 _ _ t777 t780 t783 t784 t787 t788 _ ?_ ?_ ?_ ?_ ?_ ?_ ?_ ?_ A7.out).mono ?_);exact cB HR0;exact HC0.out;exact cB HR1_0;exact HC1_0.out;exact cB HR1_2;exact HC1_2.out;exact cO ⟨(Kd.R_reads' HO779.out).2.2⟩;exact (Kd.R_reads' HO779.out).2.1;rintro e w17 ⟨v781,v785,rfl,ho0,ho1,hb⟩;refine ⟨_,rfl,?_⟩;have HO782:=rl w (rn ho0 HO779);have HO786:=rl w (rn ho1 HO779);replace HO779:=rt2 HO779 hb ho0 ho1;replace BK774:=kb BK774 hb;replace BK775:=kb BK775 hb;replace BK789:=kb BK789 hb;replace HB:=bs HB hb;(try clear hb);(try clear ho0);(try clear ho1);refine hK.out _ _ (cn4 BK774) (fun hHeld=>?_);clear hK K;refine nB ?_;refine pz [7,8,9] ?_;exact mB (hCont (.slice Ao16 t777.length co16,v781,v785,gb789) _ ⟨hHeld,(rm HO779 (fun _ hk=>⟨hk.1.2,hk.2⟩)),(rm HO782 (fun _ hk=>⟨hk.2,hk.1⟩)),(rm HO786 (fun _ hk=>⟨hk.2,hk.1⟩)),(bK BK774),(bK BK775),(bK BK789),GW789.out,GE789.out,NB774_789.out,NB789_774.out,NB775_789.out,NB789_775.out,bG⟩)
  clear BK774 BK775 HB;rintro ⟨v778,v781,v785,gb789⟩ w18 ⟨hHeld,h0_,h1_,h2_,h3_,h4_,h5_,h6_,h7_,h8_,h9_,h10_,h11_,h12_⟩;try dsimp only at hHeld h0_ h1_ h2_ h3_ h4_ h5_ h6_ h7_ h8_ h9_ h10_ h11_ h12_
  obtain ⟨HO779,HO782,HO786,BK774,BK775,BK789,GW789,GE789,NB774_789,NB789_774,NB775_789,NB789_775,HB⟩:=as13 h0_ h1_ h2_ h3_ h4_ h5_ h6_ h7_ h8_ h9_ h10_ h11_ h12_;clear h0_ h1_ h2_ h3_ h4_ h5_ h6_ h7_ h8_ h9_ h10_ h11_ h12_;obtain ⟨Ao19,co19,eo19⟩:=Kd.R_slice HO782.out;(first|subst eo19|(injection eo19 with f1_ f2_ f3_;have f4_:=f1_.symm;have f5_:=f3_.symm;clear f1_ f2_ f3_;subst f4_;subst f5_));obtain ⟨Ao22,co22,eo22⟩:=Kd.R_slice HO786.out;(first|subst eo22|(injection eo22 with f1_ f2_ f3_;have f4_:=f1_.symm;have f5_:=f3_.symm;clear f1_ f2_ f3_;subst f4_;subst f5_));refine norm_ (a':=?_) ?_ ?_;rotate_left
  ·simp only [putAll,Act.put,List.setIfInBounds_toArray,List.set_cons_zero,List.set_cons_succ]
   rfl
  refine oA (i:=11) (N:=none) (mb 13 4095) HT_ (fun K hK=>?_);have hs20:w18.cell? ⟨gb789,0,none⟩=some (.slice none 0 0):=bC BK789 0;have hfs20:=blk_frozen BK789.out 0;have hns20_0:=NB774_789.out;have hns20_1:=NB775_789.out;have hms20_0:=NB789_774.out;have hms20_1:=NB789_775.out;have hs21:w18.cell? ⟨gb789,1,none⟩=some (.int .i64 0):=bC BK789 1;have hfs21:=blk_frozen BK789.out 1;have hns21_0:=NB774_789.out;have hns21_1:=NB775_789.out;have hms21_0:=NB789_774.out;have hms21_1:=NB789_775.out;have hs23:w18.cell? ⟨gb789,2,none⟩=some (.slice none 0 0):=bC BK789 2;have hfs23:=blk_frozen BK789.out 2;have hns23_0:=NB774_789.out;have hns23_1:=NB775_789.out;have hms23_0:=NB789_774.out;have hms23_1:=NB789_775.out;have hs24:w18.cell? ⟨gb789,3,none⟩=some (.int .i64 0):=bC BK789 3;have hfs24:=blk_frozen BK789.out 3;have hns24_0:=NB774_789.out;have hns24_1:=NB775_789.out;have hms24_0:=NB789_774.out;have hms24_1:=NB789_775.out;refine skip_ (w1:=?_) (by rfl) rfl ?_ ?_;rotate_left
  ·go_simp
   rfl
  refine hK.out _ _ ⟨((cell_far (p:=⟨gb789,_,none⟩) NB774_789.out _).trans (((cell_far (p:=⟨gb789,_,none⟩) NB774_789.out _).trans (((cell_far (p:=⟨gb789,_,none⟩) NB774_789.out _).trans (((cell_far (p:=⟨gb789,_,none⟩) NB774_789.out _).trans (hHeld.1)))))))),((cell_far (p:=⟨gb789,_,none⟩) NB774_789.out _).trans (((cell_far (p:=⟨gb789,_,none⟩) NB774_789.out _).trans (((cell_far (p:=⟨gb789,_,none⟩) NB774_789.out _).trans (((cell_far (p:=⟨gb789,_,none⟩) NB774_789.out _).trans (hHeld.2.1)))))))),((cell_far (p:=⟨gb789,_,none⟩) NB774_789.out _).trans (((cell_far (p:=⟨gb789,_,none⟩) NB774_789.out _).trans (((cell_far (p:=⟨gb789,_,none⟩) NB774_789.out _).trans (((cell_far (p:=⟨gb789,_,none⟩) NB774_789.out _).trans (hHeld.2.2.1)))))))),((cell_far (p:=⟨gb789,_,none⟩) NB774_789.out _).trans (((cell_far (p:=⟨gb789,_,none⟩) NB774_789.out _).trans (((cell_far (p:=⟨gb789,_,none⟩) NB774_789.out _).trans (((cell_far (p:=⟨gb789,_,none⟩) NB774_789.out _).trans (hHeld.2.2.2))))))))⟩ (fun hHeld=>?_);clear hK K;refine pz [12] ?_;refine eA HT_ ?_;have hnb25:=NB789_774.out;have hnc25:=NB774_789.out;have hnb26:=NB789_775.out;have hnc26:=NB775_789.out;obtain ⟨_,_,_,_,_,_,_,_⟩:=blkc4 BK789;obtain ⟨_,_,_,_,_,_,_,_⟩:=blkc4 BK775;try go_wp2
  refine bodyPost_ret (results_cell_row rfl _ _ gb775 27 #[.slice Ao19 t780.length co19,.int .i64 t783,.slice Ao22 t784.length co22,.int .i64 t787] (0,0) _ rfl (kP BK775 NB775_789) Tryz.underlying27 rfl (by kernel_rfl)) rfl ?_;exact ⟨_,_,rA,by (with_reducible repeat (first|apply Kd.R_alloc|apply Kd.R_drewN|apply Kd.R_drew));exact Kd.R_mono (Kd.R_far (p:=⟨gb775,3,none⟩) (Kd.R_far (p:=⟨gb775,2,none⟩) (Kd.R_far (p:=⟨gb775,1,none⟩) (Kd.R_far (p:=⟨gb775,0,none⟩) (Kd.R_far (p:=⟨gb789,3,none⟩) (Kd.R_far (p:=⟨gb789,2,none⟩) (Kd.R_far (p:=⟨gb789,1,none⟩) (Kd.R_far (p:=⟨gb789,0,none⟩) (Kd.R_types (Kd.R_types HO782.out BK789.out (by decide)) BK775.out (by decide)) (fun _ hk=>hk.1.2) (.slice Ao19 t780.length co19)) (fun _ hk=>hk.1.2) (.int .i64 t783)) (fun _ hk=>hk.1.2) (.slice Ao22 t784.length co22)) (fun _ hk=>hk.1.2) (.int .i64 t787)) (fun _ hk=>hk.2) (.slice Ao19 t780.length co19)) (fun _ hk=>hk.2) (.int .i64 t783)) (fun _ hk=>hk.2) (.slice Ao22 t784.length co22)) (fun _ hk=>hk.2) (.int .i64 t787)) (fun _ hk=>hk.1.1.2),by (with_reducible repeat (first|apply Kd.R_alloc|apply Kd.R_drewN|apply Kd.R_drew));exact Kd.R_mono (Kd.R_far (p:=⟨gb775,3,none⟩) (Kd.R_far (p:=⟨gb775,2,none⟩) (Kd.R_far (p:=⟨gb775,1,none⟩) (Kd.R_far (p:=⟨gb775,0,none⟩) (Kd.R_far (p:=⟨gb789,3,none⟩) (Kd.R_far (p:=⟨gb789,2,none⟩) (Kd.R_far (p:=⟨gb789,1,none⟩) (Kd.R_far (p:=⟨gb789,0,none⟩) (Kd.R_types (Kd.R_types HO786.out BK789.out (by decide)) BK775.out (by decide)) (fun _ hk=>hk.1.2) (.slice Ao19 t780.length co19)) (fun _ hk=>hk.1.2) (.int .i64 t783)) (fun _ hk=>hk.1.2) (.slice Ao22 t784.length co22)) (fun _ hk=>hk.1.2) (.int .i64 t787)) (fun _ hk=>hk.2) (.slice Ao19 t780.length co19)) (fun _ hk=>hk.2) (.int .i64 t783)) (fun _ hk=>hk.2) (.slice Ao22 t784.length co22)) (fun _ hk=>hk.2) (.int .i64 t787)) (fun _ hk=>hk.1.1.2),bG⟩
 replace c5:=Bool.eq_false_iff.mpr c5;subst c5;rw [if_neg Bool.false_ne_true] at H;obtain ⟨⟨t790,t793,t794,t797⟩,A29,H⟩:=bindE H;try dsimp only at H
 simp only [Option.some.injEq,Prod.mk.injEq] at H;obtain ⟨rfl,rfl,rfl,rfl⟩:=H;go_enter Tryz.func22,Tryz.ntmps22;go_wp2_with (first|((with_reducible refine gd 4 ?_);refine bF w 4 #[.slice A1_0 l1_0.length c1_0,.int .i64 a1_1,.slice A1_2 l1_2.length c1_2,.int .i64 a1_3] 27 ?_;rintro gb774 w30 BK774 GW774 GE774 hb hg;replace HB:=bs HB hb;clear hb hg)|((with_reducible refine gd 6 ?_);refine bF w 6 #[.slice none 0 0,.int .i64 0,.slice none 0 0,.int .i64 0] 27 ?_;rintro gb775 w31 BK775 GW775 GE775 hb hg;replace HB:=bs HB hb;have NB774_775:=nl BK774 hg;have NB775_774:=nr BK774 hg;replace BK774:=kb BK774 hb;clear hb hg;have hnb32:=NB774_775.out;have hnc32:=NB775_774.out;obtain ⟨_,_,_,_,_,_,_,_⟩:=blkc4 BK774)|((with_reducible refine gc 12 ?_);refine gL (some 12) Tryz.func12 #[.slice A0 l0.length c0,.agg #[.slice A1_0 l1_0.length c1_0,.int .i64 a1_1,.slice A1_2 l1_2.length c1_2,.int .i64 a1_3],.slice A2 l2.length c2] ?_;(with_reducible refine (impl_MustChange.calls k _ _ l0 _ _ l1_0 a1_1 _ _ l1_2 a1_3 _ _ l2 false _ ?_ ?_ ?_ ?_ ?_ ?_ ?_ ?_ A4.out).mono ?_);exact cB HR0;exact HC0.out;exact cB HR1_0;exact HC1_0.out;exact cB HR1_2;exact HC1_2.out;exact cB HR2;exact HC2.out;rintro e w34 ⟨rfl,hb⟩;refine ⟨_,rfl,?_⟩;replace BK774:=kb BK774 hb;replace BK775:=kb BK775 hb;replace HB:=bs HB hb;(try clear hb);obtain ⟨_,_,_,_,_,_,_,_⟩:=blkc4 BK774)|((with_reducible refine gc 43 ?_);refine gL (some 26) Tryz.func43 #[.slice A0 l0.length c0,.agg #[.slice A1_0 l1_0.length c1_0,.int .i64 a1_1,.slice A1_2 l1_2.length c1_2,.int .i64 a1_3]] ?_;(with_reducible refine (impl_TickControl.calls k _ _ l0 _ _ l1_0 a1_1 _ _ l1_2 a1_3 t790 t793 t794 t797 _ ?_ ?_ ?_ ?_ ?_ ?_ A29.out).mono ?_);exact cB HR0;exact HC0.out;exact cB HR1_0;exact HC1_0.out;exact cB HR1_2;exact HC1_2.out;rintro e w36 ⟨v791,v795,rfl,ho0,ho1,hb⟩;refine ⟨_,rfl,?_⟩;have HO792:=rl w ho0;have HO796:=rl w ho1;replace BK774:=kb BK774 hb;replace BK775:=kb BK775 hb;replace HB:=bs HB hb;(try clear hb);(try clear ho0);(try clear ho1);obtain ⟨Ao37,co37,eo37⟩:=Kd.R_slice HO792.out;subst eo37;obtain ⟨_,_,_,_,_,_,_,_⟩:=blkc4 BK775;obtain ⟨Ao39,co39,eo39⟩:=Kd.R_slice HO796.out;subst eo39));refine bodyPost_ret (results_cell_row rfl _ _ gb775 27 #[.slice Ao37 t790.length co37,.int .i64 t793,.slice Ao39 t794.length co39,.int .i64 t797] (0,0) _ rfl (kp BK775) Tryz.underlying27 rfl (by kernel_rfl)) rfl ?_;exact ⟨_,_,rA,rf HO792 BK775,rf HO796 BK775,bG⟩

end Go.Proofs.YtjgonpcajedkjaaGreat.P
