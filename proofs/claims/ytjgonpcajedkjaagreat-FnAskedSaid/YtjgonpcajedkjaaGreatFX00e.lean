/- Printed by myprint.py (wip/tools) over the kit's print: what Go's functions compute, and that they do. Lean checks it. -/
import Derived.Test.YtjgonpcajedkjaaGreatF0
import Derived.Test.YtjgonpcajedkjaaGreatFX00
import Derived.Test.YtjgonpcajedkjaaGreatFX00c
import Derived.Test.YtjgonpcajedkjaaGreatFX00d
import Derived.Shelf.RegionOpenPlain
import Derived.Lib.Overlaps
import Derived.Laws.Externs
namespace Go.Proofs.YtjgonpcajedkjaaGreat.P
open Go.RowKit Go.Proofs.YtjgonpcajedkjaaGreatW.PrintWords Go.Proofs.YtjgonpcajedkjaaGreatW.PrintLast Go.Proofs.YtjgonpcajedkjaaGreatW.PrintMore Go.Proofs.YtjgonpcajedkjaaGreat.Sq
attribute [local go_sem] max2_int min2_int max_two min_two max_three min_three max_four min_four
set_option linter.unusedVariables false
set_option linter.unusedSimpArgs false

/-! ### impl_LightsOf: function 10 -/
def impl_LightsOf.l0:Nat→List Int→List (S58)→Int→Int→List Int→Int→List Int→Int→Option (List Int)
 | 0,_,_,_,_,_,_,_,_=>none
 | k + 1,x5,x15,x16,x17,x799000,x799001,x799002,x799003=>if x17 < x16 then (if 0≤x17 then (if x17 < (x15.length:Int) then ((slices_Contains_int_int.f k x799000 ((rd_T58 x15 x17).f0)).bind fun t805=>(if t805=true then (if (x799002.length:Int) > 0 then ((slices_Contains_int_int.f k x799002 ((rd_T58 x15 x17).f0)).bind fun t806=>(if t806=true then (if x5.length < 17592186044416 then (impl_LightsOf.l0 k (x5 ++ [1]) x15 x16 (wrap64 (x17 + 1)) x799000 x799001 x799002 x799003) else (none)) else (if x5.length < 17592186044416 then (impl_LightsOf.l0 k (x5 ++ [2]) x15 x16 (wrap64 (x17 + 1)) x799000 x799001 x799002 x799003) else (none)))) else (if x5.length < 17592186044416 then (impl_LightsOf.l0 k (x5 ++ [1]) x15 x16 (wrap64 (x17 + 1)) x799000 x799001 x799002 x799003) else (none))) else (if x5.length < 17592186044416 then (impl_LightsOf.l0 k (x5 ++ [0]) x15 x16 (wrap64 (x17 + 1)) x799000 x799001 x799002 x799003) else (none)))) else (none)) else (none)) else (some x5)
def impl_LightsOf.f (k:Nat) (l0:List (S58)) (l1_0:List Int) (a1_1:Int) (l1_2:List Int) (a1_3:Int):Option (List Int):=(some (([]:List Int):List Int)).bind fun y799=>((impl_IsControl.f k l0 l1_0 a1_1 l1_2 a1_3).bind fun t802=>(if t802=true then (impl_LightsOf.l0 k y799 l0 (l0.length:Int) 0 l1_0 a1_1 l1_2 a1_3) else (some y799)))
theorem impl_LightsOf.mono_l:∀ k,(∀ y0 y1 y2 y3 y4 y5 y6 y7,LeO (impl_LightsOf.l0 k y0 y1 y2 y3 y4 y5 y6 y7) (impl_LightsOf.l0 (k + 1) y0 y1 y2 y3 y4 y5 y6 y7))
 | 0=>fun _ _ _ _ _ _ _ _ r h=>by simp [impl_LightsOf.l0] at h
 | k + 1=>by
  have ih0:=impl_LightsOf.mono_l k
  ·intro y0 y1 y2 y3 y4 y5 y6 y7;unfold impl_LightsOf.l0;exact mz3 ih0 impl_IsControl.mono slices_Contains_int_int.mono
theorem impl_LightsOf.mono:∀ a0 a1 a2 a3 a4 k,LeO (impl_LightsOf.f k a0 a1 a2 a3 a4) (impl_LightsOf.f (k + 1) a0 a1 a2 a3 a4):=by
 intro a0 a1 a2 a3 a4 k;have ih0:=impl_LightsOf.mono_l k;unfold impl_LightsOf.f;exact mz3 ih0 impl_IsControl.mono slices_Contains_int_int.mono
set_option maxHeartbeats 8000000 in
set_option maxRecDepth 100000 in
theorem impl_LightsOf.calls (k:Nat) (A0:Option Addr) (c0:Nat) (l0:List (S58)) (A1_0:Option Addr) (c1_0:Nat) (l1_0:List Int) (a1_1:Int) (A1_2:Option Addr) (c1_2:Nat) (l1_2:List Int) (a1_3:Int) (r:List Int) (w:World) (hr0:Kd.C k58 w A0 l0.length l0) (hc0:l0.length≤c0) (hr1_0:Kd.C (Kd.int .i64) w A1_0 l1_0.length l1_0) (hc1_0:l1_0.length≤c1_0) (hr1_2:Kd.C (Kd.int .i64) w A1_2 l1_2.length l1_2) (hc1_2:l1_2.length≤c1_2) (h:impl_LightsOf.f k l0 l1_0 a1_1 l1_2 a1_3=some r) :
  Calls Tryz.prog 10 #[.slice A0 l0.length c0,.agg #[.slice A1_0 l1_0.length c1_0,.int .i64 a1_1,.slice A1_2 l1_2.length c1_2,.int .i64 a1_3]] w fun e w'=>∃ v0_:Value,e=.returned (v0_)∧Kd.R (Kd.int .i64) 3 w' w.heap.size (fun _=>True) v0_ r∧Below w.heap.size w w':=by
 have hu27:=Tryz.underlying27;have hu58:=Tryz.underlying58;have HR0:=am hr0;have HC0:=am hc0;clear hr0 hc0;have HR1_0:=am hr1_0;have HC1_0:=am hc1_0;clear hr1_0 hc1_0;have HR1_2:=am hr1_2;have HC1_2:=am hc1_2;clear hr1_2 hc1_2;have HB:=am (Below.refl w.heap.size w);unfold impl_LightsOf.f at h;have H:=h;clear h;obtain ⟨y799,hy799⟩:∃ y_:List Int,y_=(([]:List Int)):=⟨_,rfl⟩;replace H:((impl_IsControl.f k l0 l1_0 a1_1 l1_2 a1_3).bind fun t802=>(if t802=true then (impl_LightsOf.l0 k y799 l0 (l0.length:Int) 0 l1_0 a1_1 l1_2 a1_3) else (some y799)))=some r:=rH H hy799;have Ny799:=am hy799;clear hy799;obtain ⟨t802,A3,H⟩:=bindE H;try dsimp only at H
 by_cases c4:t802=true
 ·subst c4;rw [if_pos rfl] at H;have H':=am H;clear H;go_enter Tryz.func10,Tryz.ntmps10;go_wp2_with (first|((with_reducible refine gd 3 ?_);refine bF w 3 #[.slice A1_0 l1_0.length c1_0,.int .i64 a1_1,.slice A1_2 l1_2.length c1_2,.int .i64 a1_3] 27 ?_;rintro gb798 w5 BK798 GW798 GE798 hb hg;replace HB:=bs HB hb;clear hb hg)|((with_reducible refine gd 9 ?_);refine Kd.R_lit (Kd.int .i64) _ 3 ?hg (N:=9) ?hd (xs:=([]:List Int)) (inner:=[]) (ok:=fun _=>True) (okp:=fun _=>True) ?hr ?hp (fun _ hk=>hk) trivial (Below.refl _ _) (Nat.le_refl _) (by simp) ?_;(case hd=>rfl);(case hg=>rfl);(case hr=>first|(go_simp;done)|(go_simp;rfl));(case hp=>exact (Reps.none _ _));intro v800 w6 ho7 hb hg_ hnew_;clear hg_ hnew_;(first|rw [← Ny799.out] at ho7|(simp only [Int.reduceToNat] at ho7;rw [← Ny799.out] at ho7));have HO801:=rl w ho7;replace BK798:=kb BK798 hb;replace HB:=bs HB hb;clear hb ho7;obtain ⟨_,_,_,_,_,_,_,_⟩:=blkc4 BK798)|((with_reducible refine gc 7 ?_);refine gL (some 12) Tryz.func7 #[.slice A0 l0.length c0,.agg #[.slice A1_0 l1_0.length c1_0,.int .i64 a1_1,.slice A1_2 l1_2.length c1_2,.int .i64 a1_3]] ?_;(with_reducible refine (impl_IsControl.calls k _ _ l0 _ _ l1_0 a1_1 _ _ l1_2 a1_3 true _ ?_ ?_ ?_ ?_ ?_ ?_ A3.out).mono ?_);exact cB HR0;exact HC0.out;exact cB HR1_0;exact HC1_0.out;exact cB HR1_2;exact HC1_2.out;rintro e w9 ⟨rfl,hb⟩;refine ⟨_,rfl,?_⟩;replace HO801:=rb HO801 hb;replace BK798:=kb BK798 hb;replace HB:=bs HB hb;(try clear hb)));go_loopg [5,17] k (fun kq v5 v17 w'=>∃ (x5_1:List Int) (x17_1:Int),v17=.int .i64 x17_1∧Aside0 (impl_LightsOf.l0 kq x5_1 l0 (l0.length:Int) x17_1 l1_0 a1_1 l1_2 a1_3=some r)∧Aside0 (kq≤k)∧Aside0 (Kd.R (Kd.int .i64) 3 w' w.heap.size (fun _=>True) v5 x5_1)∧Aside0 (w'.heap[gb798]?=some (.cells #[(.slice A1_0 l1_0.length c1_0),.int .i64 a1_1,(.slice A1_2 l1_2.length c1_2),.int .i64 a1_3] 27 (0,0)))∧Aside0 (Below w.heap.size w w'))
  case atStart=>exact ⟨(y799),(0),rS,H',⟨Nat.le_refl _⟩,⟨rK HO801⟩,⟨bK BK798⟩,⟨bG⟩⟩
  case round =>
   clear H';obtain ⟨x5_1,x17_1,rfl,HA,HK1,HO_5,BK798,HB⟩:=hrel
   cases gk with
   | zero=>exact absurd HA.out (by simp [impl_LightsOf.l0])
   | succ k1 =>
    have H:=HA.out;clear HA;simp only [impl_LightsOf.l0] at H;by_cases c10:x17_1 < (l0.length:Int)
    ·rw [if_pos c10] at H;have c10b0:=dt c10;clear c10;have c11b0:=ifC H;replace H:=ifT H;have c12b0:=ifC H;replace H:=ifT H;obtain ⟨t805,A13,H⟩:=bindE H;try dsimp only at H
     by_cases c14:t805=true
     ·subst c14;rw [if_pos rfl] at H;by_cases c15:(l1_2.length:Int) > 0
      ·rw [if_pos c15] at H;have c15b0:=dt c15;have c15b1:decide (0 < l1_2.length)=true:=dt (by omega);clear c15;obtain ⟨t806,A16,H⟩:=bindE H;try dsimp only at H
       by_cases c17:t806=true
       ·subst c17;rw [if_pos rfl] at H;have c18:x5_1.length < 17592186044416:=ifN H;replace H:=ifT H;have LMc18:=am c18;clear c18;obtain ⟨y807,hy807⟩:∃ y_:List Int,y_=(x5_1 ++ [1]):=⟨_,rfl⟩;replace H:=rF H hy807;have Ny807:=am hy807;clear hy807;have H':=am H;clear H;obtain ⟨p803,q803⟩:=pq x17_1 l0;obtain ⟨ad803,e803,hx803_0,hx803_1,hx803_2,hx803_3⟩:=at_T58 (Kd.C_below HR0.out HB.out) x17_1 p803 q803;cases e803;obtain ⟨p803,q803⟩:=eT p803 q803;go_wp2_with (first|((with_reducible refine gd 7 ?_);refine bF w 7 #[.int .i64 0,.int .i64 0,.int .i64 0,.int .i64 0] 58 ?_;rintro gb804 w19 BK804 GW804 GE804 hb hg;replace HO_5:=rb HO_5 hb;replace HB:=bs HB hb;have NB798_804:=nl BK798 hg;have NB804_798:=nr BK798 hg;replace BK798:=kb BK798 hb;clear hb hg;have hnb20:=NB804_798.out;have hnc20:=NB798_804.out;obtain ⟨_,_,_,_,_,_,_,_⟩:=blkc4 BK804;obtain ⟨_,_,_,_,_,_,_,_⟩:=blkc4 BK798)|((with_reducible refine gc 29 ?_);refine gL (some 25) Tryz.func29 #[.slice A1_0 l1_0.length c1_0,.int .i64 ((rd_T58 l0 x17_1).f0)] ?_;(with_reducible refine (slices_Contains_int_int.calls k1 _ _ l1_0 ((rd_T58 l0 x17_1).f0) true _ ?_ ?_ A13.out).mono ?_);exact Kd.C_below HR1_0.out bG;exact HC1_0.out;rintro e w' ⟨rfl,⟨nd,rfl⟩⟩;refine ⟨_,rfl,?_⟩)|(go_at_call 29;(with_reducible refine (slices_Contains_int_int.calls k1 _ _ l1_2 ((rd_T58 l0 x17_1).f0) true _ ?_ ?_ A16.out).mono ?_);exact Kd.C_below HR1_2.out bG;exact HC1_2.out;rintro e w' ⟨rfl,⟨nd,rfl⟩⟩)|((with_reducible refine gate_builtin (b:=.append) (xs:=#[.tmp 38,.tmp 40]) rfl ?_);at_builtin;refine Kd.R_append (Kd.int .i64) (w0:=w) w.heap.size rfl (.tmp 38) (.tmp 40) 25 3 (.int .i64 0) 8 rfl Tryz.underlying25 info3 rfl (by decide) (by omega) u5 x5_1 1 [.int .i64 1] (fun _=>True) (fun _=>False) rfl (by first|(go_simp;done)|(go_simp;rfl)) ?aP (fun _ hk=>hk.elim) ?aF ?aO ?aB ?aS ?aL ?_;(case aP=>exact rfl);(case aB=>exact bG);(case aF=>exact (fun _ _=>trivial));(case aO=>exact (Kd.R_mono (rf HO_5 BK804) (fun _ hk=>trivial)));(case aS=>exact (below_size bG));(case aL=>have:=LMc18.out;omega);intro v808 w23 ho hb hg hat;rw [← Ny807.out] at ho;have n0_:=am (blk_grown (g:=gb798) (o:=.cells #[.slice A1_0 l1_0.length c1_0,.int .i64 a1_1,.slice A1_2 l1_2.length c1_2,.int .i64 a1_3] 27 (0,0)) (kf BK798 NB798_804) hg (Kd.R_ne HO_5.out BK798.out (by decide)));have n1_:=am (blk_grown (g:=gb804) (o:=.cells #[.int .i64 ((rd_T58 l0 x17_1).f0),.int .i64 ((rd_T58 l0 x17_1).f1),.int .i64 ((rd_T58 l0 x17_1).f2),.int .i64 ((rd_T58 l0 x17_1).f3)] 58 (0,0)) (kp BK804) hg (Kd.R_ne HO_5.out BK804.out (by decide)));have n2_:=am (hb);have n3_:=am (ho);clear BK798;clear BK804;clear HB;clear HO_5;have BK798:=n0_;have BK804:=n1_;have HB:=n2_;have HO809:=n3_;clear n0_ n1_ n2_ n3_;clear ho hb hg hat));go_roundg k1
        case measure=>have:=HK1.out;omega
        case rel=>exact ⟨(y807),(wrap64 (x17_1 + 1)),rS,H',⟨by have:=HK1.out;omega⟩,⟨rK HO809⟩,⟨bK BK798⟩,⟨bG⟩⟩
       replace c17:=Bool.eq_false_iff.mpr c17;subst c17;rw [if_neg Bool.false_ne_true] at H;have c24:x5_1.length < 17592186044416:=ifN H;replace H:=ifT H;have LMc24:=am c24;clear c24;obtain ⟨y810,hy810⟩:∃ y_:List Int,y_=(x5_1 ++ [2]):=⟨_,rfl⟩;replace H:=rF H hy810;have Ny810:=am hy810;clear hy810;have H':=am H;clear H;obtain ⟨p803,q803⟩:=pq x17_1 l0;obtain ⟨ad803,e803,hx803_0,hx803_1,hx803_2,hx803_3⟩:=at_T58 (Kd.C_below HR0.out HB.out) x17_1 p803 q803;cases e803;obtain ⟨p803,q803⟩:=eT p803 q803;go_wp2_with (first|((with_reducible refine gd 7 ?_);refine bF w 7 #[.int .i64 0,.int .i64 0,.int .i64 0,.int .i64 0] 58 ?_;rintro gb804 w25 BK804 GW804 GE804 hb hg;replace HO_5:=rb HO_5 hb;replace HB:=bs HB hb;have NB798_804:=nl BK798 hg;have NB804_798:=nr BK798 hg;replace BK798:=kb BK798 hb;clear hb hg;have hnb26:=NB804_798.out;have hnc26:=NB798_804.out;obtain ⟨_,_,_,_,_,_,_,_⟩:=blkc4 BK804;obtain ⟨_,_,_,_,_,_,_,_⟩:=blkc4 BK798)|((with_reducible refine gc 29 ?_);refine gL (some 25) Tryz.func29 #[.slice A1_0 l1_0.length c1_0,.int .i64 ((rd_T58 l0 x17_1).f0)] ?_;(with_reducible refine (slices_Contains_int_int.calls k1 _ _ l1_0 ((rd_T58 l0 x17_1).f0) true _ ?_ ?_ A13.out).mono ?_);exact Kd.C_below HR1_0.out bG;exact HC1_0.out;rintro e w' ⟨rfl,⟨nd,rfl⟩⟩;refine ⟨_,rfl,?_⟩)|(go_at_call 29;(with_reducible refine (slices_Contains_int_int.calls k1 _ _ l1_2 ((rd_T58 l0 x17_1).f0) false _ ?_ ?_ A16.out).mono ?_);exact Kd.C_below HR1_2.out bG;exact HC1_2.out;rintro e w' ⟨rfl,⟨nd,rfl⟩⟩)|((with_reducible refine gate_builtin (b:=.append) (xs:=#[.tmp 38,.tmp 40]) rfl ?_);at_builtin;refine Kd.R_append (Kd.int .i64) (w0:=w) w.heap.size rfl (.tmp 38) (.tmp 40) 25 3 (.int .i64 0) 8 rfl Tryz.underlying25 info3 rfl (by decide) (by omega) u5 x5_1 2 [.int .i64 2] (fun _=>True) (fun _=>False) rfl (by first|(go_simp;done)|(go_simp;rfl)) ?aP (fun _ hk=>hk.elim) ?aF ?aO ?aB ?aS ?aL ?_;(case aP=>exact rfl);(case aB=>exact bG);(case aF=>exact (fun _ _=>trivial));(case aO=>exact (Kd.R_mono (rf HO_5 BK804) (fun _ hk=>trivial)));(case aS=>exact (below_size bG));(case aL=>have:=LMc24.out;omega);intro v811 w29 ho hb hg hat;rw [← Ny810.out] at ho;have n0_:=am (blk_grown (g:=gb798) (o:=.cells #[.slice A1_0 l1_0.length c1_0,.int .i64 a1_1,.slice A1_2 l1_2.length c1_2,.int .i64 a1_3] 27 (0,0)) (kf BK798 NB798_804) hg (Kd.R_ne HO_5.out BK798.out (by decide)));have n1_:=am (blk_grown (g:=gb804) (o:=.cells #[.int .i64 ((rd_T58 l0 x17_1).f0),.int .i64 ((rd_T58 l0 x17_1).f1),.int .i64 ((rd_T58 l0 x17_1).f2),.int .i64 ((rd_T58 l0 x17_1).f3)] 58 (0,0)) (kp BK804) hg (Kd.R_ne HO_5.out BK804.out (by decide)));have n2_:=am (hb);have n3_:=am (ho);clear BK798;clear BK804;clear HB;clear HO_5;have BK798:=n0_;have BK804:=n1_;have HB:=n2_;have HO812:=n3_;clear n0_ n1_ n2_ n3_;clear ho hb hg hat));go_roundg k1
       case measure=>have:=HK1.out;omega
       case rel=>exact ⟨(y810),(wrap64 (x17_1 + 1)),rS,H',⟨by have:=HK1.out;omega⟩,⟨rK HO812⟩,⟨bK BK798⟩,⟨bG⟩⟩
      rw [if_neg c15] at H;have c15b0:=df c15;have c15b1:decide (0 < l1_2.length)=false:=df (by omega);clear c15;have c30:x5_1.length < 17592186044416:=ifN H;replace H:=ifT H;have LMc30:=am c30;clear c30;obtain ⟨y813,hy813⟩:∃ y_:List Int,y_=(x5_1 ++ [1]):=⟨_,rfl⟩;replace H:=rF H hy813;have Ny813:=am hy813;clear hy813;have H':=am H;clear H;obtain ⟨p803,q803⟩:=pq x17_1 l0;obtain ⟨ad803,e803,hx803_0,hx803_1,hx803_2,hx803_3⟩:=at_T58 (Kd.C_below HR0.out HB.out) x17_1 p803 q803;cases e803;obtain ⟨p803,q803⟩:=eT p803 q803;go_wp2_with (first|((with_reducible refine gd 7 ?_);refine bF w 7 #[.int .i64 0,.int .i64 0,.int .i64 0,.int .i64 0] 58 ?_;rintro gb804 w31 BK804 GW804 GE804 hb hg;replace HO_5:=rb HO_5 hb;replace HB:=bs HB hb;have NB798_804:=nl BK798 hg;have NB804_798:=nr BK798 hg;replace BK798:=kb BK798 hb;clear hb hg;have hnb32:=NB804_798.out;have hnc32:=NB798_804.out;obtain ⟨_,_,_,_,_,_,_,_⟩:=blkc4 BK804;obtain ⟨_,_,_,_,_,_,_,_⟩:=blkc4 BK798)|((with_reducible refine gc 29 ?_);refine gL (some 25) Tryz.func29 #[.slice A1_0 l1_0.length c1_0,.int .i64 ((rd_T58 l0 x17_1).f0)] ?_;(with_reducible refine (slices_Contains_int_int.calls k1 _ _ l1_0 ((rd_T58 l0 x17_1).f0) true _ ?_ ?_ A13.out).mono ?_);exact Kd.C_below HR1_0.out bG;exact HC1_0.out;rintro e w' ⟨rfl,⟨nd,rfl⟩⟩;refine ⟨_,rfl,?_⟩)|((with_reducible refine gate_builtin (b:=.append) (xs:=#[.tmp 38,.tmp 40]) rfl ?_);at_builtin;refine Kd.R_append (Kd.int .i64) (w0:=w) w.heap.size rfl (.tmp 38) (.tmp 40) 25 3 (.int .i64 0) 8 rfl Tryz.underlying25 info3 rfl (by decide) (by omega) u5 x5_1 1 [.int .i64 1] (fun _=>True) (fun _=>False) rfl (by first|(go_simp;done)|(go_simp;rfl)) ?aP (fun _ hk=>hk.elim) ?aF ?aO ?aB ?aS ?aL ?_;(case aP=>exact rfl);(case aB=>exact bG);(case aF=>exact (fun _ _=>trivial));(case aO=>exact (Kd.R_mono (rf HO_5 BK804) (fun _ hk=>trivial)));(case aS=>exact (below_size bG));(case aL=>have:=LMc30.out;omega);intro v814 w35 ho hb hg hat;rw [← Ny813.out] at ho;have n0_:=am (blk_grown (g:=gb798) (o:=.cells #[.slice A1_0 l1_0.length c1_0,.int .i64 a1_1,.slice A1_2 l1_2.length c1_2,.int .i64 a1_3] 27 (0,0)) (kf BK798 NB798_804) hg (Kd.R_ne HO_5.out BK798.out (by decide)));have n1_:=am (blk_grown (g:=gb804) (o:=.cells #[.int .i64 ((rd_T58 l0 x17_1).f0),.int .i64 ((rd_T58 l0 x17_1).f1),.int .i64 ((rd_T58 l0 x17_1).f2),.int .i64 ((rd_T58 l0 x17_1).f3)] 58 (0,0)) (kp BK804) hg (Kd.R_ne HO_5.out BK804.out (by decide)));have n2_:=am (hb);have n3_:=am (ho);clear BK798;clear BK804;clear HB;clear HO_5;have BK798:=n0_;have BK804:=n1_;have HB:=n2_;have HO815:=n3_;clear n0_ n1_ n2_ n3_;clear ho hb hg hat));go_roundg k1
      case measure=>have:=HK1.out;omega
      case rel=>exact ⟨(y813),(wrap64 (x17_1 + 1)),rS,H',⟨by have:=HK1.out;omega⟩,⟨rK HO815⟩,⟨bK BK798⟩,⟨bG⟩⟩
     replace c14:=Bool.eq_false_iff.mpr c14;subst c14;rw [if_neg Bool.false_ne_true] at H;have c36:x5_1.length < 17592186044416:=ifN H;replace H:=ifT H;have LMc36:=am c36;clear c36;obtain ⟨y816,hy816⟩:∃ y_:List Int,y_=(x5_1 ++ [0]):=⟨_,rfl⟩;replace H:=rF H hy816;have Ny816:=am hy816;clear hy816;have H':=am H;clear H;obtain ⟨p803,q803⟩:=pq x17_1 l0;obtain ⟨ad803,e803,hx803_0,hx803_1,hx803_2,hx803_3⟩:=at_T58 (Kd.C_below HR0.out HB.out) x17_1 p803 q803;cases e803;obtain ⟨p803,q803⟩:=eT p803 q803;go_wp2_with (first|((with_reducible refine gd 7 ?_);refine bF w 7 #[.int .i64 0,.int .i64 0,.int .i64 0,.int .i64 0] 58 ?_;rintro gb804 w37 BK804 GW804 GE804 hb hg;replace HO_5:=rb HO_5 hb;replace HB:=bs HB hb;have NB798_804:=nl BK798 hg;have NB804_798:=nr BK798 hg;replace BK798:=kb BK798 hb;clear hb hg;have hnb38:=NB804_798.out;have hnc38:=NB798_804.out;obtain ⟨_,_,_,_,_,_,_,_⟩:=blkc4 BK804;obtain ⟨_,_,_,_,_,_,_,_⟩:=blkc4 BK798)|((with_reducible refine gc 29 ?_);refine gL (some 25) Tryz.func29 #[.slice A1_0 l1_0.length c1_0,.int .i64 ((rd_T58 l0 x17_1).f0)] ?_;(with_reducible refine (slices_Contains_int_int.calls k1 _ _ l1_0 ((rd_T58 l0 x17_1).f0) false _ ?_ ?_ A13.out).mono ?_);exact Kd.C_below HR1_0.out bG;exact HC1_0.out;rintro e w' ⟨rfl,⟨nd,rfl⟩⟩;refine ⟨_,rfl,?_⟩)|((with_reducible refine gate_builtin (b:=.append) (xs:=#[.tmp 38,.tmp 40]) rfl ?_);at_builtin;refine Kd.R_append (Kd.int .i64) (w0:=w) w.heap.size rfl (.tmp 38) (.tmp 40) 25 3 (.int .i64 0) 8 rfl Tryz.underlying25 info3 rfl (by decide) (by omega) u5 x5_1 0 [.int .i64 0] (fun _=>True) (fun _=>False) rfl (by first|(go_simp;done)|(go_simp;rfl)) ?aP (fun _ hk=>hk.elim) ?aF ?aO ?aB ?aS ?aL ?_;(case aP=>exact rfl);(case aB=>exact bG);(case aF=>exact (fun _ _=>trivial));(case aO=>exact (Kd.R_mono (rf HO_5 BK804) (fun _ hk=>trivial)));(case aS=>exact (below_size bG));(case aL=>have:=LMc36.out;omega);intro v817 w41 ho hb hg hat;rw [← Ny816.out] at ho;have n0_:=am (blk_grown (g:=gb798) (o:=.cells #[.slice A1_0 l1_0.length c1_0,.int .i64 a1_1,.slice A1_2 l1_2.length c1_2,.int .i64 a1_3] 27 (0,0)) (kf BK798 NB798_804) hg (Kd.R_ne HO_5.out BK798.out (by decide)));have n1_:=am (blk_grown (g:=gb804) (o:=.cells #[.int .i64 ((rd_T58 l0 x17_1).f0),.int .i64 ((rd_T58 l0 x17_1).f1),.int .i64 ((rd_T58 l0 x17_1).f2),.int .i64 ((rd_T58 l0 x17_1).f3)] 58 (0,0)) (kp BK804) hg (Kd.R_ne HO_5.out BK804.out (by decide)));have n2_:=am (hb);have n3_:=am (ho);clear BK798;clear BK804;clear HB;clear HO_5;have BK798:=n0_;have BK804:=n1_;have HB:=n2_;have HO818:=n3_;clear n0_ n1_ n2_ n3_;clear ho hb hg hat));go_roundg k1
     case measure=>have:=HK1.out;omega
     case rel=>exact ⟨(y816),(wrap64 (x17_1 + 1)),rS,H',⟨by have:=HK1.out;omega⟩,⟨rK HO818⟩,⟨bK BK798⟩,⟨bG⟩⟩
    rw [if_neg c10] at H;have c10b0:=df c10;clear c10;obtain rfl:=oj H;go_wp2;go_ret;exact ⟨_,rA,rK HO_5,bG⟩
 replace c4:=Bool.eq_false_iff.mpr c4;subst c4;rw [if_neg Bool.false_ne_true] at H;obtain rfl:=oj H;go_enter Tryz.func10,Tryz.ntmps10;go_wp2_with (first|((with_reducible refine gd 3 ?_);refine bF w 3 #[.slice A1_0 l1_0.length c1_0,.int .i64 a1_1,.slice A1_2 l1_2.length c1_2,.int .i64 a1_3] 27 ?_;rintro gb798 w42 BK798 GW798 GE798 hb hg;replace HB:=bs HB hb;clear hb hg)|((with_reducible refine gd 9 ?_);refine Kd.R_lit (Kd.int .i64) _ 3 ?hg (N:=9) ?hd (xs:=([]:List Int)) (inner:=[]) (ok:=fun _=>True) (okp:=fun _=>True) ?hr ?hp (fun _ hk=>hk) trivial (Below.refl _ _) (Nat.le_refl _) (by simp) ?_;(case hd=>rfl);(case hg=>rfl);(case hr=>first|(go_simp;done)|(go_simp;rfl));(case hp=>exact (Reps.none _ _));intro v800 w43 ho44 hb hg_ hnew_;clear hg_ hnew_;(first|rw [← Ny799.out] at ho44|(simp only [Int.reduceToNat] at ho44;rw [← Ny799.out] at ho44));have HO801:=rl w ho44;replace BK798:=kb BK798 hb;replace HB:=bs HB hb;clear hb ho44;obtain ⟨_,_,_,_,_,_,_,_⟩:=blkc4 BK798)|((with_reducible refine gc 7 ?_);refine gL (some 12) Tryz.func7 #[.slice A0 l0.length c0,.agg #[.slice A1_0 l1_0.length c1_0,.int .i64 a1_1,.slice A1_2 l1_2.length c1_2,.int .i64 a1_3]] ?_;(with_reducible refine (impl_IsControl.calls k _ _ l0 _ _ l1_0 a1_1 _ _ l1_2 a1_3 false _ ?_ ?_ ?_ ?_ ?_ ?_ A3.out).mono ?_);exact cB HR0;exact HC0.out;exact cB HR1_0;exact HC1_0.out;exact cB HR1_2;exact HC1_2.out;rintro e w46 ⟨rfl,hb⟩;refine ⟨_,rfl,?_⟩;replace HO801:=rb HO801 hb;replace BK798:=kb BK798 hb;replace HB:=bs HB hb;(try clear hb)));go_ret;exact ⟨_,rA,rK HO801,bG⟩

/-! ### impl_waited: function 23 -/
def impl_waited.l0:Nat→List (S58)→List (S39)→List Int→List (S39)→Int→Int→Option ((List (S39)))
 | 0,_,_,_,_,_,_=>none
 | k + 1,x0,x7,x8,x16,x17,x18=>if x18 < x17 then (if 0≤x18 then (if x18 < (x16.length:Int) then ((impl_FindPath.f x0 ((rd_T39 x16 x18).f0)).bind fun t828=>(if t828 < 0 then (if x7.length < 8796093022208 then (impl_waited.l0 k x0 (x7 ++ [(⟨(rd_T39 x16 x18).f0,mn (wrap64 (((rd_T39 x16 x18).f1) + 1)) 100000⟩:S39)]) x8 x16 x17 (wrap64 (x18 + 1))) else (none)) else (if t828≥(x8.length:Int) then (if x7.length < 8796093022208 then (impl_waited.l0 k x0 (x7 ++ [(⟨(rd_T39 x16 x18).f0,mn (wrap64 (((rd_T39 x16 x18).f1) + 1)) 100000⟩:S39)]) x8 x16 x17 (wrap64 (x18 + 1))) else (none)) else (if 0≤t828 then (if t828 < (x8.length:Int) then (if (rd x8 t828)=1 then (impl_waited.l0 k x0 x7 x8 x16 x17 (wrap64 (x18 + 1))) else (if x7.length < 8796093022208 then (impl_waited.l0 k x0 (x7 ++ [(⟨(rd_T39 x16 x18).f0,mn (wrap64 (((rd_T39 x16 x18).f1) + 1)) 100000⟩:S39)]) x8 x16 x17 (wrap64 (x18 + 1))) else (none))) else (none)) else (none))))) else (none)) else (none)) else (some x7)
def impl_waited.f (k:Nat) (l0:List (S58)) (l1_0:List Int) (a1_1:Int) (l1_2:List Int) (a1_3:Int) (l2:List (S39)):Option ((List (S39))):=(impl_LightsOf.f k l0 l1_0 a1_1 l1_2 a1_3).bind fun t823=>(impl_waited.l0 k l0 (([]:List (S39))) t823 l2 (l2.length:Int) 0)
theorem impl_waited.mono_l:∀ k,(∀ y0 y1 y2 y3 y4 y5,LeO (impl_waited.l0 k y0 y1 y2 y3 y4 y5) (impl_waited.l0 (k + 1) y0 y1 y2 y3 y4 y5))
 | 0=>fun _ _ _ _ _ _ r h=>by simp [impl_waited.l0] at h
 | k + 1=>by
  have ih0:=impl_waited.mono_l k
  ·intro y0 y1 y2 y3 y4 y5;unfold impl_waited.l0;exact mz2 ih0 impl_LightsOf.mono
theorem impl_waited.mono:∀ a0 a1 a2 a3 a4 a5 k,LeO (impl_waited.f k a0 a1 a2 a3 a4 a5) (impl_waited.f (k + 1) a0 a1 a2 a3 a4 a5):=by
 intro a0 a1 a2 a3 a4 a5 k;have ih0:=impl_waited.mono_l k;unfold impl_waited.f;exact mz2 ih0 impl_LightsOf.mono
set_option maxHeartbeats 8000000 in
set_option maxRecDepth 100000 in
theorem impl_waited.calls (k:Nat) (A0:Option Addr) (c0:Nat) (l0:List (S58)) (A1_0:Option Addr) (c1_0:Nat) (l1_0:List Int) (a1_1:Int) (A1_2:Option Addr) (c1_2:Nat) (l1_2:List Int) (a1_3:Int) (A2:Option Addr) (c2:Nat) (l2:List (S39)) (r:List (S39)) (w:World) (hr0:Kd.C k58 w A0 l0.length l0) (hc0:l0.length≤c0) (hr1_0:Kd.C (Kd.int .i64) w A1_0 l1_0.length l1_0) (hc1_0:l1_0.length≤c1_0) (hr1_2:Kd.C (Kd.int .i64) w A1_2 l1_2.length l1_2) (hc1_2:l1_2.length≤c1_2) (hr2:Kd.C k39 w A2 l2.length l2) (hc2:l2.length≤c2) (h:impl_waited.f k l0 l1_0 a1_1 l1_2 a1_3 l2=some r) :
  Calls Tryz.prog 23 #[.slice A0 l0.length c0,.agg #[.slice A1_0 l1_0.length c1_0,.int .i64 a1_1,.slice A1_2 l1_2.length c1_2,.int .i64 a1_3],.slice A2 l2.length c2] w fun e w'=>∃ v0_:Value,e=.returned (v0_)∧Kd.R k39 39 w' w.heap.size (fun _=>True) v0_ r∧Below w.heap.size w w':=by
 have hu27:=Tryz.underlying27;have hu39:=Tryz.underlying39;have HR0:=am hr0;have HC0:=am hc0;clear hr0 hc0;have HR1_0:=am hr1_0;have HC1_0:=am hc1_0;clear hr1_0 hc1_0;have HR1_2:=am hr1_2;have HC1_2:=am hc1_2;clear hr1_2 hc1_2;have HR2:=am hr2;have HC2:=am hc2;clear hr2 hc2;have HB:=am (Below.refl w.heap.size w);unfold impl_waited.f at h;have H:=h;clear h;obtain ⟨y820,hy820⟩:∃ y_:List (S39),y_=(([]:List (S39))):=⟨_,rfl⟩;replace H:((impl_LightsOf.f k l0 l1_0 a1_1 l1_2 a1_3).bind fun t823=>(impl_waited.l0 k l0 y820 t823 l2 (l2.length:Int) 0))=some r:=rH H hy820;have Ny820:=am hy820;clear hy820;obtain ⟨t823,A4,H⟩:=bindE H;try dsimp only at H
 have H':=am H;clear H;go_enter Tryz.func23,Tryz.ntmps23;go_wp2_with (first|((with_reducible refine gd 4 ?_);(try (refine gate_guard (by rfl) ?_;dsimp only));refine bF w 4 #[.slice A1_0 l1_0.length c1_0,.int .i64 a1_1,.slice A1_2 l1_2.length c1_2,.int .i64 a1_3] 27 ?_;rintro gb819 w5 BK819 GW819 GE819 hb hg;replace HB:=bs HB hb;clear hb hg)|((with_reducible refine gd 12 ?_);(try (refine gate_guard (by rfl) ?_;dsimp only));refine Kd.R_lit k39 _ 39 ?hg (N:=12) ?hd (xs:=([]:List (S39))) (inner:=[]) (ok:=fun _=>True) (okp:=fun _=>True) ?hr ?hp (fun _ hk=>hk) trivial (Below.refl _ _) (Nat.le_refl _) (by simp) ?_;(case hd=>rfl);(case hg=>rfl);(case hr=>first|(go_simp;done)|(go_simp;rfl));(case hp=>exact (Reps.none _ _));intro v821 w6 ho7 hb hg_ hnew_;clear hg_ hnew_;(first|rw [← Ny820.out] at ho7|(simp only [Int.reduceToNat] at ho7;rw [← Ny820.out] at ho7));have HO822:=rl w ho7;replace BK819:=kb BK819 hb;replace HB:=bs HB hb;clear hb ho7;obtain ⟨_,_,_,_,_,_,_,_⟩:=blkc4 BK819)|((with_reducible refine gc 10 ?_);refine gL (some 15) Tryz.func10 #[.slice A0 l0.length c0,.agg #[.slice A1_0 l1_0.length c1_0,.int .i64 a1_1,.slice A1_2 l1_2.length c1_2,.int .i64 a1_3]] ?_;(with_reducible refine (impl_LightsOf.calls k _ _ l0 _ _ l1_0 a1_1 _ _ l1_2 a1_3 t823 _ ?_ ?_ ?_ ?_ ?_ ?_ A4.out).mono ?_);exact cB HR0;exact HC0.out;exact cB HR1_0;exact HC1_0.out;exact cB HR1_2;exact HC1_2.out;rintro e w9 ⟨v824,rfl,ho0,hb⟩;refine ⟨_,rfl,?_⟩;replace HO822:=rb HO822 hb;have HO825:=rl w ho0;replace BK819:=kb BK819 hb;replace HB:=bs HB hb;(try clear hb);(try clear ho0)));go_loopg [7,18] k (fun kq v7 v18 w'=>∃ (x7_1:List (S39)) (x18_1:Int),v18=.int .i64 x18_1∧Aside0 (impl_waited.l0 kq l0 x7_1 t823 l2 (l2.length:Int) x18_1=some r)∧Aside0 (kq≤k)∧Aside0 (Kd.R k39 39 w' w.heap.size (fun _=>True) v7 x7_1)∧Aside0 (Kd.R (Kd.int .i64) 3 w' w.heap.size (fun _=>True) v824 t823)∧Aside0 (w'.heap[gb819]?=some (.cells #[(.slice A1_0 l1_0.length c1_0),.int .i64 a1_1,(.slice A1_2 l1_2.length c1_2),.int .i64 a1_3] 27 (0,0)))∧Aside0 (Below w.heap.size w w'))
 case atStart=>exact ⟨(y820),(0),rS,H',⟨Nat.le_refl _⟩,⟨rK HO822⟩,⟨rK HO825⟩,⟨bK BK819⟩,⟨bG⟩⟩
 case round =>
  clear H';obtain ⟨x7_1,x18_1,rfl,HA,HK1,HO_7,HO_8,BK819,HB⟩:=hrel
  cases gk with
  | zero=>exact absurd HA.out (by simp [impl_waited.l0])
  | succ k1 =>
   have H:=HA.out;clear HA;simp only [impl_waited.l0] at H;by_cases c10:x18_1 < (l2.length:Int)
   ·rw [if_pos c10] at H;have c10b0:=dt c10;clear c10;have c11b0:=ifC H;replace H:=ifT H;have c12b0:=ifC H;replace H:=ifT H;obtain ⟨t828,A13,H⟩:=bindE H;try dsimp only at H
    by_cases c14:t828 < 0
    ·rw [if_pos c14] at H;have c14b0:=dt c14;clear c14;obtain ⟨ji15,hji15⟩:∃ j_:Int,(mn (wrap64 (((rd_T39 l2 x18_1).f1) + 1)) 100000)=j_:=⟨_,rfl⟩;replace H:(if x7_1.length < 8796093022208 then (impl_waited.l0 k1 l0 (x7_1 ++ [(⟨(rd_T39 l2 x18_1).f0,ji15⟩:S39)]) t823 l2 (l2.length:Int) (wrap64 (x18_1 + 1))) else (none))=some r:=by first|(rw [hji15] at H;exact H)|(simp only [hji15] at H ⊢;exact H)
     (try rw [hji15] at A13);have hji15_:(if 100000 < (wrap64 (((rd_T39 l2 x18_1).f1) + 1)) then 100000 else (wrap64 (((rd_T39 l2 x18_1).f1) + 1)))=ji15:=hji15;have c16:x7_1.length < 8796093022208:=ifN H;replace H:=ifT H;have LMc16:=am c16;clear c16;obtain ⟨y829,hy829⟩:∃ y_:List (S39),y_=(x7_1 ++ [(⟨(rd_T39 l2 x18_1).f0,ji15⟩:S39)]):=⟨_,rfl⟩;replace H:=rF H hy829;have Ny829:=am hy829;clear hy829;have H':=am H;clear H;obtain ⟨p826,q826⟩:=pq x18_1 l2;obtain ⟨ad826,e826,hx826_0,hx826_1⟩:=at_T39 (Kd.C_below HR2.out HB.out) x18_1 p826 q826;cases e826;obtain ⟨p826,q826⟩:=eT p826 q826;go_wp2_with (first|((with_reducible refine gd 10 ?_);(try (refine gate_guard (by rfl) ?_;dsimp only));refine bF w 10 #[.int .i64 0,.int .i64 0] 39 ?_;rintro gb827 w17 BK827 GW827 GE827 hb hg;replace HO_7:=am (Kd.R_below (Kd.R_elderB (rK HO_7) gb827 (Nat.le_of_eq hg.symm)) hb);replace HO_8:=rb HO_8 hb;replace HB:=bs HB hb;have NB819_827:=nl BK819 hg;have NB827_819:=nr BK819 hg;replace BK819:=kb BK819 hb;clear hb hg;have hnb18:=NB827_819.out;have hnc18:=NB819_827.out;obtain ⟨_,_,_,_⟩:=blkc2 BK827)|((with_reducible refine gc 28 ?_);refine gL (some 25) Tryz.func28 #[.slice A0 l0.length c0,.int .i64 ((rd_T39 l2 x18_1).f0)] ?_;(with_reducible refine (impl_FindPath.calls _ _ l0 ((rd_T39 l2 x18_1).f0) t828 _ ?_ ?_ A13.out).mono ?_);exact Kd.C_below HR0.out bG;exact HC0.out;rintro e w20 ⟨rfl,hb⟩;refine ⟨_,rfl,?_⟩;have n0_:=am (Kd.R_below (by (with_reducible repeat (first|apply Kd.R_alloc|apply Kd.R_drewN|apply Kd.R_drew));exact (Kd.R_mono (Kd.R_far (p:=⟨gb827,1,none⟩) (Kd.R_far (p:=⟨gb827,0,none⟩) (Kd.R_mono HO_7.out (fun k_ hk=>(⟨hk,hk.2⟩:_∧k_≠gb827))) (fun _ hk=>hk.2) (.int .i64 ((rd_T39 l2 x18_1).f0))) (fun _ hk=>hk.2) (.int .i64 ((rd_T39 l2 x18_1).f1))) (fun _ h_=>h_.1))) hb);have n1_:=am (Kd.R_below (rf HO_8 BK827) hb);have n2_:=kc (kf BK819 NB819_827) hb;have n3_:=kc (o:=.cells #[.int .i64 ((rd_T39 l2 x18_1).f0),.int .i64 ((rd_T39 l2 x18_1).f1)] 39 (0,0)) (kp BK827) hb;have n4_:=bs HB hb;clear HO_7;clear HO_8;clear BK819;clear BK827;clear HB;have HO_7:=n0_;have HO_8:=n1_;have BK819:=n2_;have BK827:=n3_;have HB:=n4_;clear n0_ n1_ n2_ n3_ n4_;(try clear hb);obtain ⟨_,_,_,_⟩:=blkc2 BK827)|((with_reducible refine gate_builtin (b:=.append) (xs:=#[.tmp 46,.tmp 48]) rfl ?_);(try (refine gate_guard (by rfl) ?_;dsimp only));at_builtin;refine Kd.R_append k39 (w0:=w) w.heap.size rfl (.tmp 46) (.tmp 48) 28 39 (.agg #[(.int .i64 0),(.int .i64 0)]) 16 rfl Tryz.underlying28 info39 rfl (by decide) (by omega) u7 x7_1 (⟨(rd_T39 l2 x18_1).f0,ji15⟩:S39) [.int .i64 ((rd_T39 l2 x18_1).f0),.int .i64 ji15] (fun k_=>k_≠gb827) (fun _=>False) rfl (by first|(go_simp;done)|(go_simp;rfl)) ?aP (fun _ hk=>hk.elim) ?aF ?aO ?aB ?aS ?aL ?_;(case aP=>exact k39_mkM _ _ _ (⟨(rd_T39 l2 x18_1).f0,ji15⟩:S39));(case aB=>exact bG);(case aF=>exact (fun k_ hk=>Kd.freshB (g:=gb827) (o:=.cells #[.int .i64 ((rd_T39 l2 x18_1).f0),.int .i64 ji15] 39 (0,0)) (kp BK827) k_ hk));(case aO=>exact (by (with_reducible repeat (first|apply Kd.R_alloc|apply Kd.R_drewN|apply Kd.R_drew));exact Kd.R_mono (Kd.R_far (p:=⟨gb827,1,none⟩) (Kd.R_mono HO_7.out (fun k_ hk=>(⟨hk,hk.2⟩:_∧k_≠gb827))) (fun _ hk=>hk.2) (.int .i64 ji15)) (fun _ hk=>hk.1.2)));(case aS=>exact (below_size bG));(case aL=>have:=LMc16.out;omega);intro v830 w22 ho hb hg hat;rw [← Ny829.out] at ho;have n0_:=am (Kd.R_over' (rf HO_8 BK827) (Kd.R_typed (by (with_reducible repeat (first|apply Kd.R_alloc|apply Kd.R_drewN|apply Kd.R_drew));exact (Kd.R_mono (Kd.R_far (p:=⟨gb827,1,none⟩) (Kd.R_mono HO_7.out (fun k_ hk=>(⟨hk,hk.2⟩:_∧k_≠gb827))) (fun _ hk=>hk.2) (.int .i64 ji15)) (fun _ h_=>h_.1)))) (by decide) hg);have n1_:=am (blk_grown (g:=gb819) (o:=.cells #[.slice A1_0 l1_0.length c1_0,.int .i64 a1_1,.slice A1_2 l1_2.length c1_2,.int .i64 a1_3] 27 (0,0)) (kf BK819 NB819_827) hg (Kd.R_ne HO_7.out BK819.out (by decide)));have n2_:=am (blk_grown (g:=gb827) (o:=.cells #[.int .i64 ((rd_T39 l2 x18_1).f0),.int .i64 ji15] 39 (0,0)) (kp BK827) hg (Kd.R_away HO_7.out (fun _ hk=>hk.2)));have n3_:=am (hb);have n4_:=am (ho);clear HO_8;clear BK819;clear BK827;clear HB;clear HO_7;have HO_8:=n0_;have BK819:=n1_;have BK827:=n2_;have HB:=n3_;have HO831:=n4_;clear n0_ n1_ n2_ n3_ n4_;clear ho hb hg hat))
     go_roundg k1
     case measure=>have:=HK1.out;omega
     case rel=>exact ⟨(y829),(wrap64 (x18_1 + 1)),rS,H',⟨by have:=HK1.out;omega⟩,⟨rm HO831 (fun _ hk=>trivial)⟩,⟨rK HO_8⟩,⟨bK BK819⟩,⟨bG⟩⟩
    rw [if_neg c14] at H;have c14b0:=df c14;clear c14;by_cases c23:t828≥(t823.length:Int)
    ·rw [if_pos c23] at H;have c23b0:=dt c23;clear c23;obtain ⟨ji24,hji24⟩:∃ j_:Int,(mn (wrap64 (((rd_T39 l2 x18_1).f1) + 1)) 100000)=j_:=⟨_,rfl⟩;replace H:(if x7_1.length < 8796093022208 then (impl_waited.l0 k1 l0 (x7_1 ++ [(⟨(rd_T39 l2 x18_1).f0,ji24⟩:S39)]) t823 l2 (l2.length:Int) (wrap64 (x18_1 + 1))) else (none))=some r:=by first|(rw [hji24] at H;exact H)|(simp only [hji24] at H ⊢;exact H)
     (try rw [hji24] at A13);have hji24_:(if 100000 < (wrap64 (((rd_T39 l2 x18_1).f1) + 1)) then 100000 else (wrap64 (((rd_T39 l2 x18_1).f1) + 1)))=ji24:=hji24;have c25:x7_1.length < 8796093022208:=ifN H;replace H:=ifT H;have LMc25:=am c25;clear c25;obtain ⟨y832,hy832⟩:∃ y_:List (S39),y_=(x7_1 ++ [(⟨(rd_T39 l2 x18_1).f0,ji24⟩:S39)]):=⟨_,rfl⟩;replace H:=rF H hy832;have Ny832:=am hy832;clear hy832;have H':=am H;clear H;obtain ⟨p826,q826⟩:=pq x18_1 l2;obtain ⟨ad826,e826,hx826_0,hx826_1⟩:=at_T39 (Kd.C_below HR2.out HB.out) x18_1 p826 q826;cases e826;obtain ⟨p826,q826⟩:=eT p826 q826;go_wp2_with (first|((with_reducible refine gd 10 ?_);(try (refine gate_guard (by rfl) ?_;dsimp only));refine bF w 10 #[.int .i64 0,.int .i64 0] 39 ?_;rintro gb827 w26 BK827 GW827 GE827 hb hg;replace HO_7:=am (Kd.R_below (Kd.R_elderB (rK HO_7) gb827 (Nat.le_of_eq hg.symm)) hb);replace HO_8:=rb HO_8 hb;replace HB:=bs HB hb;have NB819_827:=nl BK819 hg;have NB827_819:=nr BK819 hg;replace BK819:=kb BK819 hb;clear hb hg;have hnb27:=NB827_819.out;have hnc27:=NB819_827.out;obtain ⟨_,_,_,_⟩:=blkc2 BK827)|((with_reducible refine gc 28 ?_);refine gL (some 25) Tryz.func28 #[.slice A0 l0.length c0,.int .i64 ((rd_T39 l2 x18_1).f0)] ?_;(with_reducible refine (impl_FindPath.calls _ _ l0 ((rd_T39 l2 x18_1).f0) t828 _ ?_ ?_ A13.out).mono ?_);exact Kd.C_below HR0.out bG;exact HC0.out;rintro e w29 ⟨rfl,hb⟩;refine ⟨_,rfl,?_⟩;have n0_:=am (Kd.R_below (by (with_reducible repeat (first|apply Kd.R_alloc|apply Kd.R_drewN|apply Kd.R_drew));exact (Kd.R_mono (Kd.R_far (p:=⟨gb827,1,none⟩) (Kd.R_far (p:=⟨gb827,0,none⟩) (Kd.R_mono HO_7.out (fun k_ hk=>(⟨hk,hk.2⟩:_∧k_≠gb827))) (fun _ hk=>hk.2) (.int .i64 ((rd_T39 l2 x18_1).f0))) (fun _ hk=>hk.2) (.int .i64 ((rd_T39 l2 x18_1).f1))) (fun _ h_=>h_.1))) hb);have n1_:=am (Kd.R_below (rf HO_8 BK827) hb);have n2_:=kc (kf BK819 NB819_827) hb;have n3_:=kc (o:=.cells #[.int .i64 ((rd_T39 l2 x18_1).f0),.int .i64 ((rd_T39 l2 x18_1).f1)] 39 (0,0)) (kp BK827) hb;have n4_:=bs HB hb;clear HO_7;clear HO_8;clear BK819;clear BK827;clear HB;have HO_7:=n0_;have HO_8:=n1_;have BK819:=n2_;have BK827:=n3_;have HB:=n4_;clear n0_ n1_ n2_ n3_ n4_;(try clear hb);obtain ⟨Ao30,co30,eo30⟩:=Kd.R_slice HO_8.out;subst eo30;obtain ⟨_,_,_,_⟩:=blkc2 BK827)|((with_reducible refine gate_builtin (b:=.append) (xs:=#[.tmp 46,.tmp 48]) rfl ?_);(try (refine gate_guard (by rfl) ?_;dsimp only));at_builtin;refine Kd.R_append k39 (w0:=w) w.heap.size rfl (.tmp 46) (.tmp 48) 28 39 (.agg #[(.int .i64 0),(.int .i64 0)]) 16 rfl Tryz.underlying28 info39 rfl (by decide) (by omega) u7 x7_1 (⟨(rd_T39 l2 x18_1).f0,ji24⟩:S39) [.int .i64 ((rd_T39 l2 x18_1).f0),.int .i64 ji24] (fun k_=>k_≠gb827) (fun _=>False) rfl (by first|(go_simp;done)|(go_simp;rfl)) ?aP (fun _ hk=>hk.elim) ?aF ?aO ?aB ?aS ?aL ?_;(case aP=>exact k39_mkM _ _ _ (⟨(rd_T39 l2 x18_1).f0,ji24⟩:S39));(case aB=>exact bG);(case aF=>exact (fun k_ hk=>Kd.freshB (g:=gb827) (o:=.cells #[.int .i64 ((rd_T39 l2 x18_1).f0),.int .i64 ji24] 39 (0,0)) (kp BK827) k_ hk));(case aO=>exact (by (with_reducible repeat (first|apply Kd.R_alloc|apply Kd.R_drewN|apply Kd.R_drew));exact Kd.R_mono (Kd.R_far (p:=⟨gb827,1,none⟩) (Kd.R_mono HO_7.out (fun k_ hk=>(⟨hk,hk.2⟩:_∧k_≠gb827))) (fun _ hk=>hk.2) (.int .i64 ji24)) (fun _ hk=>hk.1.2)));(case aS=>exact (below_size bG));(case aL=>have:=LMc25.out;omega);intro v833 w32 ho hb hg hat;rw [← Ny832.out] at ho;have n0_:=am (Kd.R_over' (rf HO_8 BK827) (Kd.R_typed (by (with_reducible repeat (first|apply Kd.R_alloc|apply Kd.R_drewN|apply Kd.R_drew));exact (Kd.R_mono (Kd.R_far (p:=⟨gb827,1,none⟩) (Kd.R_mono HO_7.out (fun k_ hk=>(⟨hk,hk.2⟩:_∧k_≠gb827))) (fun _ hk=>hk.2) (.int .i64 ji24)) (fun _ h_=>h_.1)))) (by decide) hg);have n1_:=am (blk_grown (g:=gb819) (o:=.cells #[.slice A1_0 l1_0.length c1_0,.int .i64 a1_1,.slice A1_2 l1_2.length c1_2,.int .i64 a1_3] 27 (0,0)) (kf BK819 NB819_827) hg (Kd.R_ne HO_7.out BK819.out (by decide)));have n2_:=am (blk_grown (g:=gb827) (o:=.cells #[.int .i64 ((rd_T39 l2 x18_1).f0),.int .i64 ji24] 39 (0,0)) (kp BK827) hg (Kd.R_away HO_7.out (fun _ hk=>hk.2)));have n3_:=am (hb);have n4_:=am (ho);clear HO_8;clear BK819;clear BK827;clear HB;clear HO_7;have HO_8:=n0_;have BK819:=n1_;have BK827:=n2_;have HB:=n3_;have HO834:=n4_;clear n0_ n1_ n2_ n3_ n4_;clear ho hb hg hat))
     go_roundg k1
     case measure=>have:=HK1.out;omega
     case rel=>exact ⟨(y832),(wrap64 (x18_1 + 1)),rS,H',⟨by have:=HK1.out;omega⟩,⟨rm HO834 (fun _ hk=>trivial)⟩,⟨rK HO_8⟩,⟨bK BK819⟩,⟨bG⟩⟩
    rw [if_neg c23] at H;have c23b0:=df c23;clear c23;have c33b0:=ifC H;replace H:=ifT H;have c34b0:=ifC H;replace H:=ifT H;by_cases c35:(rd t823 t828)=1
    ·rw [if_pos c35] at H;obtain ⟨c35b0,c35b1⟩:=eI c35;clear c35;have H':=am H;clear H;obtain ⟨p826,q826⟩:=pq x18_1 l2;obtain ⟨ad826,e826,hx826_0,hx826_1⟩:=at_T39 (Kd.C_below HR2.out HB.out) x18_1 p826 q826;cases e826;obtain ⟨p826,q826⟩:=eT p826 q826;go_wp2_with (first|((with_reducible refine gd 10 ?_);(try (refine gate_guard (by rfl) ?_;dsimp only));refine bF w 10 #[.int .i64 0,.int .i64 0] 39 ?_;rintro gb827 w36 BK827 GW827 GE827 hb hg;replace HO_7:=am (Kd.R_below (Kd.R_elderB (rK HO_7) gb827 (Nat.le_of_eq hg.symm)) hb);replace HO_8:=rb HO_8 hb;replace HB:=bs HB hb;have NB819_827:=nl BK819 hg;have NB827_819:=nr BK819 hg;replace BK819:=kb BK819 hb;clear hb hg;have hnb37:=NB827_819.out;have hnc37:=NB819_827.out;obtain ⟨_,_,_,_⟩:=blkc2 BK827)|((with_reducible refine gc 28 ?_);refine gL (some 25) Tryz.func28 #[.slice A0 l0.length c0,.int .i64 ((rd_T39 l2 x18_1).f0)] ?_;(with_reducible refine (impl_FindPath.calls _ _ l0 ((rd_T39 l2 x18_1).f0) t828 _ ?_ ?_ A13.out).mono ?_);exact Kd.C_below HR0.out bG;exact HC0.out;rintro e w39 ⟨rfl,hb⟩;refine ⟨_,rfl,?_⟩;have n0_:=am (Kd.R_below (by (with_reducible repeat (first|apply Kd.R_alloc|apply Kd.R_drewN|apply Kd.R_drew));exact (Kd.R_mono (Kd.R_far (p:=⟨gb827,1,none⟩) (Kd.R_far (p:=⟨gb827,0,none⟩) (Kd.R_mono HO_7.out (fun k_ hk=>(⟨hk,hk.2⟩:_∧k_≠gb827))) (fun _ hk=>hk.2) (.int .i64 ((rd_T39 l2 x18_1).f0))) (fun _ hk=>hk.2) (.int .i64 ((rd_T39 l2 x18_1).f1))) (fun _ h_=>h_.1))) hb);have n1_:=am (Kd.R_below (rf HO_8 BK827) hb);have n2_:=kc (kf BK819 NB819_827) hb;have n3_:=kc (o:=.cells #[.int .i64 ((rd_T39 l2 x18_1).f0),.int .i64 ((rd_T39 l2 x18_1).f1)] 39 (0,0)) (kp BK827) hb;have n4_:=bs HB hb;clear HO_7;clear HO_8;clear BK819;clear BK827;clear HB;have HO_7:=n0_;have HO_8:=n1_;have BK819:=n2_;have BK827:=n3_;have HB:=n4_;clear n0_ n1_ n2_ n3_ n4_;(try clear hb);obtain ⟨Ao40,co40,eo40⟩:=Kd.R_slice HO_8.out;subst eo40;have p835:0≤(t828:Int):=dA;have q835:t828 < (t823.length:Int):=dA;obtain ⟨ad835,e835,hx835_0⟩:=Kd.at_int (Kd.R_reads' HO_8.out).2.2 t828 p835 q835;cases e835;replace p835:=eq_true p835;replace q835:=eq_true q835));go_roundg k1
     case measure=>have:=HK1.out;omega
     case rel=>exact ⟨(x7_1),(wrap64 (x18_1 + 1)),rS,H',⟨by have:=HK1.out;omega⟩,⟨rm HO_7 (fun _ hk=>trivial)⟩,⟨rK HO_8⟩,⟨bK BK819⟩,⟨bG⟩⟩
    rw [if_neg c35] at H;obtain ⟨c35b0,c35b1⟩:=nI c35;obtain ⟨ji41,hji41⟩:∃ j_:Int,(mn (wrap64 (((rd_T39 l2 x18_1).f1) + 1)) 100000)=j_:=⟨_,rfl⟩;replace H:(if x7_1.length < 8796093022208 then (impl_waited.l0 k1 l0 (x7_1 ++ [(⟨(rd_T39 l2 x18_1).f0,ji41⟩:S39)]) t823 l2 (l2.length:Int) (wrap64 (x18_1 + 1))) else (none))=some r:=by first|(rw [hji41] at H;exact H)|(simp only [hji41] at H ⊢;exact H)
    (try rw [hji41] at A13);have hji41_:(if 100000 < (wrap64 (((rd_T39 l2 x18_1).f1) + 1)) then 100000 else (wrap64 (((rd_T39 l2 x18_1).f1) + 1)))=ji41:=hji41;have c42:x7_1.length < 8796093022208:=ifN H;replace H:=ifT H;have LMc42:=am c42;clear c42;obtain ⟨y836,hy836⟩:∃ y_:List (S39),y_=(x7_1 ++ [(⟨(rd_T39 l2 x18_1).f0,ji41⟩:S39)]):=⟨_,rfl⟩;replace H:=rF H hy836;have Ny836:=am hy836;clear hy836;have H':=am H;clear H;obtain ⟨p826,q826⟩:=pq x18_1 l2;obtain ⟨ad826,e826,hx826_0,hx826_1⟩:=at_T39 (Kd.C_below HR2.out HB.out) x18_1 p826 q826;cases e826;obtain ⟨p826,q826⟩:=eT p826 q826;go_wp2_with (first|((with_reducible refine gd 10 ?_);(try (refine gate_guard (by rfl) ?_;dsimp only));refine bF w 10 #[.int .i64 0,.int .i64 0] 39 ?_;rintro gb827 w43 BK827 GW827 GE827 hb hg;replace HO_7:=am (Kd.R_below (Kd.R_elderB (rK HO_7) gb827 (Nat.le_of_eq hg.symm)) hb);replace HO_8:=rb HO_8 hb;replace HB:=bs HB hb;have NB819_827:=nl BK819 hg;have NB827_819:=nr BK819 hg;replace BK819:=kb BK819 hb;clear hb hg;have hnb44:=NB827_819.out;have hnc44:=NB819_827.out;obtain ⟨_,_,_,_⟩:=blkc2 BK827)|((with_reducible refine gc 28 ?_);refine gL (some 25) Tryz.func28 #[.slice A0 l0.length c0,.int .i64 ((rd_T39 l2 x18_1).f0)] ?_;(with_reducible refine (impl_FindPath.calls _ _ l0 ((rd_T39 l2 x18_1).f0) t828 _ ?_ ?_ A13.out).mono ?_);exact Kd.C_below HR0.out bG;exact HC0.out;rintro e w46 ⟨rfl,hb⟩;refine ⟨_,rfl,?_⟩;have n0_:=am (Kd.R_below (by (with_reducible repeat (first|apply Kd.R_alloc|apply Kd.R_drewN|apply Kd.R_drew));exact (Kd.R_mono (Kd.R_far (p:=⟨gb827,1,none⟩) (Kd.R_far (p:=⟨gb827,0,none⟩) (Kd.R_mono HO_7.out (fun k_ hk=>(⟨hk,hk.2⟩:_∧k_≠gb827))) (fun _ hk=>hk.2) (.int .i64 ((rd_T39 l2 x18_1).f0))) (fun _ hk=>hk.2) (.int .i64 ((rd_T39 l2 x18_1).f1))) (fun _ h_=>h_.1))) hb);have n1_:=am (Kd.R_below (rf HO_8 BK827) hb);have n2_:=kc (kf BK819 NB819_827) hb;have n3_:=kc (o:=.cells #[.int .i64 ((rd_T39 l2 x18_1).f0),.int .i64 ((rd_T39 l2 x18_1).f1)] 39 (0,0)) (kp BK827) hb;have n4_:=bs HB hb;clear HO_7;clear HO_8;clear BK819;clear BK827;clear HB;have HO_7:=n0_;have HO_8:=n1_;have BK819:=n2_;have BK827:=n3_;have HB:=n4_;clear n0_ n1_ n2_ n3_ n4_;(try clear hb);obtain ⟨Ao47,co47,eo47⟩:=Kd.R_slice HO_8.out;subst eo47;have p835:0≤(t828:Int):=dA;have q835:t828 < (t823.length:Int):=dA;obtain ⟨ad835,e835,hx835_0⟩:=Kd.at_int (Kd.R_reads' HO_8.out).2.2 t828 p835 q835;cases e835;replace p835:=eq_true p835;replace q835:=eq_true q835;obtain ⟨_,_,_,_⟩:=blkc2 BK827)|((with_reducible refine gate_builtin (b:=.append) (xs:=#[.tmp 46,.tmp 48]) rfl ?_);(try (refine gate_guard (by rfl) ?_;dsimp only));at_builtin;refine Kd.R_append k39 (w0:=w) w.heap.size rfl (.tmp 46) (.tmp 48) 28 39 (.agg #[(.int .i64 0),(.int .i64 0)]) 16 rfl Tryz.underlying28 info39 rfl (by decide) (by omega) u7 x7_1 (⟨(rd_T39 l2 x18_1).f0,ji41⟩:S39) [.int .i64 ((rd_T39 l2 x18_1).f0),.int .i64 ji41] (fun k_=>k_≠gb827) (fun _=>False) rfl (by first|(go_simp;done)|(go_simp;rfl)) ?aP (fun _ hk=>hk.elim) ?aF ?aO ?aB ?aS ?aL ?_;(case aP=>exact k39_mkM _ _ _ (⟨(rd_T39 l2 x18_1).f0,ji41⟩:S39));(case aB=>exact bG);(case aF=>exact (fun k_ hk=>Kd.freshB (g:=gb827) (o:=.cells #[.int .i64 ((rd_T39 l2 x18_1).f0),.int .i64 ji41] 39 (0,0)) (kp BK827) k_ hk));(case aO=>exact (by (with_reducible repeat (first|apply Kd.R_alloc|apply Kd.R_drewN|apply Kd.R_drew));exact Kd.R_mono (Kd.R_far (p:=⟨gb827,1,none⟩) (Kd.R_mono HO_7.out (fun k_ hk=>(⟨hk,hk.2⟩:_∧k_≠gb827))) (fun _ hk=>hk.2) (.int .i64 ji41)) (fun _ hk=>hk.1.2)));(case aS=>exact (below_size bG));(case aL=>have:=LMc42.out;omega);intro v837 w49 ho hb hg hat;rw [← Ny836.out] at ho;have n0_:=am (Kd.R_over' (rf HO_8 BK827) (Kd.R_typed (by (with_reducible repeat (first|apply Kd.R_alloc|apply Kd.R_drewN|apply Kd.R_drew));exact (Kd.R_mono (Kd.R_far (p:=⟨gb827,1,none⟩) (Kd.R_mono HO_7.out (fun k_ hk=>(⟨hk,hk.2⟩:_∧k_≠gb827))) (fun _ hk=>hk.2) (.int .i64 ji41)) (fun _ h_=>h_.1)))) (by decide) hg);have n1_:=am (blk_grown (g:=gb819) (o:=.cells #[.slice A1_0 l1_0.length c1_0,.int .i64 a1_1,.slice A1_2 l1_2.length c1_2,.int .i64 a1_3] 27 (0,0)) (kf BK819 NB819_827) hg (Kd.R_ne HO_7.out BK819.out (by decide)));have n2_:=am (blk_grown (g:=gb827) (o:=.cells #[.int .i64 ((rd_T39 l2 x18_1).f0),.int .i64 ji41] 39 (0,0)) (kp BK827) hg (Kd.R_away HO_7.out (fun _ hk=>hk.2)));have n3_:=am (hb);have n4_:=am (ho);clear HO_8;clear BK819;clear BK827;clear HB;clear HO_7;have HO_8:=n0_;have BK819:=n1_;have BK827:=n2_;have HB:=n3_;have HO838:=n4_;clear n0_ n1_ n2_ n3_ n4_;clear ho hb hg hat))
    go_roundg k1
    case measure=>have:=HK1.out;omega
    case rel=>exact ⟨(y836),(wrap64 (x18_1 + 1)),rS,H',⟨by have:=HK1.out;omega⟩,⟨rm HO838 (fun _ hk=>trivial)⟩,⟨rK HO_8⟩,⟨bK BK819⟩,⟨bG⟩⟩
   rw [if_neg c10] at H;have c10b0:=df c10;clear c10;obtain rfl:=oj H;go_wp2;go_ret;exact ⟨_,rA,rK HO_7,bG⟩

/-! ### impl_StepAsk: function 6 -/
def impl_StepAsk.j0:Nat→List (S58)→List (S39)→Bool→List Int→Int→List Int→Int→Option (List Int × Int × List Int × Int × (List (S39)))
 | 0,_,_,_,_,_,_,_=>none
 | k + 1,x0,x2,x18,x840000,x840001,x840002,x840003=>if x18=true then ((impl_cloneControl.f x840000 x840001 x840002 x840003).bind fun bt843=>((impl_Want_21.f x2).bind fun t851=>(some (bt843.1,bt843.2.1,bt843.2.2.1,bt843.2.2.2,t851)))) else ((impl_asked.f k x0 x840000 x840001 x840002 x840003 x2).bind fun bt854=>((impl_waited.f k x0 bt854.1 bt854.2.1 bt854.2.2.1 bt854.2.2.2 x2).bind fun t863=>(some (bt854.1,bt854.2.1,bt854.2.2.1,bt854.2.2.2,t863))))
def impl_StepAsk.f (k:Nat) (l0:List (S58)) (l1_0:List Int) (a1_1:Int) (l1_2:List Int) (a1_3:Int) (l2:List (S39)):Option (List Int × Int × List Int × Int × (List (S39))):=(impl_IsControl.f k l0 l1_0 a1_1 l1_2 a1_3).bind fun t841=>(if t841=true then ((impl_AreWants.f k l0 l2).bind fun t842=>(impl_StepAsk.j0 k l0 l2 (!t842) l1_0 a1_1 l1_2 a1_3)) else (impl_StepAsk.j0 k l0 l2 true l1_0 a1_1 l1_2 a1_3))
theorem impl_StepAsk.mono_l:∀ k,(∀ y0 y1 y2 y3 y4 y5 y6,LeO (impl_StepAsk.j0 k y0 y1 y2 y3 y4 y5 y6) (impl_StepAsk.j0 (k + 1) y0 y1 y2 y3 y4 y5 y6))
 | 0=>fun _ _ _ _ _ _ _ r h=>by simp [impl_StepAsk.j0] at h
 | k + 1=>by
  have ih0:=impl_StepAsk.mono_l k
  ·intro y0 y1 y2 y3 y4 y5 y6;unfold impl_StepAsk.j0;exact mz5 ih0 impl_AreWants.mono impl_IsControl.mono impl_asked.mono impl_waited.mono
theorem impl_StepAsk.mono:∀ a0 a1 a2 a3 a4 a5 k,LeO (impl_StepAsk.f k a0 a1 a2 a3 a4 a5) (impl_StepAsk.f (k + 1) a0 a1 a2 a3 a4 a5):=by
 intro a0 a1 a2 a3 a4 a5 k;have ih0:=impl_StepAsk.mono_l k;unfold impl_StepAsk.f;exact mz5 ih0 impl_AreWants.mono impl_IsControl.mono impl_asked.mono impl_waited.mono
set_option maxHeartbeats 8000000 in
set_option maxRecDepth 100000 in
theorem impl_StepAsk.calls (k:Nat) (A0:Option Addr) (c0:Nat) (l0:List (S58)) (A1_0:Option Addr) (c1_0:Nat) (l1_0:List Int) (a1_1:Int) (A1_2:Option Addr) (c1_2:Nat) (l1_2:List Int) (a1_3:Int) (A2:Option Addr) (c2:Nat) (l2:List (S39)) (r1:List Int) (r2:Int) (r3:List Int) (r4:Int) (r5:List (S39)) (w:World) (hr0:Kd.C k58 w A0 l0.length l0) (hc0:l0.length≤c0) (hr1_0:Kd.C (Kd.int .i64) w A1_0 l1_0.length l1_0) (hc1_0:l1_0.length≤c1_0) (hr1_2:Kd.C (Kd.int .i64) w A1_2 l1_2.length l1_2) (hc1_2:l1_2.length≤c1_2) (hr2:Kd.C k39 w A2 l2.length l2) (hc2:l2.length≤c2) (h:impl_StepAsk.f k l0 l1_0 a1_1 l1_2 a1_3 l2=some (r1,r2,r3,r4,r5)) :
  Calls Tryz.prog 6 #[.slice A0 l0.length c0,.agg #[.slice A1_0 l1_0.length c1_0,.int .i64 a1_1,.slice A1_2 l1_2.length c1_2,.int .i64 a1_3],.slice A2 l2.length c2] w fun e w'=>∃ v0_ v2_ v4_:Value,e=.returned (.tuple #[.agg #[v0_,.int .i64 r2,v2_,.int .i64 r4],v4_])∧Kd.R (Kd.int .i64) 3 w' w.heap.size (n1 v2_) v0_ r1∧Kd.R (Kd.int .i64) 3 w' w.heap.size (n1 v0_) v2_ r3∧Kd.R k39 39 w' w.heap.size (fun _=>True) v4_ r5∧Below w.heap.size w w':=by
 have hu27:=Tryz.underlying27;have HR0:=am hr0;have HC0:=am hc0;clear hr0 hc0;have HR1_0:=am hr1_0;have HC1_0:=am hc1_0;clear hr1_0 hc1_0;have HR1_2:=am hr1_2;have HC1_2:=am hc1_2;clear hr1_2 hc1_2;have HR2:=am hr2;have HC2:=am hc2;clear hr2 hc2;have HB:=am (Below.refl w.heap.size w);unfold impl_StepAsk.f at h;have H:=h;clear h;have HC4:=am H;clear H;go_enter Tryz.func6,Tryz.ntmps6;go_upto_region 1 with (first|((with_reducible refine gd 4 ?_);refine bF w 4 #[.slice A1_0 l1_0.length c1_0,.int .i64 a1_1,.slice A1_2 l1_2.length c1_2,.int .i64 a1_3] 27 ?_;rintro gb839 w5 BK839 GW839 GE839 hb hg;replace HB:=bs HB hb;clear hb hg)|((with_reducible refine gd 6 ?_);refine bF w 6 #[.slice none 0 0,.int .i64 0,.slice none 0 0,.int .i64 0] 27 ?_;rintro gb840 w6 BK840 GW840 GE840 hb hg;replace HB:=bs HB hb;have NB839_840:=nl BK839 hg;have NB840_839:=nr BK839 hg;replace BK839:=kb BK839 hb;clear hb hg));(try simp only [Act.put,List.setIfInBounds_toArray,List.set_cons_zero,List.set_cons_succ]);go_cut [18] (fun v18 wc=>∃ (kq:Nat) (x18_3:Bool),v18=.bool x18_3∧Aside0 (impl_StepAsk.j0 kq l0 l2 x18_3 l1_0 a1_1 l1_2 a1_3=some (r1,r2,r3,r4,r5))∧Aside0 (kq≤k)∧Aside0 (wc.heap[gb839]?=some (.cells #[(.slice A1_0 l1_0.length c1_0),.int .i64 a1_1,(.slice A1_2 l1_2.length c1_2),.int .i64 a1_3] 27 (0,0)))∧Aside0 (wc.heap[gb840]?=some (.cells #[(.slice none 0 0),.int .i64 0,(.slice none 0 0),.int .i64 0] 27 (0,0)))∧Aside0 (Below w.heap.size w wc))
 case first =>
  have H:=HC4.out;clear HC4;obtain ⟨t841,A7,H⟩:=bindE H;try dsimp only at H
  by_cases c8:t841=true
  ·subst c8;rw [if_pos rfl] at H;obtain ⟨t842,A9,H⟩:=bindE H;try dsimp only at H
   have H':=am H;clear H;have hnb10:=NB839_840.out;have hnc10:=NB840_839.out;obtain ⟨_,_,_,_,_,_,_,_⟩:=blkc4 BK839;go_wp2_with (first|((with_reducible refine gc 7 ?_);refine gL (some 11) Tryz.func7 #[.slice A0 l0.length c0,.agg #[.slice A1_0 l1_0.length c1_0,.int .i64 a1_1,.slice A1_2 l1_2.length c1_2,.int .i64 a1_3]] ?_;(with_reducible refine (impl_IsControl.calls k _ _ l0 _ _ l1_0 a1_1 _ _ l1_2 a1_3 true _ ?_ ?_ ?_ ?_ ?_ ?_ A7.out).mono ?_);exact cB HR0;exact HC0.out;exact cB HR1_0;exact HC1_0.out;exact cB HR1_2;exact HC1_2.out;rintro e w12 ⟨rfl,hb⟩;refine ⟨_,rfl,?_⟩;replace BK839:=kb BK839 hb;replace BK840:=kb BK840 hb;replace HB:=bs HB hb;(try clear hb))|(go_at_call 8;(with_reducible refine (impl_AreWants.calls k _ _ l0 _ _ l2 t842 _ ?_ ?_ ?_ ?_ A9.out).mono ?_);exact cB HR0;exact HC0.out;exact cB HR2;exact HC2.out;rintro e w13 ⟨rfl,hb⟩;replace BK839:=kb BK839 hb;replace BK840:=kb BK840 hb;replace HB:=bs HB hb;(try clear hb)))
   go_meet
   case rel=>exact ⟨_,(!t842),rS,H',⟨oL⟩,⟨bK BK839⟩,⟨bK BK840⟩,⟨bG⟩⟩
  replace c8:=Bool.eq_false_iff.mpr c8;subst c8;rw [if_neg Bool.false_ne_true] at H;have H':=am H;clear H;have hnb14:=NB839_840.out;have hnc14:=NB840_839.out;obtain ⟨_,_,_,_,_,_,_,_⟩:=blkc4 BK839;go_wp2_with (first|((with_reducible refine gc 7 ?_);refine gL (some 11) Tryz.func7 #[.slice A0 l0.length c0,.agg #[.slice A1_0 l1_0.length c1_0,.int .i64 a1_1,.slice A1_2 l1_2.length c1_2,.int .i64 a1_3]] ?_;(with_reducible refine (impl_IsControl.calls k _ _ l0 _ _ l1_0 a1_1 _ _ l1_2 a1_3 false _ ?_ ?_ ?_ ?_ ?_ ?_ A7.out).mono ?_);exact cB HR0;exact HC0.out;exact cB HR1_0;exact HC1_0.out;exact cB HR1_2;exact HC1_2.out;rintro e w16 ⟨rfl,hb⟩;refine ⟨_,rfl,?_⟩;replace BK839:=kb BK839 hb;replace BK840:=kb BK840 hb;replace HB:=bs HB hb;(try clear hb)))
  go_meet
  case rel=>exact ⟨_,(true),rS,H',⟨oL⟩,⟨bK BK839⟩,⟨bK BK840⟩,⟨bG⟩⟩
 case rest =>
  clear HC4;obtain ⟨kq,x18_3,rfl,HA,HJ3,BK839,BK840,HB⟩:=hcut
  cases kq with
  | zero=>exact absurd HA.out (by simp [impl_StepAsk.j0])
  | succ kj3 =>
   have H:=HA.out;clear HA;simp only [impl_StepAsk.j0] at H;by_cases c17:x18_3=true
   ·subst c17;rw [if_pos rfl] at H;obtain ⟨⟨t843,t846,t847,t850⟩,A18,H⟩:=bindE H;try dsimp only at H
    obtain ⟨t851,A19,H⟩:=bindE H;try dsimp only at H
    simp only [Option.some.injEq,Prod.mk.injEq] at H;obtain ⟨rfl,rfl,rfl,rfl,rfl⟩:=H;have hnb20:=NB839_840.out;have hnc20:=NB840_839.out;obtain ⟨_,_,_,_,_,_,_,_⟩:=blkc4 BK839;go_wp2_with (first|((with_reducible refine gc 20 ?_);refine gL (some 20) Tryz.func20 #[.agg #[.slice A1_0 l1_0.length c1_0,.int .i64 a1_1,.slice A1_2 l1_2.length c1_2,.int .i64 a1_3]] ?_;(with_reducible refine (impl_cloneControl.calls _ _ l1_0 a1_1 _ _ l1_2 a1_3 t843 t846 t847 t850 _ ?_ ?_ ?_ ?_ A18.out).mono ?_);exact cB HR1_0;exact HC1_0.out;exact cB HR1_2;exact HC1_2.out;rintro e w22 ⟨v844,v848,rfl,ho0,ho1,hb⟩;refine ⟨_,rfl,?_⟩;have HO845:=rl w ho0;have HO849:=rl w ho1;replace BK839:=kb BK839 hb;replace BK840:=kb BK840 hb;replace HB:=bs HB hb;(try clear hb);(try clear ho0);(try clear ho1))|((with_reducible refine gc 21 ?_);refine gL (some 22) Tryz.func21 #[.slice A2 l2.length c2] ?_;(with_reducible refine (impl_Want_21.calls _ _ l2 t851 _ ?_ ?_ A19.out).mono ?_);exact cB HR2;exact HC2.out;rintro e w23 ⟨v852,rfl,ho0,hb⟩;refine ⟨_,rfl,?_⟩;replace HO845:=rb HO845 hb;replace HO849:=rb HO849 hb;have HO853:=rl w ho0;replace BK839:=kb BK839 hb;replace BK840:=kb BK840 hb;replace HB:=bs HB hb;(try clear hb);(try clear ho0);obtain ⟨Ao24,co24,eo24⟩:=Kd.R_slice HO845.out;subst eo24;obtain ⟨_,_,_,_,_,_,_,_⟩:=blkc4 BK840;obtain ⟨Ao26,co26,eo26⟩:=Kd.R_slice HO849.out;subst eo26));refine bodyPost_ret (results_ct rfl _ _ gb840 27 #[.slice Ao24 t843.length co24,.int .i64 t846,.slice Ao26 t847.length co26,.int .i64 t850] (0,0) _ rfl (kp BK840) Tryz.underlying27 rfl (by kernel_rfl)) rfl ?_;exact ⟨_,_,_,rA,rf HO845 BK840,rf HO849 BK840,Kd.R_mono (rf HO853 BK840) (fun _ hk=>trivial),bG⟩
   replace c17:=Bool.eq_false_iff.mpr c17;subst c17;rw [if_neg Bool.false_ne_true] at H;obtain ⟨⟨t854,t857,t858,t861⟩,A27,H⟩:=bindE H;try dsimp only at H
   obtain ⟨t863,A28,H⟩:=bindE H;try dsimp only at H
   simp only [Option.some.injEq,Prod.mk.injEq] at H;obtain ⟨rfl,rfl,rfl,rfl,rfl⟩:=H;have hnb29:=NB839_840.out;have hnc29:=NB840_839.out;obtain ⟨_,_,_,_,_,_,_,_⟩:=blkc4 BK839;try go_wp2_with (first|((with_reducible refine gc 22 ?_);refine gL (some 26) Tryz.func22 #[.slice A0 l0.length c0,.agg #[.slice A1_0 l1_0.length c1_0,.int .i64 a1_1,.slice A1_2 l1_2.length c1_2,.int .i64 a1_3],.slice A2 l2.length c2] ?_;(with_reducible refine (impl_asked.calls kj3 _ _ l0 _ _ l1_0 a1_1 _ _ l1_2 a1_3 _ _ l2 t854 t857 t858 t861 _ ?_ ?_ ?_ ?_ ?_ ?_ ?_ ?_ A27.out).mono ?_);exact cB HR0;exact HC0.out;exact cB HR1_0;exact HC1_0.out;exact cB HR1_2;exact HC1_2.out;exact cB HR2;exact HC2.out;rintro e w31 ⟨v855,v859,rfl,ho0,ho1,hb⟩;refine ⟨_,rfl,?_⟩;have HO856:=rl w ho0;have HO860:=rl w ho1;replace BK839:=kb BK839 hb;replace BK840:=kb BK840 hb;replace HB:=bs HB hb;(try clear hb);(try clear ho0);(try clear ho1))|((with_reducible refine gd 8 ?_);refine bF w 8 #[.slice none 0 0,.int .i64 0,.slice none 0 0,.int .i64 0] 27 ?_;rintro gb862 w32 BK862 GW862 GE862 hb hg;replace HO856:=rb HO856 hb;replace HO860:=rb HO860 hb;replace HB:=bs HB hb;have NB839_862:=nl BK839 hg;have NB862_839:=nr BK839 hg;replace BK839:=kb BK839 hb;have NB840_862:=nl BK840 hg;have NB862_840:=nr BK840 hg;replace BK840:=kb BK840 hb;clear hb hg;obtain ⟨Ao33,co33,eo33⟩:=Kd.R_slice HO856.out;subst eo33;have hnb34:=NB862_839.out;have hnc34:=NB839_862.out;have hnb35:=NB862_840.out;have hnc35:=NB840_862.out;obtain ⟨_,_,_,_,_,_,_,_⟩:=blkc4 BK862;obtain ⟨Ao37,co37,eo37⟩:=Kd.R_slice HO860.out;subst eo37))
   have n0_:Aside0 (Kd.R (Kd.int .i64) 3 ((((w32.setCell ⟨gb862,0,none⟩ (.slice Ao33 t854.length co33)).setCell ⟨gb862,1,none⟩ (.int .i64 t857)).setCell ⟨gb862,2,none⟩ (.slice Ao37 t858.length co37)).setCell ⟨gb862,3,none⟩ (.int .i64 t861)) w.heap.size (n1 (.slice Ao37 t858.length co37)) (.slice Ao33 t854.length co33) t854):=⟨rf HO856 BK862⟩;have n1_:Aside0 (Kd.R (Kd.int .i64) 3 ((((w32.setCell ⟨gb862,0,none⟩ (.slice Ao33 t854.length co33)).setCell ⟨gb862,1,none⟩ (.int .i64 t857)).setCell ⟨gb862,2,none⟩ (.slice Ao37 t858.length co37)).setCell ⟨gb862,3,none⟩ (.int .i64 t861)) w.heap.size (n1 (.slice Ao33 t854.length co33)) (.slice Ao37 t858.length co37) t858):=⟨rf HO860 BK862⟩;have n2_:Aside0 (((((w32.setCell ⟨gb862,0,none⟩ (.slice Ao33 t854.length co33)).setCell ⟨gb862,1,none⟩ (.int .i64 t857)).setCell ⟨gb862,2,none⟩ (.slice Ao37 t858.length co37)).setCell ⟨gb862,3,none⟩ (.int .i64 t861)).heap[gb839]?=some (.cells #[.slice A1_0 l1_0.length c1_0,.int .i64 a1_1,.slice A1_2 l1_2.length c1_2,.int .i64 a1_3] 27 (0,0))):=⟨kf BK839 NB839_862⟩;have n3_:Aside0 (((((w32.setCell ⟨gb862,0,none⟩ (.slice Ao33 t854.length co33)).setCell ⟨gb862,1,none⟩ (.int .i64 t857)).setCell ⟨gb862,2,none⟩ (.slice Ao37 t858.length co37)).setCell ⟨gb862,3,none⟩ (.int .i64 t861)).heap[gb840]?=some (.cells #[.slice none 0 0,.int .i64 0,.slice none 0 0,.int .i64 0] 27 (0,0))):=⟨kf BK840 NB840_862⟩;have n4_:Aside0 (((((w32.setCell ⟨gb862,0,none⟩ (.slice Ao33 t854.length co33)).setCell ⟨gb862,1,none⟩ (.int .i64 t857)).setCell ⟨gb862,2,none⟩ (.slice Ao37 t858.length co37)).setCell ⟨gb862,3,none⟩ (.int .i64 t861)).heap[gb862]?=some (.cells #[.slice Ao33 t854.length co33,.int .i64 t857,.slice Ao37 t858.length co37,.int .i64 t861] 27 (0,0))):=⟨kp BK862⟩;have n5_:Aside0 (Below w.heap.size w ((((w32.setCell ⟨gb862,0,none⟩ (.slice Ao33 t854.length co33)).setCell ⟨gb862,1,none⟩ (.int .i64 t857)).setCell ⟨gb862,2,none⟩ (.slice Ao37 t858.length co37)).setCell ⟨gb862,3,none⟩ (.int .i64 t861))):=⟨bG⟩;(try clear HO856);(try clear HO860);(try clear BK839);(try clear BK840);(try clear BK862);(try clear HB);generalize ((((w32.setCell ⟨gb862,0,none⟩ (.slice Ao33 t854.length co33)).setCell ⟨gb862,1,none⟩ (.int .i64 t857)).setCell ⟨gb862,2,none⟩ (.slice Ao37 t858.length co37)).setCell ⟨gb862,3,none⟩ (.int .i64 t861))=w38 at n0_ n1_ n2_ n3_ n4_ n5_ ⊢;have HO856:=n0_;have HO860:=n1_;have BK839:=n2_;have BK840:=n3_;have BK862:=n4_;have HB:=n5_;clear n0_ n1_ n2_ n3_ n4_ n5_;replace HO856:=dr HO856;replace HO860:=dr HO860;replace BK839:=dk BK839;replace BK840:=dk BK840;replace BK862:=dk BK862;have HBo:=HB;replace HB:=db HB;refine start_ (n:=7) (S:=fun w'=>w'.cell? ⟨gb862,0,none⟩=some (.slice Ao33 t854.length co33)∧w'.cell? ⟨gb862,1,none⟩=some (.int .i64 t857)∧w'.cell? ⟨gb862,2,none⟩=some (.slice Ao37 t858.length co37)∧w'.cell? ⟨gb862,3,none⟩=some (.int .i64 t861)) (ds:=[]) (mb 7 0) (by kernel_rfl) rfl rfl (cn4 BK862) (fun hHeld=>?_);generalize w38.drew=w39 at HO856 HO860 BK839 BK840 BK862 HB hHeld ⊢;refine pure_ (i:=1) (N:=some 28) (v:=?_) (a':=?_) (mb 7 2) rfl rfl (by kernel_rfl) (fun _ _ _ h=>h) (Or.inl ⟨by rfl,?_⟩) ?_ ?_;rotate_left
   ·intro w'
    go_simp
    (with_reducible rfl)
   rotate_left
   ·simp only [Act.put,List.setIfInBounds_toArray,List.set_cons_zero,List.set_cons_succ,i64_w,i32_w]
    rfl
   refine pure_ (i:=3) (N:=some 30) (v:=?_) (a':=?_) (mb 7 10) rfl rfl (by kernel_rfl) (fun _ _ _ h=>h) (Or.inl ⟨by rfl,?_⟩) ?_ ?_;rotate_left
   ·intro w'
    go_simp
    (with_reducible rfl)
   rotate_left
   ·simp only [Act.put,List.setIfInBounds_toArray,List.set_cons_zero,List.set_cons_succ,i64_w,i32_w]
    rfl
   refine take_ (i:=0) (N:=some 27) (v:=?_) (a':=?_) (mb 7 11) rfl rfl (by kernel_rfl) (fun _ _ _ h=>h) (Or.inl ⟨by rfl,?_⟩) hHeld ?_ ?_;rotate_left
   ·rintro w' ⟨s0,s1,s2,s3⟩
    go_simp
    (with_reducible rfl)
   rotate_left
   ·simp only [Act.put,List.setIfInBounds_toArray,List.set_cons_zero,List.set_cons_succ,i64_w,i32_w]
    rfl
   refine take_ (i:=2) (N:=some 29) (v:=?_) (a':=?_) (mb 7 15) rfl rfl (by kernel_rfl) (fun _ _ _ h=>h) (Or.inl ⟨by rfl,?_⟩) hHeld ?_ ?_;rotate_left
   ·rintro w' ⟨s0,s1,s2,s3⟩
    go_simp
    (with_reducible rfl)
   rotate_left
   ·simp only [Act.put,List.setIfInBounds_toArray,List.set_cons_zero,List.set_cons_succ,i64_w,i32_w]
    rfl
   refine one_ (i:=4) (N:=some 31) (mb 7 31) rfl rfl (by kernel_rfl) (by decide) (fun K hK=>?_);refine gA Tryz.func23 #[.slice A0 l0.length c0,.agg #[.slice Ao33 t854.length co33,.int .i64 t857,.slice Ao37 t858.length co37,.int .i64 t861],.slice A2 l2.length c2] ?_;(with_reducible refine (impl_waited.calls kj3 _ _ l0 _ _ t854 t857 _ _ t858 t861 _ _ l2 t863 _ ?_ ?_ ?_ ?_ ?_ ?_ ?_ ?_ A28.out).mono ?_);exact cB HR0;exact HC0.out;exact cO ⟨(Kd.R_reads' HO856.out).2.2⟩;exact (Kd.R_reads' HO856.out).2.1;exact cO ⟨(Kd.R_reads' HO860.out).2.2⟩;exact (Kd.R_reads' HO860.out).2.1;exact cB HR2;exact HC2.out;rintro e w40 ⟨v864,rfl,ho0,hb⟩;refine ⟨_,rfl,?_⟩;replace HO856:=rb HO856 hb;replace HO860:=rb HO860 hb;have HO865:=rl w ho0;replace BK839:=kb BK839 hb;replace BK840:=kb BK840 hb;replace BK862:=kb BK862 hb;replace HB:=bs HB hb;(try clear hb);(try clear ho0);refine hK.out _ _ (cn4 BK862) (fun hHeld=>?_);clear hK K;refine nB ?_;refine one_ (i:=5) (N:=none) (mb 7 63) rfl rfl (by kernel_rfl) (by decide) (fun K hK=>?_);have hs41:w40.cell? ⟨gb840,0,none⟩=some (.slice none 0 0):=bC BK840 0;have hfs41:=blk_frozen BK840.out 0;have hns41_0:=NB839_840.out;have hns41_2:=NB862_840.out;have hms41_0:=NB840_839.out;have hms41_2:=NB840_862.out;have hs42:w40.cell? ⟨gb840,1,none⟩=some (.int .i64 0):=bC BK840 1;have hfs42:=blk_frozen BK840.out 1;have hns42_0:=NB839_840.out;have hns42_2:=NB862_840.out;have hms42_0:=NB840_839.out;have hms42_2:=NB840_862.out;have hs43:w40.cell? ⟨gb840,2,none⟩=some (.slice none 0 0):=bC BK840 2;have hfs43:=blk_frozen BK840.out 2;have hns43_0:=NB839_840.out;have hns43_2:=NB862_840.out;have hms43_0:=NB840_839.out;have hms43_2:=NB840_862.out;have hs44:w40.cell? ⟨gb840,3,none⟩=some (.int .i64 0):=bC BK840 3;have hfs44:=blk_frozen BK840.out 3;have hns44_0:=NB839_840.out;have hns44_2:=NB862_840.out;have hms44_0:=NB840_839.out;have hms44_2:=NB840_862.out;refine skip_ (w1:=?_) (by rfl) rfl ?_ ?_;rotate_left
   ·go_simp
    rfl
   refine hK.out _ _ ⟨((cell_far (p:=⟨gb840,_,none⟩) NB862_840.out _).trans (((cell_far (p:=⟨gb840,_,none⟩) NB862_840.out _).trans (((cell_far (p:=⟨gb840,_,none⟩) NB862_840.out _).trans (((cell_far (p:=⟨gb840,_,none⟩) NB862_840.out _).trans (hHeld.1)))))))),((cell_far (p:=⟨gb840,_,none⟩) NB862_840.out _).trans (((cell_far (p:=⟨gb840,_,none⟩) NB862_840.out _).trans (((cell_far (p:=⟨gb840,_,none⟩) NB862_840.out _).trans (((cell_far (p:=⟨gb840,_,none⟩) NB862_840.out _).trans (hHeld.2.1)))))))),((cell_far (p:=⟨gb840,_,none⟩) NB862_840.out _).trans (((cell_far (p:=⟨gb840,_,none⟩) NB862_840.out _).trans (((cell_far (p:=⟨gb840,_,none⟩) NB862_840.out _).trans (((cell_far (p:=⟨gb840,_,none⟩) NB862_840.out _).trans (hHeld.2.2.1)))))))),((cell_far (p:=⟨gb840,_,none⟩) NB862_840.out _).trans (((cell_far (p:=⟨gb840,_,none⟩) NB862_840.out _).trans (((cell_far (p:=⟨gb840,_,none⟩) NB862_840.out _).trans (((cell_far (p:=⟨gb840,_,none⟩) NB862_840.out _).trans (hHeld.2.2.2))))))))⟩ (fun hHeld=>?_);clear hK K;refine pure_ (i:=6) (N:=some 7) (v:=?_) (a':=?_) (mb 7 127) rfl rfl (by kernel_rfl) (fun _ _ _ h=>h) (Or.inl ⟨by rfl,?_⟩) ?_ ?_;rotate_left
   ·intro w'
    go_simp
    (with_reducible rfl)
   rotate_left
   ·simp only [Act.put,List.setIfInBounds_toArray,List.set_cons_zero,List.set_cons_succ,i64_w,i32_w]
    rfl
   refine done_ (by kernel_rfl) ?_;try go_wp2
   refine bodyPost_ret (results_ct rfl _ _ gb840 27 #[.slice Ao33 t854.length co33,.int .i64 t857,.slice Ao37 t858.length co37,.int .i64 t861] (0,0) _ rfl (kp BK840) Tryz.underlying27 rfl (by kernel_rfl)) rfl ?_;exact ⟨_,_,_,rA,rf HO856 BK840,rf HO860 BK840,Kd.R_mono (rf HO865 BK840) (fun _ hk=>trivial),bG⟩

/-! ### laws_greens: function 9 -/
mutual
def laws_greens.l0:Nat→List (S58)→List Int→List Int→Int→Option (List Int)
 | 0,_,_,_,_=>none
 | k + 1,x0,x1,x5,x6=>if x6 < (x0.length:Int) then (laws_greens.j1 k x0 x1 x5 x6 (decide (x6 < (x1.length:Int)))) else (laws_greens.j1 k x0 x1 x5 x6 false)
def laws_greens.j1:Nat→List (S58)→List Int→List Int→Int→Bool→Option (List Int)
 | 0,_,_,_,_,_=>none
 | k + 1,x0,x1,x5,x6,x17=>if x17=true then (if 0≤x6 then (if x6 < (x1.length:Int) then (if (rd x1 x6)=1 then (if x6 < (x0.length:Int) then (if x5.length < 17592186044416 then (laws_greens.l0 k x0 x1 (x5 ++ [(rd_T58 x0 x6).f0]) (wrap64 (x6 + 1))) else (none)) else (none)) else (laws_greens.l0 k x0 x1 x5 (wrap64 (x6 + 1)))) else (none)) else (none)) else (some x5)
end
def laws_greens.f (k:Nat) (l0:List (S58)) (l1:List Int):Option (List Int):=laws_greens.l0 k l0 l1 (([]:List Int)) 0
theorem laws_greens.mono_l:∀ k,(∀ y0 y1 y2 y3,LeO (laws_greens.l0 k y0 y1 y2 y3) (laws_greens.l0 (k + 1) y0 y1 y2 y3))∧(∀ y0 y1 y2 y3 y4,LeO (laws_greens.j1 k y0 y1 y2 y3 y4) (laws_greens.j1 (k + 1) y0 y1 y2 y3 y4))
 | 0=>⟨fun _ _ _ _ r h=>by simp [laws_greens.l0] at h,fun _ _ _ _ _ r h=>by simp [laws_greens.j1] at h⟩
 | k + 1=>by
  obtain ⟨ih0,ih1⟩:=laws_greens.mono_l k;refine ⟨?_,?_⟩
  ·intro y0 y1 y2 y3;unfold laws_greens.l0;exact mz2 ih0 ih1
  ·intro y0 y1 y2 y3 y4;unfold laws_greens.j1;exact mz2 ih0 ih1
theorem laws_greens.mono:∀ a0 a1 k,LeO (laws_greens.f k a0 a1) (laws_greens.f (k + 1) a0 a1):=by
 intro a0 a1 k;obtain ⟨ih0,ih1⟩:=laws_greens.mono_l k;unfold laws_greens.f;exact mz2 ih0 ih1
set_option maxHeartbeats 8000000 in
set_option maxRecDepth 100000 in
theorem laws_greens.calls (k:Nat) (A0:Option Addr) (c0:Nat) (l0:List (S58)) (A1:Option Addr) (c1:Nat) (l1:List Int) (r:List Int) (w:World) (hr0:Kd.C k58 w A0 l0.length l0) (hc0:l0.length≤c0) (hr1:Kd.C (Kd.int .i64) w A1 l1.length l1) (hc1:l1.length≤c1) (h:laws_greens.f k l0 l1=some r) :
  Calls Tryz.prog 9 #[.slice A0 l0.length c0,.slice A1 l1.length c1] w fun e w'=>∃ v0_:Value,e=.returned (v0_)∧Kd.R (Kd.int .i64) 3 w' w.heap.size (fun _=>True) v0_ r∧Below w.heap.size w w':=by
 have HR0:=am hr0;have HC0:=am hc0;clear hr0 hc0;have HR1:=am hr1;have HC1:=am hc1;clear hr1 hc1;have HB:=am (Below.refl w.heap.size w);unfold laws_greens.f at h;have H:=h;clear h;obtain ⟨y866,hy866⟩:∃ y_:List Int,y_=(([]:List Int)):=⟨_,rfl⟩;replace H:(laws_greens.l0 k l0 l1 y866 0)=some r:=rH H hy866;have Ny866:=am hy866;clear hy866;have H':=am H;clear H;go_enter Tryz.func9,Tryz.ntmps9;go_wp2_with (first|((with_reducible refine gd 7 ?_);(try (refine gate_guard (by rfl) ?_;dsimp only));refine Kd.R_lit (Kd.int .i64) _ 3 ?hg (N:=7) ?hd (xs:=([]:List Int)) (inner:=[]) (ok:=fun _=>True) (okp:=fun _=>True) ?hr ?hp (fun _ hk=>hk) trivial (Below.refl _ _) (Nat.le_refl _) (by simp) ?_;(case hd=>rfl);(case hg=>rfl);(case hr=>first|(go_simp;done)|(go_simp;rfl));(case hp=>exact (Reps.none _ _));intro v867 w3 ho4 hb hg_ hnew_;clear hg_ hnew_;(first|rw [← Ny866.out] at ho4|(simp only [Int.reduceToNat] at ho4;rw [← Ny866.out] at ho4));have HO868:=rl w ho4;replace HB:=bs HB hb;clear hb ho4));go_loopg [5,6] k (fun kq v5 v6 w'=>∃ (x5_1:List Int) (x6_1:Int),v6=.int .i64 x6_1∧Aside0 (laws_greens.l0 kq l0 l1 x5_1 x6_1=some r)∧Aside0 (kq≤k)∧Aside0 (Kd.R (Kd.int .i64) 3 w' w.heap.size (fun _=>True) v5 x5_1)∧Aside0 (Below w.heap.size w w'))
 case atStart=>exact ⟨(y866),(0),rS,H',⟨Nat.le_refl _⟩,⟨rK HO868⟩,⟨bA⟩⟩
 case round =>
  clear H';obtain ⟨x5_1,x6_1,rfl,HA,HK1,HO_5,HB⟩:=hrel
  cases gk with
  | zero=>exact absurd HA.out (by simp [laws_greens.l0])
  | succ k1 =>
   have H:=HA.out;clear HA;simp only [laws_greens.l0] at H;have HC5:=am H;clear H;go_upto_region 3 with (fail);go_cut [17] (fun v17 wc=>∃ (kq:Nat) (x17_4:Bool),v17=.bool x17_4∧Aside0 (laws_greens.j1 kq l0 l1 x5_1 x6_1 x17_4=some r)∧Aside0 (kq≤k1)∧Aside0 (Kd.R (Kd.int .i64) 3 wc w.heap.size (fun _=>True) u5 x5_1)∧Aside0 (Below w.heap.size w wc))
   case first =>
    have H:=HC5.out;clear HC5;by_cases c6:x6_1 < (l0.length:Int)
    ·rw [if_pos c6] at H;have c6b0:=dt c6;clear c6;(first|rw [c6b0]|(simp only [i64_w,i32_w];rw [c6b0])|skip);have H':=am H;clear H;go_wp2
     go_meet
     case rel=>exact ⟨_,(decide (x6_1 < (l1.length:Int))),rS,H',⟨by have:=HK1.out;first|omega|exact Nat.le_refl _⟩,⟨rK HO_5⟩,⟨bA⟩⟩
    rw [if_neg c6] at H;have c6b0:=df c6;clear c6;(first|rw [c6b0]|(simp only [i64_w,i32_w];rw [c6b0])|skip);have H':=am H;clear H;go_wp2
    go_meet
    case rel=>exact ⟨_,(false),rS,H',⟨by have:=HK1.out;first|omega|exact Nat.le_refl _⟩,⟨rK HO_5⟩,⟨bA⟩⟩
   case rest =>
    clear HC5;obtain ⟨kq,x17_4,rfl,HA,HJ4,HO_5,HB⟩:=hcut
    cases kq with
    | zero=>exact absurd HA.out (by simp [laws_greens.j1])
    | succ kj4 =>
     have H:=HA.out;clear HA;simp only [laws_greens.j1] at H;by_cases c7:x17_4=true
     ·subst c7;rw [if_pos rfl] at H;have c8b0:=ifC H;replace H:=ifT H;have c9b0:=ifC H;replace H:=ifT H;by_cases c10:(rd l1 x6_1)=1
      ·rw [if_pos c10] at H;obtain ⟨c10b0,c10b1⟩:=eI c10;clear c10;have c11b0:=ifC H;replace H:=ifT H;have c12:x5_1.length < 17592186044416:=ifN H;replace H:=ifT H;have LMc12:=am c12;clear c12;obtain ⟨y871,hy871⟩:∃ y_:List Int,y_=(x5_1 ++ [(rd_T58 l0 x6_1).f0]):=⟨_,rfl⟩;replace H:=rF H hy871;have Ny871:=am hy871;clear hy871;have H':=am H;clear H;obtain ⟨p869,q869⟩:=pq x6_1 l1;obtain ⟨ad869,e869,hx869_0⟩:=Kd.at_int (Kd.C_below HR1.out HB.out) x6_1 p869 q869;cases e869;obtain ⟨p869,q869⟩:=eT p869 q869;obtain ⟨p870,q870⟩:=pq x6_1 l0;obtain ⟨ad870,e870,hx870_0,hx870_1,hx870_2,hx870_3⟩:=at_T58 (Kd.C_below HR0.out HB.out) x6_1 p870 q870;cases e870;obtain ⟨p870,q870⟩:=eT p870 q870;go_wp2_with (first|((with_reducible refine gate_builtin (b:=.append) (xs:=#[.tmp 25,.tmp 31]) rfl ?_);(try (refine gate_guard (by rfl) ?_;dsimp only));at_builtin;refine Kd.R_append (Kd.int .i64) (w0:=w) w.heap.size rfl (.tmp 25) (.tmp 31) 25 3 (.int .i64 0) 8 rfl Tryz.underlying25 info3 rfl (by decide) (by omega) u5 x5_1 ((rd_T58 l0 x6_1).f0) [.int .i64 ((rd_T58 l0 x6_1).f0)] (fun _=>True) (fun _=>False) rfl rfl ?aP (fun _ hk=>hk.elim) ?aF ?aO ?aB ?aS ?aL ?_;(case aP=>exact rfl);(case aB=>exact bA);(case aF=>exact (fun _ _=>trivial));(case aO=>exact (rK HO_5));(case aS=>exact (below_size bA));(case aL=>have:=LMc12.out;omega);intro v872 w13 ho hb hg hat;rw [← Ny871.out] at ho;have n0_:=am (hb);have n1_:=am (ho);clear HB;clear HO_5;have HB:=n0_;have HO873:=n1_;clear n0_ n1_;clear ho hb hg hat));go_roundg kj4
       case measure=>have:=HK1.out;have:=HJ4.out;omega
       case rel=>exact ⟨(y871),(wrap64 (x6_1 + 1)),rS,H',⟨by have:=HK1.out;have:=HJ4.out;omega⟩,⟨rK HO873⟩,⟨bA⟩⟩
      rw [if_neg c10] at H;obtain ⟨c10b0,c10b1⟩:=nI c10;have H':=am H;clear H;obtain ⟨p869,q869⟩:=pq x6_1 l1;obtain ⟨ad869,e869,hx869_0⟩:=Kd.at_int (Kd.C_below HR1.out HB.out) x6_1 p869 q869;cases e869;obtain ⟨p869,q869⟩:=eT p869 q869;go_wp2;go_roundg kj4
      case measure=>have:=HK1.out;have:=HJ4.out;omega
      case rel=>exact ⟨(x5_1),(wrap64 (x6_1 + 1)),rS,H',⟨by have:=HK1.out;have:=HJ4.out;omega⟩,⟨rK HO_5⟩,⟨bA⟩⟩
     replace c7:=Bool.eq_false_iff.mpr c7;subst c7;rw [if_neg Bool.false_ne_true] at H;obtain rfl:=oj H;go_wp2;go_ret;exact ⟨_,rA,rK HO_5,bA⟩

/-! ### laws_contains: function 11 -/
def laws_contains.l0:Nat→List Int→Int→Int→Option (Bool)
 | 0,_,_,_=>none
 | k + 1,x0,x1,x5=>if x5 < (x0.length:Int) then (if 0≤x5 then (if (rd x0 x5)=x1 then (some true) else (laws_contains.l0 k x0 x1 (wrap64 (x5 + 1)))) else (none)) else (some false)
def laws_contains.f (k:Nat) (l0:List Int) (a1:Int):Option (Bool):=laws_contains.l0 k l0 a1 0
theorem laws_contains.mono_l:∀ k,(∀ y0 y1 y2,LeO (laws_contains.l0 k y0 y1 y2) (laws_contains.l0 (k + 1) y0 y1 y2))
 | 0=>fun _ _ _ r h=>by simp [laws_contains.l0] at h
 | k + 1=>by
  have ih0:=laws_contains.mono_l k
  ·intro y0 y1 y2;unfold laws_contains.l0;exact mz1 ih0
theorem laws_contains.mono:∀ a0 a1 k,LeO (laws_contains.f k a0 a1) (laws_contains.f (k + 1) a0 a1):=by
 intro a0 a1 k;have ih0:=laws_contains.mono_l k;unfold laws_contains.f;exact mz1 ih0
set_option maxHeartbeats 8000000 in
set_option maxRecDepth 100000 in
theorem laws_contains.calls (k:Nat) (A0:Option Addr) (c0:Nat) (l0:List Int) (a1:Int) (r:Bool) (w:World) (hr0:Kd.C (Kd.int .i64) w A0 l0.length l0) (hc0:l0.length≤c0) (h:laws_contains.f k l0 a1=some r) :
  Calls Tryz.prog 11 #[.slice A0 l0.length c0,.int .i64 a1] w fun e w'=>e=.returned (.bool r)∧Drawn0 w w':=by
 have HR0:=am hr0;have HC0:=am hc0;clear hr0 hc0;unfold laws_contains.f at h;have H:=h;clear h;have H':=am H;clear H;go_enter Tryz.func11,Tryz.ntmps11;go_wp2;go_loopg [5] k (fun kq v5 w'=>∃ (x5_1:Int),v5=.int .i64 x5_1∧Aside0 (laws_contains.l0 kq l0 a1 x5_1=some r)∧Aside0 (kq≤k)∧Drawn0 w w')
 case atStart=>exact ⟨(0),rS,H',⟨Nat.le_refl _⟩,by repeat (first|exact Drawn0.refl _|apply Drawn0.step)⟩
 case round =>
  clear H';obtain ⟨x5_1,rfl,HA,HK1,⟨m1,rfl⟩⟩:=hrel
  cases gk with
  | zero=>exact absurd HA.out (by simp [laws_contains.l0])
  | succ k1 =>
   have H:=HA.out;clear HA;simp only [laws_contains.l0] at H;by_cases c3:x5_1 < (l0.length:Int)
   ·rw [if_pos c3] at H;have c3b0:=dt c3;clear c3;have c4b0:=ifC H;replace H:=ifT H;by_cases c5:(rd l0 x5_1)=a1
    ·rw [if_pos c5] at H;obtain ⟨c5b0,c5b1⟩:=eI c5;clear c5;obtain rfl:=oj H;obtain ⟨p874,q874⟩:=pq x5_1 l0;obtain ⟨ad874,e874,hx874_0⟩:=Kd.at_int HR0.out x5_1 p874 q874;cases e874;obtain ⟨p874,q874⟩:=eT p874 q874;go_wp2;go_ret;exact ⟨rS,dD⟩
    rw [if_neg c5] at H;obtain ⟨c5b0,c5b1⟩:=nI c5;have H':=am H;clear H;obtain ⟨p874,q874⟩:=pq x5_1 l0;obtain ⟨ad874,e874,hx874_0⟩:=Kd.at_int HR0.out x5_1 p874 q874;cases e874;obtain ⟨p874,q874⟩:=eT p874 q874;go_wp2;go_roundg k1
    case measure=>have:=HK1.out;omega
    case rel=>exact ⟨(wrap64 (x5_1 + 1)),rS,H',⟨by have:=HK1.out;omega⟩,by repeat (first|exact Drawn0.refl _|apply Drawn0.step)⟩
   rw [if_neg c3] at H;have c3b0:=df c3;clear c3;obtain rfl:=oj H;go_wp2;go_ret;exact ⟨rS,dD⟩

/-! ### impl_EqualControls: function 16 -/
def impl_EqualControls.f (k:Nat) (l0_0:List Int) (a0_1:Int) (l0_2:List Int) (a0_3:Int) (l1_0:List Int) (a1_1:Int) (l1_2:List Int) (a1_3:Int):Option (Bool):=if a0_1=a1_1 then (if a0_3=a1_3 then ((slices_Equal_int_int.f k l0_0 l1_0).bind fun t877=>(if t877=true then ((slices_Equal_int_int.f k l0_2 l1_2).bind fun t878=>(some t878)) else (some false))) else (some false)) else (some false)
theorem impl_EqualControls.mono:∀ a0 a1 a2 a3 a4 a5 a6 a7 k,LeO (impl_EqualControls.f k a0 a1 a2 a3 a4 a5 a6 a7) (impl_EqualControls.f (k + 1) a0 a1 a2 a3 a4 a5 a6 a7):=by
 intro a0 a1 a2 a3 a4 a5 a6 a7 k;unfold impl_EqualControls.f;exact mz1 slices_Equal_int_int.mono
set_option maxHeartbeats 8000000 in
set_option maxRecDepth 100000 in
theorem impl_EqualControls.calls (k:Nat) (A0_0:Option Addr) (c0_0:Nat) (l0_0:List Int) (a0_1:Int) (A0_2:Option Addr) (c0_2:Nat) (l0_2:List Int) (a0_3:Int) (A1_0:Option Addr) (c1_0:Nat) (l1_0:List Int) (a1_1:Int) (A1_2:Option Addr) (c1_2:Nat) (l1_2:List Int) (a1_3:Int) (r:Bool) (w:World) (hr0_0:Kd.C (Kd.int .i64) w A0_0 l0_0.length l0_0) (hc0_0:l0_0.length≤c0_0) (hr0_2:Kd.C (Kd.int .i64) w A0_2 l0_2.length l0_2) (hc0_2:l0_2.length≤c0_2) (hr1_0:Kd.C (Kd.int .i64) w A1_0 l1_0.length l1_0) (hc1_0:l1_0.length≤c1_0) (hr1_2:Kd.C (Kd.int .i64) w A1_2 l1_2.length l1_2) (hc1_2:l1_2.length≤c1_2) (h:impl_EqualControls.f k l0_0 a0_1 l0_2 a0_3 l1_0 a1_1 l1_2 a1_3=some r) :
  Calls Tryz.prog 16 #[.agg #[.slice A0_0 l0_0.length c0_0,.int .i64 a0_1,.slice A0_2 l0_2.length c0_2,.int .i64 a0_3],.agg #[.slice A1_0 l1_0.length c1_0,.int .i64 a1_1,.slice A1_2 l1_2.length c1_2,.int .i64 a1_3]] w fun e w'=>e=.returned (.bool r)∧Below w.heap.size w w':=by
 have hu27:=Tryz.underlying27;have HR0_0:=am hr0_0;have HC0_0:=am hc0_0;clear hr0_0 hc0_0;have HR0_2:=am hr0_2;have HC0_2:=am hc0_2;clear hr0_2 hc0_2;have HR1_0:=am hr1_0;have HC1_0:=am hc1_0;clear hr1_0 hc1_0;have HR1_2:=am hr1_2;have HC1_2:=am hc1_2;clear hr1_2 hc1_2;have HB:=am (Below.refl w.heap.size w);unfold impl_EqualControls.f at h;have H:=h;clear h;by_cases c3:a0_1=a1_1
 ·rw [if_pos c3] at H;obtain ⟨c3b0,c3b1⟩:=eI c3;clear c3;by_cases c4:a0_3=a1_3
  ·rw [if_pos c4] at H;obtain ⟨c4b0,c4b1⟩:=eI c4;clear c4;obtain ⟨t877,A5,H⟩:=bindE H;try dsimp only at H
   by_cases c6:t877=true
   ·subst c6;rw [if_pos rfl] at H;obtain ⟨t878,A7,H⟩:=bindE H;try dsimp only at H
    obtain rfl:=oj H;go_enter Tryz.func16,Tryz.ntmps16;go_wp2_with (first|((with_reducible refine gd 2 ?_);refine bF w 2 #[.slice A0_0 l0_0.length c0_0,.int .i64 a0_1,.slice A0_2 l0_2.length c0_2,.int .i64 a0_3] 27 ?_;rintro gb875 w8 BK875 GW875 GE875 hb hg;replace HB:=bs HB hb;clear hb hg)|((with_reducible refine gd 3 ?_);refine bF w 3 #[.slice A1_0 l1_0.length c1_0,.int .i64 a1_1,.slice A1_2 l1_2.length c1_2,.int .i64 a1_3] 27 ?_;rintro gb876 w9 BK876 GW876 GE876 hb hg;replace HB:=bs HB hb;have NB875_876:=nl BK875 hg;have NB876_875:=nr BK875 hg;replace BK875:=kb BK875 hb;clear hb hg;have hnb10:=NB875_876.out;have hnc10:=NB876_875.out;obtain ⟨_,_,_,_,_,_,_,_⟩:=blkc4 BK875;obtain ⟨_,_,_,_,_,_,_,_⟩:=blkc4 BK876)|(go_at_call 34;(with_reducible refine (slices_Equal_int_int.calls k _ _ l0_0 _ _ l1_0 true _ ?_ ?_ ?_ ?_ A5.out).mono ?_);exact cB HR0_0;exact HC0_0.out;exact cB HR1_0;exact HC1_0.out;rintro e w' ⟨rfl,⟨nd,rfl⟩⟩)|(go_at_call 34;(with_reducible refine (slices_Equal_int_int.calls k _ _ l0_2 _ _ l1_2 t878 _ ?_ ?_ ?_ ?_ A7.out).mono ?_);exact cG HR0_2;exact HC0_2.out;exact cG HR1_2;exact HC1_2.out;rintro e w' ⟨rfl,⟨nd,rfl⟩⟩));go_ret;exact ⟨rA,bG⟩
   replace c6:=Bool.eq_false_iff.mpr c6;subst c6;rw [if_neg Bool.false_ne_true] at H;obtain rfl:=oj H;go_enter Tryz.func16,Tryz.ntmps16;go_wp2_with (first|((with_reducible refine gd 2 ?_);refine bF w 2 #[.slice A0_0 l0_0.length c0_0,.int .i64 a0_1,.slice A0_2 l0_2.length c0_2,.int .i64 a0_3] 27 ?_;rintro gb875 w13 BK875 GW875 GE875 hb hg;replace HB:=bs HB hb;clear hb hg)|((with_reducible refine gd 3 ?_);refine bF w 3 #[.slice A1_0 l1_0.length c1_0,.int .i64 a1_1,.slice A1_2 l1_2.length c1_2,.int .i64 a1_3] 27 ?_;rintro gb876 w14 BK876 GW876 GE876 hb hg;replace HB:=bs HB hb;have NB875_876:=nl BK875 hg;have NB876_875:=nr BK875 hg;replace BK875:=kb BK875 hb;clear hb hg;have hnb15:=NB875_876.out;have hnc15:=NB876_875.out;obtain ⟨_,_,_,_,_,_,_,_⟩:=blkc4 BK875;obtain ⟨_,_,_,_,_,_,_,_⟩:=blkc4 BK876)|(go_at_call 34;(with_reducible refine (slices_Equal_int_int.calls k _ _ l0_0 _ _ l1_0 false _ ?_ ?_ ?_ ?_ A5.out).mono ?_);exact cB HR0_0;exact HC0_0.out;exact cB HR1_0;exact HC1_0.out;rintro e w' ⟨rfl,⟨nd,rfl⟩⟩));go_ret;exact ⟨rA,bG⟩
  rw [if_neg c4] at H;obtain ⟨c4b0,c4b1⟩:=nI c4;obtain rfl:=oj H;go_enter Tryz.func16,Tryz.ntmps16;go_wp2_with (first|((with_reducible refine gd 2 ?_);refine bF w 2 #[.slice A0_0 l0_0.length c0_0,.int .i64 a0_1,.slice A0_2 l0_2.length c0_2,.int .i64 a0_3] 27 ?_;rintro gb875 w18 BK875 GW875 GE875 hb hg;replace HB:=bs HB hb;clear hb hg)|((with_reducible refine gd 3 ?_);refine bF w 3 #[.slice A1_0 l1_0.length c1_0,.int .i64 a1_1,.slice A1_2 l1_2.length c1_2,.int .i64 a1_3] 27 ?_;rintro gb876 w19 BK876 GW876 GE876 hb hg;replace HB:=bs HB hb;have NB875_876:=nl BK875 hg;have NB876_875:=nr BK875 hg;replace BK875:=kb BK875 hb;clear hb hg;have hnb20:=NB875_876.out;have hnc20:=NB876_875.out;obtain ⟨_,_,_,_,_,_,_,_⟩:=blkc4 BK875;obtain ⟨_,_,_,_,_,_,_,_⟩:=blkc4 BK876));go_ret;exact ⟨rA,bG⟩
 rw [if_neg c3] at H;obtain ⟨c3b0,c3b1⟩:=nI c3;obtain rfl:=oj H;go_enter Tryz.func16,Tryz.ntmps16;go_wp2_with (first|((with_reducible refine gd 2 ?_);refine bF w 2 #[.slice A0_0 l0_0.length c0_0,.int .i64 a0_1,.slice A0_2 l0_2.length c0_2,.int .i64 a0_3] 27 ?_;rintro gb875 w23 BK875 GW875 GE875 hb hg;replace HB:=bs HB hb;clear hb hg)|((with_reducible refine gd 3 ?_);refine bF w 3 #[.slice A1_0 l1_0.length c1_0,.int .i64 a1_1,.slice A1_2 l1_2.length c1_2,.int .i64 a1_3] 27 ?_;rintro gb876 w24 BK876 GW876 GE876 hb hg;replace HB:=bs HB hb;have NB875_876:=nl BK875 hg;have NB876_875:=nr BK875 hg;replace BK875:=kb BK875 hb;clear hb hg;have hnb25:=NB875_876.out;have hnc25:=NB876_875.out;obtain ⟨_,_,_,_,_,_,_,_⟩:=blkc4 BK875;obtain ⟨_,_,_,_,_,_,_,_⟩:=blkc4 BK876));go_ret;exact ⟨rA,bG⟩

/-! ### spec_DrawAreWants: function 35 -/
def spec_DrawAreWants.f (k:Nat) (l0:List Int):Option ((List (S58)) × (List (S39))):=(spec_l1New.f k l0).bind fun bt879=>((spec_l15Any.f k bt879.1 bt879.2.1 bt879.2.2).bind fun bt883=>(some (bt883.1,bt883.2.2.2.2.2.1)))
theorem spec_DrawAreWants.mono:∀ a0 k,LeO (spec_DrawAreWants.f k a0) (spec_DrawAreWants.f (k + 1) a0):=by
 intro a0 k;unfold spec_DrawAreWants.f;exact mz2 spec_l15Any.mono spec_l1New.mono
set_option maxHeartbeats 8000000 in
set_option maxRecDepth 100000 in
theorem spec_DrawAreWants.calls (k:Nat) (A0:Option Addr) (c0:Nat) (l0:List Int) (r1:List (S58)) (r2:List (S39)) (w:World) (hr0:Kd.C (Kd.int .u8) w A0 l0.length l0) (hc0:l0.length≤c0) (h:spec_DrawAreWants.f k l0=some (r1,r2)) :
  Calls Tryz.prog 35 #[.slice A0 l0.length c0] w fun e w'=>∃ v0_ v1_:Value,e=.returned (.tuple #[v0_,v1_])∧Kd.R k58 58 w' w.heap.size (fun _=>True) v0_ r1∧Kd.R k39 39 w' w.heap.size (fun _=>True) v1_ r2∧Below w.heap.size w w':=by
 have hu27:=Tryz.underlying27;have HR0:=am hr0;have HC0:=am hc0;clear hr0 hc0;have HB:=am (Below.refl w.heap.size w);unfold spec_DrawAreWants.f at h;have H:=h;clear h;obtain ⟨⟨t879,t880,t881⟩,A2,H⟩:=bindE H;try dsimp only at H
 obtain ⟨⟨t883,t886,t889,t890,t893,t894,t897,t898⟩,A3,H⟩:=bindE H;try dsimp only at H
 simp only [Option.some.injEq,Prod.mk.injEq] at H;obtain ⟨rfl,rfl⟩:=H;go_enter Tryz.func35,Tryz.ntmps35;go_wp2_with (first|((with_reducible refine gc 36 ?_);refine gL (some 9) Tryz.func36 #[.slice A0 l0.length c0] ?_;(with_reducible refine (spec_l1New.calls k _ _ l0 t879 t880 t881 w _ ?_ ?_ ?_ A2.out).mono ?_);exact sB0 HB.out;exact HR0.out;exact HC0.out;rintro e w4 ⟨g882,rfl,hi,hb,hb2,-⟩;refine ⟨_,rfl,?_⟩;replace HB:=am (hb);have HI882:=am (hi);(try clear hb);(try clear hb2);(try clear hi))|((with_reducible refine gc 40 ?_);refine gL (some 12) Tryz.func40 #[.pointer (some ⟨g882,0,none⟩)] ?_;(with_reducible refine (spec_l15Any.calls k g882 t879 t880 t881 t883 t886 t889 t890 t893 t894 t897 t898 w _ ?_ ?_ A3.out).mono ?_);exact sI830 HI882.out;exact sB1 HB.out (IsS83.ge HI882.out);rintro e w5 ⟨v884,v887,v891,v895,rfl,ho0,ho1,ho2,ho3,hi,hb,hk⟩;refine ⟨_,rfl,?_⟩;have n0_:=am (Kd.R_lower ho0 (below_size (by exact sB1 HB.out (IsS83.ge HI882.out))));have n1_:=am (Kd.R_lower ho1 (below_size (by exact sB1 HB.out (IsS83.ge HI882.out))));have n2_:=am (Kd.R_lower ho2 (below_size (by exact sB1 HB.out (IsS83.ge HI882.out))));have n3_:=am (Kd.R_lower ho3 (below_size (by exact sB1 HB.out (IsS83.ge HI882.out))));have n4_:=am (hb);have n5_:=am (hi);clear HB;clear HI882;have HO885:=n0_;have HO888:=n1_;have HO892:=n2_;have HO896:=n3_;have HB:=n4_;have HI882:=n5_;clear n0_ n1_ n2_ n3_ n4_ n5_;(try clear hb);(try clear hk);(try clear hi);(try clear ho0);(try clear ho1);(try clear ho2);(try clear ho3))|((with_reducible refine gd 6 ?_);refine bE (N:=6) (cs:=#[.slice none 0 0,.int .i64 0,.slice none 0 0,.int .i64 0]) (t:=27) ?_;intro gb899 hg w6 hbox hb;have n0_:=rb HO885 hb;have n1_:=rb HO888 hb;have n2_:=rb HO892 hb;have n3_:=rb HO896 hb;have n4_:=am (IsS83.below (by exact sI830 HI882.out) hb);have n5_:=am (below_step (by exact sB1 HB.out (IsS83.ge HI882.out)) hb);have n6_:=am (hbox);have n7_:=am ((by rw [hg];exact (below_size (by exact sB1 HB.out (IsS83.ge HI882.out))):w.heap.size≤gb899));have n8_:=am ((by rw [hg];exact (below_size (by exact sB1 HB.out (IsS83.ge HI882.out))):w.heap.size≤gb899));have n9_:=am ((by rw [hg];exact Nat.ne_of_lt (IsS83.lt (show IsS83 w _ g882 t879 t897 t898 from by exact sI830 HI882.out)):g882≠gb899));have n10_:=am ((by rw [hg];exact Nat.ne_of_gt (IsS83.lt (show IsS83 w _ g882 t879 t897 t898 from by exact sI830 HI882.out)):gb899≠g882));clear HO885;clear HO888;clear HO892;clear HO896;clear HI882;clear HB;have HO885:=n0_;have HO888:=n1_;have HO892:=n2_;have HO896:=n3_;have HI882:=n4_;have HB:=n5_;have BK899:=n6_;have GW899:=n7_;have GE899:=n8_;have NB882_899:=n9_;have NB899_882:=n10_;clear n0_ n1_ n2_ n3_ n4_ n5_ n6_ n7_ n8_ n9_ n10_;clear hb hbox hg;obtain ⟨Ao7,co7,eo7⟩:=Kd.R_slice HO888.out;subst eo7;have hnb8:=NB899_882.out;have hnc8:=NB882_899.out;obtain ⟨_,_,_,_,_,_,_,_⟩:=blkc4 BK899;obtain ⟨Ao10,co10,eo10⟩:=Kd.R_slice HO892.out;subst eo10));go_ret2;exact ⟨_,_,rA,Kd.R_mono (rf HO885 BK899) (fun _ hk=>trivial),Kd.R_mono (rf HO896 BK899) (fun _ hk=>trivial),by exact sB2 HB.out (IsS83.ge HI882.out) GE899.out⟩

/-! ### spec_DrawAddWant: function 17 -/
def spec_DrawAddWant.f (k:Nat) (l0:List Int):Option ((List (S58)) × (List (S39)) × Int):=(spec_DrawAreWants.f k l0).bind fun bt900=>((spec_l1New.f k l0).bind fun bt906=>((spec_l1Below.f bt906.1 bt906.2.1 bt906.2.2 10).bind fun bt910=>(some (bt900.1,bt900.2,bt910.1))))
theorem spec_DrawAddWant.mono:∀ a0 k,LeO (spec_DrawAddWant.f k a0) (spec_DrawAddWant.f (k + 1) a0):=by
 intro a0 k;unfold spec_DrawAddWant.f;exact mz2 spec_DrawAreWants.mono spec_l1New.mono
set_option maxHeartbeats 8000000 in
set_option maxRecDepth 100000 in
theorem spec_DrawAddWant.calls (k:Nat) (A0:Option Addr) (c0:Nat) (l0:List Int) (r1:List (S58)) (r2:List (S39)) (r3:Int) (w:World) (hr0:Kd.C (Kd.int .u8) w A0 l0.length l0) (hc0:l0.length≤c0) (h:spec_DrawAddWant.f k l0=some (r1,r2,r3)) :
  Calls Tryz.prog 17 #[.slice A0 l0.length c0] w fun e w'=>∃ v0_ v1_:Value,e=.returned (.tuple #[v0_,v1_,.int .i64 r3])∧Kd.R k58 58 w' w.heap.size (fun _=>True) v0_ r1∧Kd.R k39 39 w' w.heap.size (fun _=>True) v1_ r2∧Below w.heap.size w w':=by
 have HR0:=am hr0;have HC0:=am hc0;clear hr0 hc0;have HB:=am (Below.refl w.heap.size w);unfold spec_DrawAddWant.f at h;have H:=h;clear h;obtain ⟨⟨t900,t901⟩,A2,H⟩:=bindE H;try dsimp only at H
 obtain ⟨⟨t906,t907,t908⟩,A3,H⟩:=bindE H;try dsimp only at H
 obtain ⟨⟨t910,t911,t912⟩,A4,H⟩:=bindE H;try dsimp only at H
 simp only [Option.some.injEq,Prod.mk.injEq] at H;obtain ⟨rfl,rfl,rfl⟩:=H;go_enter Tryz.func17,Tryz.ntmps17;go_wp2_with (first|((with_reducible refine gc 35 ?_);refine gL (some 10) Tryz.func35 #[.slice A0 l0.length c0] ?_;(with_reducible refine (spec_DrawAreWants.calls k _ _ l0 t900 t901 _ ?_ ?_ A2.out).mono ?_);exact cO HR0;exact HC0.out;rintro e w5 ⟨v902,v904,rfl,ho0,ho1,hb⟩;refine ⟨_,rfl,?_⟩;have HO903:=rl w ho0;have HO905:=rl w ho1;replace HB:=bs HB hb;(try clear hb);(try clear ho0);(try clear ho1))|((with_reducible refine gc 36 ?_);refine gL (some 14) Tryz.func36 #[.slice A0 l0.length c0] ?_;(with_reducible refine (spec_l1New.calls k _ _ l0 t906 t907 t908 w _ ?_ ?_ ?_ A3.out).mono ?_);exact sB0 HB.out;exact HR0.out;exact HC0.out;rintro e w6 ⟨g909,rfl,hi,hb,hb2,-⟩;refine ⟨_,rfl,?_⟩;replace HO903:=rb HO903 hb2;replace HO905:=rb HO905 hb2;replace HB:=am (hb);have HI909:=am (hi);(try clear hb);(try clear hb2);(try clear hi))|((with_reducible refine gc 37 ?_);refine gL (some 18) Tryz.func37 #[.pointer (some ⟨g909,0,none⟩),.int .i64 10] ?_;(with_reducible refine (spec_l1Below.calls g909 t906 t907 t908 10 t910 t911 t912 w _ ?_ ?_ A4.out).mono ?_);exact sI830 HI909.out;exact sB1 HB.out (IsS83.ge HI909.out);rintro e w7 ⟨rfl,hi,hb,hk⟩;refine ⟨_,rfl,?_⟩;replace HO903:=am (Kd.R_mono (Kd.R_keep (IsS83.apart (show IsS83 w _ g909 t906 t907 t908 from by exact sI830 HI909.out) (rK HO903) (by decide)) hk (fun _ h=>h.2)) (fun _ h=>h.1));replace HO905:=am (Kd.R_mono (Kd.R_keep (IsS83.apart (show IsS83 w _ g909 t906 t907 t908 from by exact sI830 HI909.out) (rK HO905) (by decide)) hk (fun _ h=>h.2)) (fun _ h=>h.1));replace HB:=am (hb);replace HI909:=am (hi);(try clear hb);(try clear hk);(try clear hi)))
 go_ret3
 exact ⟨_,_,rA,rK HO903,rK HO905,by exact sB1 HB.out (IsS83.ge HI909.out)⟩

/-! ### impl_AddWant: function 18 -/
theorem impl_AddWant.one {α:Type} {R:α→List Value→Prop} {size:Nat} {ps:List α} {cs:List Value} (h:Reps R size ps cs) (hs:0 < size) (hR:∀ p c,R p c→∀ u∈c,u.oneCell'=true):∀ u∈cs,u.oneCell'=true:=by
 intro u hu
 obtain ⟨q,hq,rfl⟩:=List.mem_iff_getElem.1 hu
 have hj:q / size < ps.length:=by
  rw [Nat.div_lt_iff_lt_mul hs,← h.1]
  exact hq
 refine hR _ _ (h.2 (q / size) _ (List.getElem?_eq_getElem hj)) _ (List.mem_iff_getElem?.2 ⟨q % size,?_⟩)
 rw [List.getElem?_take,if_pos (Nat.mod_lt _ hs),List.getElem?_drop,Nat.mul_comm,Nat.div_add_mod,List.getElem?_eq_getElem hq]
theorem impl_AddWant.cp {P:Program} (w:World) (t ty e:TypeId) (sz b o dLen dCap:Nat) (a:Addr) (sLen sCap q:Nat) (cs:List Value)
  (hu:P.underlying t=some (.slice e)) (hs:(P.info? e).map (·.size)=some sz) (hq:Nat.min sLen dLen=q) (hn:cs.length=q * sz)
  (hsrc:∀ j v,cs[j]?=some v→w.cell? (a.add j)=some v) (hc:∀ j,j < cs.length→(w.cell? ⟨b,o + j,none⟩).isSome=true) (hf:∀ j,j < cs.length→w.frozen? ⟨b,o + j,none⟩=false) (h1:∀ v∈cs,v.oneCell'=true) :
  (Builtin.copy_ #[t,t] ty #[.slice (some ⟨b,o,none⟩) dLen dCap,.slice (some a) sLen sCap]).run P w=.ok (goInt q) (w.setCells b o cs):=by
 have hst:=run_storeCells_cells (P:=P) b o cs 0 w (by simpa using hc) (by simpa using hf) h1
 simp only [Nat.add_zero] at hst
 cases hi:P.info? e with
 | none=>simp [hi] at hs
 | some i =>
  have hz:i.size=sz:=by simpa [hi] using hs
  subst hz
  have hfc:=run_firstCells_some (P:=P) w i.size q a sLen sCap cs hn hsrc
  simp [Builtin.copy_,run_underlying hu,Builtin.lenOf,sizeOf,typeInfo,hi,hq,hfc,hst]
theorem impl_AddWant.az {P:Program} (w:World) (t ti ty e:TypeId) (i:TypeInfo) (z:Value) (size bytes:Nat) (ht:P.underlying t=some (.slice e)) {k:IntKind} (hti:P.underlying ti=some (.int k)) (hi:P.info? e=some i) (hz:i.zero=some z)
  (hsize:i.size=size) (hby:i.bytes=bytes) (hzs:z.cells.size=size) (hsz:0 < size) (hb0:0 < bytes)
  (A:Addr) (n cap:Nat) (xs:List Value) (hxl:xs.length=n * size) (hxc:∀ j u,xs[j]?=some u→w.cell? (A.add j)=some u) (kx:IntKind) (m:Nat) (hm:¬ m=0) (hcap:cap < n + m)
  (hbytes:(n + m) * bytes≤140737488355328) :
  ∃ C cells,(Builtin.append_ #[t,ti] ty #[.slice (some A) n cap,.int kx m]).run P w=.ok (.slice (some ⟨w.heap.size,0,none⟩) (n + m) C) (w.drew.alloc (.cells cells e))∧n + m≤C∧C≤maxLen∧cells.size=C * size∧cells.toList.take (n * size)=xs:=by
 subst hsize
 subst hby
 have hle:n + m≤140737488355328:=Nat.le_trans (Nat.le_mul_of_pos_right _ hb0) hbytes
 have h63:n + m≤maxLen:=by simp only [maxLen];omega
 have hw:IntKind.i64.wrap (m:Int)=m:=by rw [IntKind.wrap_i64];omega
 have hneg:¬ ((m:Int) < 0):=by omega
 have hmb:m * i.bytes≤140737488355328:=Nat.le_trans (Nat.mul_le_mul_right _ (Nat.le_add_left m n)) hbytes
 have hbig:¬ (281474976710656 < (m:Int) * (i.bytes:Int)):=by
  rw [← Int.natCast_mul]
  omega
 have hsn:i.size≠0:=by omega
 obtain ⟨news,hnews⟩:∃ news,news=(Builtin.zeroCells z.cells m).toList:=⟨_,rfl⟩
 have hl:news.length=m * i.size:=by rw [hnews,Array.length_toList,size_zeroCells,hzs]
 have hna:Builtin.zeroCells z.cells m=news.toArray:=by rw [hnews]
 have hge:=grownCap_ge w (n + m) cap e
 have hcm:grownCap w (n + m) cap e≤maxLen:=grownCap_le_maxLen w (n + m) cap e h63
 have hfo:(Builtin.firstCells i.size n (.slice (some A) n cap)).run P w.drew=.ok xs.toArray w.drew:=run_firstCells_some (P:=P) w.drew i.size n _ n cap xs hxl (by simpa using hxc)
 have runs:(Builtin.append_ #[t,ti] ty #[.slice (some A) n cap,.int kx m]).run P w =
   .ok (.slice (some ⟨w.heap.size,0,none⟩) (n + m) (grownCap w (n + m) cap e)) (w.drew.alloc (.cells (xs.toArray ++ news.toArray ++ Builtin.zeroCells z.cells (grownCap w (n + m) cap e - (n + m))) e)):=by
  have hn:¬ (n + m≤cap):=by omega
  have h63':¬ (9223372036854775807 < ((n:Int) + (m:Int))):=by omega
  have hfit:=growslice_fits hcap hbytes
  have h48':¬ (281474976710656 < Builtin.nextslicecap (n + m) cap * i.bytes):=by omega
  have hmz:¬ (m * i.size=0):=Nat.mul_ne_zero hm hsn
  simp [Builtin.append_,run_underlying ht,run_underlying hti,sizeOf,typeInfo,zeroValue,hi,hz,asInt,asIntOf,hw,hneg,hbig,hn,h63',h48',Question.forced,hfo,newRow,grownCap,hmz,hna]
  congr 2
  apply Array.ext'
  simp [List.append_assoc]
 refine ⟨_,_,runs,hge,hcm,?_,?_⟩
 ·
  simp only [Array.size_append,List.size_toArray,size_zeroCells,hzs,hxl,hl,← Nat.add_mul]
  congr 1
  omega
 ·
  simp only [Array.toList_append,List.append_assoc]
  rw [← hxl]
  exact List.take_left
theorem impl_AddWant.two {e g:Nat} (w w1:World) (cur:Array Value) (cs rest:List Value) (o:Nat) (h:w.heap[g]?=some (.cells cur e (0,0))) (hw1:w1.heap[g]?=(w.setCells g o cs).heap[g]?) (hl:o + cs.length + rest.length≤cur.size) :
  ∃ cur',(w1.setCells g (o + cs.length) rest).heap[g]?=some (.cells cur' e (0,0))∧cur'.size=cur.size∧cur'.toList.take (o + cs.length + rest.length)=cur.toList.take o ++ cs ++ rest:=by
 obtain ⟨c1,h1,h2,h3⟩:=setCells_row cs o w cur h (by omega)
 obtain ⟨c2,h4,h5,h6⟩:=setCells_row rest (o + cs.length) w1 c1 (hw1.trans h1) (by omega)
 have hlen:(cur.toList.take o).length=o:=by rw [List.length_take,Array.length_toList];omega
 refine ⟨c2,h4,by omega,?_⟩
 rw [h6,h3]
 have ha:(cur.toList.take o ++ cs ++ cur.toList.drop (o + cs.length)).take (o + cs.length)=cur.toList.take o ++ cs:=List.take_left' (by rw [List.length_append,hlen])
 rw [ha]
 exact List.take_left' (by rw [List.length_append,List.length_append,hlen])
theorem impl_AddWant.two' {e g:Nat} (w:World) (cur:Array Value) (cs rest:List Value) (o:Nat) (h:w.heap[g]?=some (.cells cur e (0,0))) (hl:o + cs.length + rest.length≤cur.size) :
  ∃ cur',((w.setCells g (o + cs.length) rest).setCells g o cs).heap[g]?=some (.cells cur' e (0,0))∧cur'.size=cur.size∧cur'.toList.take (o + cs.length + rest.length)=cur.toList.take o ++ cs ++ rest:=by
 obtain ⟨c1,h1,h2,h3⟩:=setCells_row rest (o + cs.length) w cur h (by omega)
 obtain ⟨c2,h4,h5,h6⟩:=setCells_row cs o (w.setCells g (o + cs.length) rest) c1 h1 (by omega)
 have hlen:(cur.toList.take o).length=o:=by rw [List.length_take,Array.length_toList];omega
 have hlen2:(cur.toList.take (o + cs.length)).length=o + cs.length:=by rw [List.length_take,show cur.toList.length=cur.size from Array.length_toList];omega
 refine ⟨c2,h4,by omega,?_⟩
 rw [h6,h3]
 have ha:(cur.toList.take (o + cs.length) ++ rest ++ cur.toList.drop (o + cs.length + rest.length)).take o=cur.toList.take o:=by
  rw [List.append_assoc,List.take_append_of_le_length (by omega),List.take_take,Nat.min_eq_left (by omega)]
 have hb:(cur.toList.take (o + cs.length) ++ rest ++ cur.toList.drop (o + cs.length + rest.length)).drop (o + cs.length)=rest ++ cur.toList.drop (o + cs.length + rest.length):=by
  rw [List.append_assoc]
  exact List.drop_left' hlen2
 rw [ha,hb,← List.append_assoc]
 exact List.take_left' (by rw [List.length_append,List.length_append,hlen])
theorem impl_AddWant.mk {α:Type} (d:Kd α) (e:Nat) (w':World) (base g C k:Nat) (cur:Array Value) (xs:List α) (x:α) (inner cs:List Value)
  (hr:Reps (d.M w' base (fun k=>True∧some k≠some g)) d.sz xs inner) (hx:d.M w' base (fun k=>True∧some k≠some g) x cs) (hk:k≤xs.length) (hb:base≤g) (hg:w'.heap[g]?=some (.cells cur e (0,0)))
  (hC:xs.length + 1≤C) (hCm:C≤maxLen) (hcs:cur.size=C * d.sz) (ht:cur.toList.take ((xs.length + 1) * d.sz)=inner.take (k * d.sz) ++ cs ++ inner.drop (k * d.sz)) :
  d.R e w' base (fun _=>True) (.slice (some ⟨g,0,none⟩) (xs.length + 1) C) (xs.take k ++ [x] ++ xs.drop k):=by
 have hl:(xs.take k ++ [x] ++ xs.drop k).length=xs.length + 1:=by simp;omega
 have hcl:cs.length=d.sz:=d.K_len (d.K_of_M hx)
 have h1:Reps (d.M w' base (fun k=>True∧some k≠some g)) d.sz (xs.take k ++ [x] ++ xs.drop k) (inner.take (k * d.sz) ++ cs ++ inner.drop (k * d.sz)) :=
  Kd.reps_append (Reps.snoc (Kd.reps_take hr hk) hx hcl) (Kd.reps_drop hr)
 exact ⟨fun _ _=>trivial,_,⟨h1.1,.inr ⟨g,C,cur,by rw [hl],hb,hg,by rw [hl];exact hC,hCm,hcs,by rw [hl];exact ht⟩⟩,h1⟩
theorem impl_AddWant.wcopy {P:Program} (w:World) {ops:Array Oper} {rest:List Oper} {o:Oper} {a:Act} {Q:Exit→Act→World→Prop} (hgd:o.guard=none) (d s:Operand) (t t':TypeId)
  (ho:o.op=.call { callee:=.builtin .copy,args:=#[d,s],argTypes:=#[t,t'] }) (v u:Value) (hd:a.eval d=v) (hs:a.eval s=u) {v':Value} {w':World}
  (hr:(Builtin.copy_ #[t,t'] o.type #[v,u]).run P w=.ok v' w') (h:wpList P ops Q rest (a.put o.dst v') w'):wpList P ops Q (o::rest) a w :=
 wpList_plain hgd fun K hK=>by
  unfold Oper.wp execOp
  simp only [ho,resolve,invoke,builtin,Sem.run_bind,Sem.run_pure,Result.andThen_ok,List.map_toArray,List.map_cons,List.map_nil,hd,hs,hr]
  exact hK _ _ h
theorem impl_AddWant.wapp {P:Program} (w:World) {ops:Array Oper} {rest:List Oper} {o:Oper} {a:Act} {Q:Exit→Act→World→Prop} (hgd:o.guard=none) (d s:Operand) (t t':TypeId)
  (ho:o.op=.call { callee:=.builtin .append,args:=#[d,s],argTypes:=#[t,t'] }) (v u:Value) (hd:a.eval d=v) (hs:a.eval s=u) {v':Value} {w':World}
  (hr:(Builtin.append_ #[t,t'] o.type #[v,u]).run P w=.ok v' w') (h:wpList P ops Q rest (a.put o.dst v') w'):wpList P ops Q (o::rest) a w :=
 wpList_plain hgd fun K hK=>by
  unfold Oper.wp execOp
  simp only [ho,resolve,invoke,builtin,Sem.run_bind,Sem.run_pure,Result.andThen_ok,List.map_toArray,List.map_cons,List.map_nil,hd,hs,hr]
  exact hK _ _ h
theorem impl_AddWant.scopy {P:Program} {ops:Array Oper} {o:Oper} {a:Act} {w:World} {K:Act→World→Prop} {Q:Exit→Act→World→Prop} {E:Prop}
  (hg:o.guard=none) (d x:Operand) (dT sT:TypeId) (hop:o.op=Op.call { callee:=Callee.builtin Builtin.copy,args:=#[d,x],argTypes:=#[dT,sT] })
  (v u:Value) (hd:a.eval d=v) (hx:a.eval x=u) {v':Value} {w':World} (hr:(Builtin.copy_ #[dT,sT] o.type #[v,u]).run P w=.ok v' w') (hK:K (a.put o.dst v') w') :
  if Region.wanted o (yielded ops a.tmps)=true then Oper.wp P o a w K Q else E:=by
 have hw:Region.wanted o (yielded ops a.tmps)=true:=by simp [Region.wanted,hg]
 rw [if_pos hw]
 unfold Oper.wp
 simp [execOp,hop,resolve,invoke,builtin,hd,hx,hr,Result.andThen]
 exact hK
theorem impl_AddWant.flat {w w':World} {base base':Nat} {ok ok':Nat→Prop} {p:S39} {cs:List Value} (h:(k39).M w base ok p cs):(k39).M w' base' ok' p cs:=h
set_option maxHeartbeats 4000000 in
set_option maxRecDepth 100000 in
theorem impl_AddWant.at_end (base c gv cv:Nat) (l0:List S39) (x:S39) (ok okv:Nat→Prop) (w0 w:World) (hlim:l0.length < 8796093022208) (A:Option Addr)
  (HO:Kd.R k39 39 w base ok (.slice A l0.length c) l0) (HV:Kd.R k39 39 w base okv (.slice (some ⟨gv,0,none⟩) 1 cv) [x]) (hb:Below base w0 w) (hbase:base≤w.heap.size) :
  Calls Tryz.prog 39 #[.slice A l0.length c,.int .i64 (l0.length:Int),.slice (some ⟨gv,0,none⟩) 1 cv] w fun e w'=>∃ v0_:Value,e=.returned v0_∧Kd.R k39 39 w' base (fun _=>True) v0_ (l0 ++ [x])∧Below base w0 w':=by
 have HO0:=Aside0.mk HO
 have HV0:=Aside0.mk HV
 have HL:=Aside0.mk hlim
 have HB:=Aside0.mk hb
 have HS:=Aside0.mk hbase
 clear HO HV hlim hb hbase
 go_enter Tryz.func39,Tryz.ntmps39
 go_wp2_with (first
  | ((with_reducible refine gate_builtin (b:=.append) (xs:=#[.tmp 23,.tmp 24]) rfl ?_);at_builtin;refine Kd.R_append_rows k39 (w0:=w0) base rfl (.tmp 23) (.tmp 24) 28 39 (.agg #[(.int .i64 0),(.int .i64 0)]) 16 rfl Tryz.underlying28 info39 rfl (by decide) (by omega) (.slice A l0.length c) l0 [x] _ _ _ (fun _=>True) (fun _=>False) rfl rfl ?aO ?aR (fun _ _ h=>h) (fun _ h=>h.elim) ?aF ?aB ?aS ?aL ?_;(case aR=>exact (Kd.R_reads' HV0.out).2.2);(case aB=>exact HB.out);(case aF=>exact (fun _ _=>trivial));(case aO=>exact Kd.R_mono HO0.out (fun _ _=>trivial));(case aS=>exact HS.out);(case aL=>have:=HL.out;simp;omega);intro v1 w9 ho hb hg hat;have HO1:=Aside0.mk ho;have HB1:=Aside0.mk hb;clear ho hb hg hat))
 all_goals
  go_ret
  exact ⟨_,rfl,HO1.out,HB1.out⟩
set_option maxHeartbeats 4000000 in
set_option maxRecDepth 100000 in
theorem impl_AddWant.grow_facts (base g gv cv k:Nat) (l0:List S39) (x:S39) (ok okv:Nat→Prop) (w0 w:World) (hlim:l0.length < 4398046511104) (hk:k < l0.length) (hne:gv≠g)
  (HO:Kd.R k39 39 w base ok (.slice (some ⟨g,0,none⟩) l0.length l0.length) l0) (HV:Kd.R k39 39 w base okv (.slice (some ⟨gv,0,none⟩) 1 cv) [x]) (hb:Below base w0 w) (hbase:base≤w.heap.size) :
  ∃ (C:Nat) (W1 W2 W3:World),l0.length + 1≤C ∧
   (Builtin.append_ #[28,3] 28 #[.slice (some ⟨g,0,none⟩) k l0.length,.int .i64 ((l0.length:Int) + 1 - (k:Int))]).run Tryz.prog w=.ok (.slice (some ⟨w.heap.size,0,none⟩) (l0.length + 1) C) W1 ∧
   (∀ ty dc,(Builtin.copy_ #[28,28] ty #[.slice (some ⟨w.heap.size,k * 2,none⟩) (l0.length + 1 - k) dc,.slice (some ⟨gv,0,none⟩) 1 cv]).run Tryz.prog W1=.ok (goInt ((1:Nat):Int)) W2) ∧
   (∀ ty dc sc,(Builtin.copy_ #[28,28] ty #[.slice (some ⟨w.heap.size,(k + 1) * 2,none⟩) (l0.length - k) dc,.slice (some ⟨g,k * 2,none⟩) (l0.length - k) sc]).run Tryz.prog W2.drew=.ok (goInt ((l0.length - k:Nat):Int)) W3) ∧
   Kd.R k39 39 W3 base (fun _=>True) (.slice (some ⟨w.heap.size,0,none⟩) (l0.length + 1) C) (l0.take k ++ [x] ++ l0.drop k)∧Below base w0 W3:=by
 obtain ⟨_,inner,hown,hr⟩:=HO
 obtain ⟨_,innv,hownv,hrv⟩:=HV
 rcases hown.2 with ⟨hv,_⟩|⟨g',c',cur,hv,hbg,hh,_,hcm,hcs,htake⟩
 ·
  cases hv
 injection hv with ha _ hcc
 injection ha with ha
 injection ha with hgg
 subst hgg;subst hcc
 rcases hownv.2 with ⟨hv,_⟩|⟨g',c',curv,hv,hbgv,hhv,hv1,hcmv,hcsv,htakev⟩
 ·
  cases hv
 injection hv with ha _ hcc
 injection ha with ha
 injection ha with hgg
 subst hgg;subst hcc
 have hil:inner.length=l0.length * 2:=hr.1
 have hivl:innv.length=2:=by rw [hrv.1];rfl
 have hx0:=hrv.2 0 x rfl
 have hx1:(innv.drop (0 * (k39).sz)).take (k39).sz=innv:=by rw [Nat.zero_mul,List.drop_zero];exact List.take_of_length_le (Nat.le_of_eq hivl)
 rw [hx1] at hx0
 have hsz:(Tryz.prog.info? 39).map (·.size)=some 2:=by
  have h:=info39
  cases hq:Tryz.prog.info? 39 with
  | none=>rw [hq] at h;simp at h
  | some i=>rw [hq] at h;simp at h;simp [h]
 have h1i:∀ u∈inner,u.oneCell'=true:=impl_AddWant.one hr (by decide) (fun _ _ hp=>(k39).K_one ((k39).K_of_M hp))
 have h1v:∀ u∈innv,u.oneCell'=true:=(k39).K_one ((k39).K_of_M hx0)
 have hsc:cur.size=l0.length * 2:=hcs
 have hscv:curv.size=cv * 2:=hcsv
 have hcur:∀ q,q < l0.length * 2→cur.toList[q]?=inner[q]?:=by
  intro q hq
  rw [← (show cur.toList.take (l0.length * 2)=inner from htake),List.getElem?_take,if_pos hq]
 have hcv:∀ (W:World),W.heap[gv]?=some (.cells curv 39 (0,0))→∀ j v,innv[j]?=some v→W.cell? ((⟨gv,0,none⟩:Addr).add j)=some v:=by
  intro W hW j v hj
  have hlt:j < innv.length:=(List.getElem?_eq_some_iff.1 hj).1
  rw [add_plain,cell_of_row W gv _ curv 39 (0,0) hW,← Array.getElem?_toList]
  rw [← (show curv.toList.take ([x].length * 2)=innv from htakev),List.getElem?_take] at hj
  rw [if_pos (by simp;omega)] at hj
  exact hj
 have hdl:(inner.drop (k * 2)).length=(l0.length - k) * 2:=by rw [List.length_drop,hil];omega
 have htl:(inner.take (k * 2)).length=k * 2:=by rw [List.length_take,hil];omega
 have hgl:g < w.heap.size:=blk_lt hh
 have hgvl:gv < w.heap.size:=blk_lt hhv
 obtain ⟨i0,hi0,hz0,hz1,hz2⟩:∃ i,Tryz.prog.info? 39=some i∧i.zero=some (.agg #[(.int .i64 0),(.int .i64 0)])∧i.size=2∧i.bytes=16:=by
  have h:=info39
  cases hq:Tryz.prog.info? 39 with
  | none=>rw [hq] at h;simp at h
  | some i=>rw [hq] at h;simp at h;exact ⟨i,rfl,h.1,h.2.1,h.2.2⟩
 obtain ⟨C,cells,hap,hC,hCm,hCs,hCt⟩:=impl_AddWant.az (P:=Tryz.prog) w 28 3 28 39 i0 (.agg #[(.int .i64 0),(.int .i64 0)]) 2 16 Tryz.underlying28 Tryz.underlying3 hi0 hz0 hz1 hz2 rfl (by decide) (by decide) ⟨g,0,none⟩ k l0.length (inner.take (k * 2)) htl
  (fun j u hu=>by
   have hlt:j < (inner.take (k * 2)).length:=(List.getElem?_eq_some_iff.1 hu).1
   rw [add_plain,cell_of_row w g _ cur 39 (0,0) hh,← Array.getElem?_toList,hcur _ (by omega)]
   rw [List.getElem?_take,if_pos (by omega)] at hu
   exact hu) .i64 (l0.length + 1 - k) (by omega) (by omega) (by omega)
 have hkn:k + (l0.length + 1 - k)=l0.length + 1:=by omega
 have hcast:((l0.length + 1 - k:Nat):Int)=(l0.length:Int) + 1 - (k:Int):=by omega
 rw [hkn,hcast] at hap
 rw [hkn] at hC
 obtain ⟨W1,hW1⟩:∃ W1,W1=w.drew.alloc (.cells cells 39):=⟨_,rfl⟩
 have hG:W1.heap[w.heap.size]?=some (.cells cells 39 (0,0)):=by rw [hW1];exact heap_alloc_new w.drew _
 have hold:∀ q,q < w.heap.size→W1.heap[q]?=w.heap[q]?:=fun q hq=>by rw [hW1];exact heap_alloc_old w.drew _ hq
 have hgr1:w.grownBy W1 none:=by rw [hW1];exact ⟨rfl,rfl,rfl,by simp,fun q hq _=>heap_alloc_old w.drew _ hq⟩
 rw [← hW1] at hap
 have hcp2:∀ ty dc,(Builtin.copy_ #[28,28] ty #[.slice (some ⟨w.heap.size,k * 2,none⟩) (l0.length + 1 - k) dc,.slice (some ⟨gv,0,none⟩) 1 cv]).run Tryz.prog W1=.ok (goInt ((1:Nat):Int)) (W1.setCells w.heap.size (k * 2) innv):=fun ty dc =>
  impl_AddWant.cp W1 28 ty 39 2 w.heap.size (k * 2) (l0.length + 1 - k) dc ⟨gv,0,none⟩ 1 cv 1 innv Tryz.underlying28 hsz (by simp only [Nat.min_def];split <;> omega) (by rw [hivl])
   (hcv W1 ((hold gv hgvl).trans hhv))
   (fun j hj=>by rw [cell_of_row W1 w.heap.size _ cells 39 (0,0) hG];simp;omega) (fun j _=>blk_frozen (w:=W1) hG _) h1v
 obtain ⟨W2,hW2⟩:∃ W2,W2=W1.setCells w.heap.size (k * 2) innv:=⟨_,rfl⟩
 obtain ⟨c1,hd1,hd2,hd3⟩:=setCells_row innv (k * 2) W1 cells hG (by omega)
 rw [← hW2] at hcp2 hd1
 have hg2:W2.drew.heap[g]?=some (.cells cur 39 (0,0)):=by
  show W2.heap[g]?=_
  rw [hW2,setCells_far _ _ g (by omega),hold g hgl,hh]
 have hcp1:∀ ty dc sc,(Builtin.copy_ #[28,28] ty #[.slice (some ⟨w.heap.size,(k + 1) * 2,none⟩) (l0.length - k) dc,.slice (some ⟨g,k * 2,none⟩) (l0.length - k) sc]).run Tryz.prog W2.drew=.ok (goInt ((l0.length - k:Nat):Int)) (W2.drew.setCells w.heap.size ((k + 1) * 2) (inner.drop (k * 2))):=fun ty dc sc =>
  impl_AddWant.cp W2.drew 28 ty 39 2 w.heap.size ((k + 1) * 2) (l0.length - k) dc ⟨g,k * 2,none⟩ (l0.length - k) sc (l0.length - k) (inner.drop (k * 2)) Tryz.underlying28 hsz (by simp only [Nat.min_def];split <;> omega) hdl
   (fun j v hj=>by
    have hlt:j < (inner.drop (k * 2)).length:=(List.getElem?_eq_some_iff.1 hj).1
    rw [add_at,cell_of_row W2.drew g _ cur 39 (0,0) hg2,← Array.getElem?_toList,hcur _ (by omega)]
    rwa [List.getElem?_drop] at hj)
   (fun j hj=>by rw [cell_of_row W2.drew w.heap.size _ c1 39 (0,0) hd1];simp;omega) (fun j _=>blk_frozen (w:=W2.drew) hd1 _) (fun v hv=>h1i v (List.mem_of_mem_drop hv))
 have hin2:k * 2 + innv.length=(k + 1) * 2:=by omega
 obtain ⟨c2,he1,he2,he3⟩:=impl_AddWant.two (e:=39) (g:=w.heap.size) W1 W2.drew cells innv (inner.drop (k * 2)) (k * 2) hG (by rw [hW2];rfl) (by omega)
 rw [hin2] at he1
 obtain ⟨W3,hW3⟩:∃ W3,W3=W2.drew.setCells w.heap.size ((k + 1) * 2) (inner.drop (k * 2)):=⟨_,rfl⟩
 rw [← hW3] at hcp1 he1
 have hB3:Below base w0 W3:=by
  refine Below.grown hb ?_ hbase (row:=none) (fun q hq=>by cases hq)
  obtain ⟨s1,s2,s3,s4⟩:=setCells_same w.heap.size (inner.drop (k * 2)) ((k + 1) * 2) W2.drew
  obtain ⟨t1,t2,t3,t4⟩:=setCells_same w.heap.size innv (k * 2) W1
  rw [hW3]
  refine ⟨s1.trans ?_,s2.trans ?_,s3.trans ?_,?_,fun q hql _=>?_⟩
  ·
   show W2.os=_;rw [hW2];exact t1.trans hgr1.os
  ·
   show W2.tape=_;rw [hW2];exact t2.trans hgr1.tape
  ·
   show W2.output=_;rw [hW2];exact t3.trans hgr1.output
  ·
   rw [s4];show _≤W2.heap.size;rw [hW2,t4];exact hgr1.size
  ·
   rw [setCells_far _ _ q (by omega)];show W2.heap[q]?=_;rw [hW2,setCells_far _ _ q (by omega)];exact hold q hql
 have hR3:Kd.R k39 39 W3 base (fun _=>True) (.slice (some ⟨w.heap.size,0,none⟩) (l0.length + 1) C) (l0.take k ++ [x] ++ l0.drop k) :=
  impl_AddWant.mk k39 39 W3 base w.heap.size C k c2 l0 x inner innv (hr.imp_ (fun _ _ hp=>impl_AddWant.flat hp)) (impl_AddWant.flat hx0) (by omega) hbase he1 hC hCm (by rw [he2];exact hCs) (by
   have h6:k * 2 + innv.length + (inner.drop (k * 2)).length=(l0.length + 1) * 2:=by omega
   rw [h6,hCt] at he3
   exact he3)
 exact ⟨C,W1,W2,W3,hC,hap,hcp2,hcp1,hR3,hB3⟩
set_option maxHeartbeats 4000000 in
set_option maxRecDepth 100000 in
theorem impl_AddWant.at_grow (base g gv cv k:Nat) (l0:List S39) (x:S39) (ok okv:Nat→Prop) (w0 w:World) (hlim:l0.length < 4398046511104) (hk:k < l0.length) (hne:gv≠g)
  (HO:Kd.R k39 39 w base ok (.slice (some ⟨g,0,none⟩) l0.length l0.length) l0) (HV:Kd.R k39 39 w base okv (.slice (some ⟨gv,0,none⟩) 1 cv) [x]) (hb:Below base w0 w) (hbase:base≤w.heap.size) :
  Calls Tryz.prog 39 #[.slice (some ⟨g,0,none⟩) l0.length l0.length,.int .i64 (k:Int),.slice (some ⟨gv,0,none⟩) 1 cv] w fun e w'=>∃ v0_:Value,e=.returned v0_∧Kd.R k39 39 w' base (fun _=>True) v0_ (l0.take k ++ [x] ++ l0.drop k)∧Below base w0 w':=by
 obtain ⟨C,W1,W2,W3,hC,hap,hcp2,hcp1,hR3,hB3⟩:=impl_AddWant.grow_facts base g gv cv k l0 x ok okv w0 w hlim hk hne HO HV hb hbase
 have HR3:=Aside0.mk hR3
 have HB3:=Aside0.mk hB3
 have hlen:l0.length≤9223372036854775807:=by omega
 have n1:(l0.length=k)=False:=eq_false (by omega)
 have n1b:(C=k)=False:=eq_false (by omega)
 have n1c:(C=k + 1)=False:=eq_false (by omega)
 have n2:(k=l0.length)=False:=eq_false (by omega)
 have n3:((k:Int) == (l0.length:Int))=false:=by simp;omega
 have n4:IntKind.i64.wrap ((l0.length:Int) + 1)=(l0.length:Int) + 1:=by rw [IntKind.wrap_i64];omega
 have n5:IntKind.i64.wrap ((l0.length:Int) + 1 - (k:Int))=(l0.length:Int) + 1 - (k:Int):=by rw [IntKind.wrap_i64];omega
 have n6:IntKind.i64.wrap ((k:Int) + 1)=(k:Int) + 1:=by rw [IntKind.wrap_i64];omega
 have n7:k≤l0.length:=by omega
 have n8:decide ((l0.length:Int) < (l0.length:Int) + 1)=true:=decide_eq_true (by omega)
 have n9:(0:Int)≤(l0.length:Int) + 1:=by omega
 have n12:((k:Int) + 1).toNat=k + 1:=by omega
 have n13:(0:Int)≤(k:Int) + 1:=by omega
 have n14:(k:Int)≤(l0.length:Int) + 1:=by omega
 have n15:k≤l0.length + 1:=by omega
 have mixed:Tryz.prog.follows Departure.mixedOrders=true:=by kernel_rfl
 clear hR3 hB3 HO HV hb hbase hne hk hlim hC
 go_enter Tryz.func39,Tryz.ntmps39
 go_wp2_with (first
  | (at_builtin;refine impl_AddWant.wapp _ rfl _ _ _ _ rfl _ _ rfl rfl hap ?_)
  | (at_builtin;refine impl_AddWant.wcopy _ rfl _ _ 28 28 rfl _ _ rfl rfl (hcp2 _ _) ?_))
 go_region_law_o (refine impl_AddWant.scopy rfl _ _ 28 28 rfl _ _ (by simp [Act.eval,Act.put]) (by simp [Act.eval,Act.put]) (hcp1 _ _ _) ?_)
 go_wp2
 go_ret
 exact ⟨_,rfl,HR3.out,HB3.out⟩
set_option maxHeartbeats 4000000 in
set_option maxRecDepth 100000 in
theorem impl_AddWant.room_facts (base g c gv cv k:Nat) (l0:List S39) (x:S39) (ok okv:Nat→Prop) (w0 w:World) (hlim:l0.length < 8796093022208) (hk:k < l0.length) (hc:l0.length < c) (hne:gv≠g)
  (HO:Kd.R k39 39 w base ok (.slice (some ⟨g,0,none⟩) l0.length c) l0) (HV:Kd.R k39 39 w base okv (.slice (some ⟨gv,0,none⟩) 1 cv) [x]) (hb:Below base w0 w) (hbase:base≤w.heap.size) :
  ∃ W1 W2:World,(∀ ty dc sc,(Builtin.copy_ #[28,28] ty #[.slice (some ⟨g,(k + 1) * 2,none⟩) (l0.length - k) dc,.slice (some ⟨g,k * 2,none⟩) (l0.length + 1 - k) sc]).run Tryz.prog w.drew=.ok (goInt ((l0.length - k:Nat):Int)) W1) ∧
   (∀ ty dc,(Builtin.copy_ #[28,28] ty #[.slice (some ⟨g,k * 2,none⟩) (l0.length + 1 - k) dc,.slice (some ⟨gv,0,none⟩) 1 cv]).run Tryz.prog W1=.ok (goInt ((1:Nat):Int)) W2) ∧
   Kd.R k39 39 W2 base (fun _=>True) (.slice (some ⟨g,0,none⟩) (l0.length + 1) c) (l0.take k ++ [x] ++ l0.drop k)∧Below base w0 W2 ∧
   (∀ lb cb,(callFunc 54 #[.slice (some ⟨gv,0,none⟩) 1 cv,.slice (some ⟨g,(k + 1) * 2,none⟩) lb cb]).run Tryz.prog w=.ok (.value (.bool false)) w):=by
 obtain ⟨_,inner,hown,hr⟩:=HO
 obtain ⟨_,innv,hownv,hrv⟩:=HV
 rcases hown.2 with ⟨hv,_⟩|⟨g',c',cur,hv,hbg,hh,_,hcm,hcs,htake⟩
 ·
  cases hv
 injection hv with ha _ hcc
 injection ha with ha
 injection ha with hgg
 subst hgg;subst hcc
 rcases hownv.2 with ⟨hv,_⟩|⟨g',c',curv,hv,hbgv,hhv,hv1,hcmv,hcsv,htakev⟩
 ·
  cases hv
 injection hv with ha _ hcc
 injection ha with ha
 injection ha with hgg
 subst hgg;subst hcc
 have hil:inner.length=l0.length * 2:=hr.1
 have hivl:innv.length=2:=by rw [hrv.1];rfl
 have hx0:=hrv.2 0 x rfl
 have hx1:(innv.drop (0 * (k39).sz)).take (k39).sz=innv:=by rw [Nat.zero_mul,List.drop_zero];exact List.take_of_length_le (Nat.le_of_eq hivl)
 rw [hx1] at hx0
 have hsz:(Tryz.prog.info? 39).map (·.size)=some 2:=by
  have h:=info39
  cases hq:Tryz.prog.info? 39 with
  | none=>rw [hq] at h;simp at h
  | some i=>rw [hq] at h;simp at h;simp [h]
 have h1i:∀ u∈inner,u.oneCell'=true:=impl_AddWant.one hr (by decide) (fun _ _ hp=>(k39).K_one ((k39).K_of_M hp))
 have h1v:∀ u∈innv,u.oneCell'=true:=(k39).K_one ((k39).K_of_M hx0)
 have hsc:cur.size=c * 2:=hcs
 have hscv:curv.size=cv * 2:=hcsv
 have hcur:∀ q,q < l0.length * 2→cur.toList[q]?=inner[q]?:=by
  intro q hq
  rw [← (show cur.toList.take (l0.length * 2)=inner from htake),List.getElem?_take,if_pos hq]
 have hcv:∀ (W:World),W.heap[gv]?=some (.cells curv 39 (0,0))→∀ j v,innv[j]?=some v→W.cell? ((⟨gv,0,none⟩:Addr).add j)=some v:=by
  intro W hW j v hj
  have hlt:j < innv.length:=(List.getElem?_eq_some_iff.1 hj).1
  rw [add_plain,cell_of_row W gv _ curv 39 (0,0) hW,← Array.getElem?_toList]
  rw [← (show curv.toList.take ([x].length * 2)=innv from htakev),List.getElem?_take] at hj
  rw [if_pos (by simp;omega)] at hj
  exact hj
 have hdl:(inner.drop (k * 2)).length=(l0.length - k) * 2:=by rw [List.length_drop,hil];omega
 have hcp1:∀ ty dc sc,(Builtin.copy_ #[28,28] ty #[.slice (some ⟨g,(k + 1) * 2,none⟩) (l0.length - k) dc,.slice (some ⟨g,k * 2,none⟩) (l0.length + 1 - k) sc]).run Tryz.prog w.drew=.ok (goInt ((l0.length - k:Nat):Int)) (w.drew.setCells g ((k + 1) * 2) (inner.drop (k * 2))):=fun ty dc sc =>
  impl_AddWant.cp w.drew 28 ty 39 2 g ((k + 1) * 2) (l0.length - k) dc ⟨g,k * 2,none⟩ (l0.length + 1 - k) sc (l0.length - k) (inner.drop (k * 2)) Tryz.underlying28 hsz (by simp only [Nat.min_def];split <;> omega) hdl
   (fun j v hj=>by
    have hlt:j < (inner.drop (k * 2)).length:=(List.getElem?_eq_some_iff.1 hj).1
    rw [add_at,cell_of_row w.drew g _ cur 39 (0,0) hh,← Array.getElem?_toList,hcur _ (by omega)]
    rwa [List.getElem?_drop] at hj)
   (fun j hj=>by rw [cell_of_row w.drew g _ cur 39 (0,0) hh];simp;omega) (fun j _=>blk_frozen (w:=w.drew) hh _) (fun v hv=>h1i v (List.mem_of_mem_drop hv))
 obtain ⟨c1,hd1,hd2,hd3⟩:=setCells_row (inner.drop (k * 2)) ((k + 1) * 2) w.drew cur hh (by omega)
 have hfv:(w.drew.setCells g ((k + 1) * 2) (inner.drop (k * 2))).heap[gv]?=some (.cells curv 39 (0,0)):=(setCells_far _ _ gv hne).trans hhv
 obtain ⟨W1,hW1⟩:∃ W1,W1=w.drew.setCells g ((k + 1) * 2) (inner.drop (k * 2)):=⟨_,rfl⟩
 rw [← hW1] at hcp1 hd1 hfv
 have hcp2:∀ ty dc,(Builtin.copy_ #[28,28] ty #[.slice (some ⟨g,k * 2,none⟩) (l0.length + 1 - k) dc,.slice (some ⟨gv,0,none⟩) 1 cv]).run Tryz.prog W1=.ok (goInt ((1:Nat):Int)) (W1.setCells g (k * 2) innv):=fun ty dc =>
  impl_AddWant.cp W1 28 ty 39 2 g (k * 2) (l0.length + 1 - k) dc ⟨gv,0,none⟩ 1 cv 1 innv Tryz.underlying28 hsz (by simp only [Nat.min_def];split <;> omega) (by rw [hivl])
   (hcv W1 hfv)
   (fun j hj=>by rw [cell_of_row W1 g _ c1 39 (0,0) hd1];simp;omega) (fun j _=>blk_frozen (w:=W1) hd1 _) h1v
 have hin2:k * 2 + innv.length=(k + 1) * 2:=by omega
 obtain ⟨c2,he1,he2,he3⟩:=impl_AddWant.two' (e:=39) (g:=g) w.drew cur innv (inner.drop (k * 2)) (k * 2) hh (by omega)
 rw [hin2,← hW1] at he1
 obtain ⟨W2,hW2⟩:∃ W2,W2=W1.setCells g (k * 2) innv:=⟨_,rfl⟩
 rw [← hW2] at hcp2 he1
 have hB2:Below base w0 W2:=by
  refine Below.grown hb ?_ hbase (row:=some g) (fun q hq=>by injection hq with hq;omega)
  obtain ⟨s1,s2,s3,s4⟩:=setCells_same g innv (k * 2) W1
  obtain ⟨t1,t2,t3,t4⟩:=setCells_same g (inner.drop (k * 2)) ((k + 1) * 2) w.drew
  rw [hW2]
  refine ⟨s1.trans (by rw [hW1];exact t1),s2.trans (by rw [hW1];exact t2),s3.trans (by rw [hW1];exact t3),by rw [s4,hW1,t4];exact Nat.le_refl _,fun q _ hq=>?_⟩
  rw [setCells_far _ _ q (fun he=>hq (by rw [he])),hW1,setCells_far _ _ q (fun he=>hq (by rw [he]))]
  rfl
 have hR2:Kd.R k39 39 W2 base (fun _=>True) (.slice (some ⟨g,0,none⟩) (l0.length + 1) c) (l0.take k ++ [x] ++ l0.drop k) :=
  impl_AddWant.mk k39 39 W2 base g c k c2 l0 x inner innv (hr.imp_ (fun _ _ hp=>impl_AddWant.flat hp)) (impl_AddWant.flat hx0) (by omega) hbg he1 (by omega) hcm (by rw [he2,hcs]) (by
   have h5:cur.toList.take (k * 2)=inner.take (k * 2):=by
    rw [← (show cur.toList.take (l0.length * 2)=inner from htake),List.take_take,Nat.min_eq_left (by omega)]
   have h6:k * 2 + innv.length + (inner.drop (k * 2)).length=(l0.length + 1) * 2:=by omega
   rw [h6,h5] at he3
   exact he3)
 have hov:∀ lb cb,(callFunc 54 #[.slice (some ⟨gv,0,none⟩) 1 cv,.slice (some ⟨g,(k + 1) * 2,none⟩) lb cb]).run Tryz.prog w=.ok (.value (.bool false)) w:=fun lb cb=>by
  rw [run_callFunc_extern Tryz.func54 (by kernel_rfl) (by kernel_rfl) (by kernel_rfl) (e:=Extern.SlicesOverlaps.overlaps #[28,28] #[4]) (by kernel_rfl),
   Lib.run_overlaps_apart w 28 4 39 Tryz.underlying28 2 Tryz.sizeOf39 ⟨gv,0,none⟩ ⟨g,(k + 1) * 2,none⟩ 1 cv lb cb hne 39 39 curv.size cur.size (by simp [World.shape?,hhv]) (by simp [World.shape?,hh]) (by omega) (blk_frozen hhv _) (blk_frozen hhv _)]
  rfl
 exact ⟨W1,W2,hcp1,hcp2,hR2,hB2,hov⟩
set_option maxHeartbeats 4000000 in
set_option maxRecDepth 100000 in
theorem impl_AddWant.at_room (base g c gv cv k:Nat) (l0:List S39) (x:S39) (ok okv:Nat→Prop) (w0 w:World) (hlim:l0.length < 8796093022208) (hk:k < l0.length) (hc:l0.length < c) (hne:gv≠g)
  (HO:Kd.R k39 39 w base ok (.slice (some ⟨g,0,none⟩) l0.length c) l0) (HV:Kd.R k39 39 w base okv (.slice (some ⟨gv,0,none⟩) 1 cv) [x]) (hb:Below base w0 w) (hbase:base≤w.heap.size) :
  Calls Tryz.prog 39 #[.slice (some ⟨g,0,none⟩) l0.length c,.int .i64 (k:Int),.slice (some ⟨gv,0,none⟩) 1 cv] w fun e w'=>∃ v0_:Value,e=.returned v0_∧Kd.R k39 39 w' base (fun _=>True) v0_ (l0.take k ++ [x] ++ l0.drop k)∧Below base w0 w':=by
 obtain ⟨W1,W2,hcp1,hcp2,hR2,hB2,hov⟩:=impl_AddWant.room_facts base g c gv cv k l0 x ok okv w0 w hlim hk hc hne HO HV hb hbase
 have HR2:=Aside0.mk hR2
 have HB2:=Aside0.mk hB2
 have HK:=Aside0.mk hk
 have hlen:l0.length≤9223372036854775807:=by omega
 have n1:(c=k)=False:=eq_false (by omega)
 have n1b:(c=k + 1)=False:=eq_false (by omega)
 have n2:(k=l0.length)=False:=eq_false (by omega)
 have n3:((k:Int) == (l0.length:Int))=false:=by simp;omega
 have n4:IntKind.i64.wrap ((l0.length:Int) + 1)=(l0.length:Int) + 1:=by rw [IntKind.wrap_i64];omega
 have n6:IntKind.i64.wrap ((k:Int) + 1)=(k:Int) + 1:=by rw [IntKind.wrap_i64];omega
 have n7:k≤l0.length:=by omega
 have n8:decide ((c:Int) < (l0.length:Int) + 1)=false:=decide_eq_false (by omega)
 have n9:(0:Int)≤(l0.length:Int) + 1:=by omega
 have n10:(l0.length:Int) + 1≤(c:Int):=by omega
 have n11:((l0.length:Int) + 1).toNat=l0.length + 1:=by omega
 have n12:((k:Int) + 1).toNat=k + 1:=by omega
 have n13:(0:Int)≤(k:Int) + 1:=by omega
 have n14:(k:Int)≤(l0.length:Int) + 1:=by omega
 have n15:k≤l0.length + 1:=by omega
 have n16:l0.length + 1≤c:=by omega
 have mixed:Tryz.prog.follows Departure.mixedOrders=true:=by kernel_rfl
 clear hR2 hB2 HO HV hb hbase hne hk hc hlim
 go_enter Tryz.func39,Tryz.ntmps39
 go_wp2_with (simp only [hov])
 go_region_law_o (refine impl_AddWant.scopy rfl _ _ 28 28 rfl _ _ (by simp [Act.eval,Act.put]) (by simp [Act.eval,Act.put]) (hcp1 _ _ _) ?_)
 go_wp2_with (at_builtin;refine impl_AddWant.wcopy _ rfl _ _ 28 28 rfl _ _ rfl rfl (hcp2 _ _) ?_)
 go_ret
 exact ⟨_,rfl,HR2.out,HB2.out⟩
set_option maxHeartbeats 4000000 in
theorem impl_AddWant.ins (base c gv cv k:Nat) (l0:List S39) (x:S39) (ok okv:Nat→Prop) (w0 w:World) (hlim:l0.length < 4398046511104) (A:Option Addr) (hk:k≤l0.length) (hne:∀ q,(Value.slice A l0.length c).ownBlock=some q→gv≠q)
  (HO:Kd.R k39 39 w base ok (.slice A l0.length c) l0) (HV:Kd.R k39 39 w base okv (.slice (some ⟨gv,0,none⟩) 1 cv) [x]) (hb:Below base w0 w) (hbase:base≤w.heap.size) :
  Calls Tryz.prog 39 #[.slice A l0.length c,.int .i64 (k:Int),.slice (some ⟨gv,0,none⟩) 1 cv] w fun e w'=>∃ v0_:Value,e=.returned v0_∧Kd.R k39 39 w' base (fun _=>True) v0_ (l0.take k ++ [x] ++ l0.drop k)∧Below base w0 w':=by
 by_cases hkl:k=l0.length
 ·
  subst hkl
  rw [List.take_length,List.drop_length,List.append_nil]
  exact impl_AddWant.at_end base c gv cv l0 x ok okv w0 w (by omega) A HO HV hb hbase
 ·
  obtain ⟨g,cap,he,_,_,_⟩:=Kd.R_form HO (by omega)
  injection he with ha _ hcc
  subst ha;subst hcc
  have hg:=hne g (by simp [Value.ownBlock])
  have hc:=(Kd.R_reads' HO).2.1
  by_cases hcl:c=l0.length
  ·
   subst hcl
   exact impl_AddWant.at_grow base g gv cv k l0 x ok okv w0 w hlim (by omega) hg HO HV hb hbase
  ·
   exact impl_AddWant.at_room base g c gv cv k l0 x ok okv w0 w (by omega) (by omega) (by omega) hg HO HV hb hbase
def impl_AddWant.q (id:Int) (x:S39):Bool:=decide (x.f0=id)
set_option maxHeartbeats 400000 in
set_option maxRecDepth 100000 in
theorem impl_AddWant.clo (id:Int) (g:Nat) (x:S39) (w:World) (hc:w.cell? ⟨g,0,none⟩=some (.int .i64 id)) :
  Calls Tryz.prog 38 #[.agg #[.int .i64 x.f0,.int .i64 x.f1],.pointer (some ⟨g,0,none⟩)] w fun e w'=>e=.returned (.bool (impl_AddWant.q id x))∧Below w.heap.size w w':=by
 have hu:=Tryz.underlying39
 have hg:g < w.heap.size:=World.block_lt_of_cell? w _ hc
 go_enter Tryz.func38,Tryz.ntmps38
 go_wp2
 go_ret
 exact ⟨by unfold impl_AddWant.q;first|rfl|simp,(Below.refl _ _).alloc (Nat.le_refl _) _⟩
def impl_AddWant.ix (id:Int):List S39→Int→Int
 | [],_=>-1
 | x::l,i=>if impl_AddWant.q id x=true then i else impl_AddWant.ix id l (i + 1)
theorem impl_AddWant.ix_hit (id:Int):∀ (l:List S39) (i:Int) (m:Nat) (hm:m < l.length),(∀ j (hj:j < m),impl_AddWant.q id (l[j]'(by omega))=false)→impl_AddWant.q id l[m]=true→impl_AddWant.ix id l i=i + m
 | [],i,m,hm,_,_=>absurd hm (by simp)
 | p::l,i,0,hm,_,h=>by
  unfold impl_AddWant.ix
  rw [if_pos (show impl_AddWant.q id p=true from h)]
  simp
 | p::l,i,m + 1,hm,hne,h=>by
  unfold impl_AddWant.ix
  have h2:impl_AddWant.q id p=false:=hne 0 (by omega)
  rw [if_neg (by rw [h2];decide),impl_AddWant.ix_hit id l (i + 1) m (by simpa using hm) (fun j hj=>hne (j + 1) (by omega)) h]
  omega
theorem impl_AddWant.ix_miss (id:Int):∀ (l:List S39) (i:Int),(∀ j (hj:j < l.length),impl_AddWant.q id l[j]=false)→impl_AddWant.ix id l i=-1
 | [],i,_=>rfl
 | p::l,i,h=>by
  unfold impl_AddWant.ix
  have h2:impl_AddWant.q id p=false:=h 0 (by simp)
  rw [if_neg (by rw [h2];decide),impl_AddWant.ix_miss id l (i + 1) (fun j hj=>h (j + 1) (by simpa using hj))]
theorem impl_AddWant.rd_ (l:List S39) (j:Nat) (hj:j < l.length):rd_T39 l (j:Int)=l[j]:=by
 unfold rd_T39;simp [List.getD_eq_getElem?_getD,List.getElem?_eq_getElem hj]
set_option maxHeartbeats 4000000 in
set_option maxRecDepth 100000 in
theorem impl_AddWant.idx (id:Int) (g:Nat) (A0:Option Addr) (c0:Nat) (l0:List S39) (w:World) (hr0:Kd.C k39 w A0 l0.length l0) (hc0:l0.length≤c0) (hc:w.cell? ⟨g,0,none⟩=some (.int .i64 id)) :
  Calls Tryz.prog 51 #[.slice A0 l0.length c0,.func (.func 38) #[] #[.pointer (some ⟨g,0,none⟩)]] w fun e w'=>e=.returned (.int .i64 (impl_AddWant.ix id l0 0))∧Below w.heap.size w w':=by
 have hu:=Tryz.underlying39
 have HC:=Aside0.mk hc
 clear hc
 have HR0:=Aside0.mk hr0
 have HC0:=Aside0.mk hc0
 have hlen:l0.length≤9223372036854775807:=hr0.2.1
 clear hr0 hc0
 have HB:=Aside0.mk (Below.refl w.heap.size w)
 go_enter Tryz.func51,Tryz.ntmps51
 go_wp2
 go_loopg [5,8] l0.length (fun gg v5 v8 w'=>∃ kk:Nat,v8=.int .i64 kk∧Aside0 (kk≤l0.length)∧Aside0 (l0.length - kk≤gg)∧Aside0 (Below w.heap.size w w')∧Aside0 (∀ j (hj:j < kk) (hl:j < l0.length),impl_AddWant.q id l0[j]=false))
 case atStart=>exact ⟨0,rfl,⟨Nat.zero_le _⟩,⟨by omega⟩,HB,⟨fun j hj=>absurd hj (Nat.not_lt_zero _)⟩⟩
 case round =>
  clear HB
  obtain ⟨kk,rfl,hk,hg,HB,HA⟩:=hrel
  by_cases hlt:kk < l0.length
  ·
   have hltz:decide ((kk:Int) < (l0.length:Int))=true:=decide_eq_true (by omega)
   have hltn:decide (kk < l0.length)=true:=decide_eq_true hlt
   have p0:(0:Int)≤(kk:Int):=by omega
   have q0:(kk:Int) < (l0.length:Int):=by omega
   have HE:=Aside0.mk (impl_AddWant.rd_ l0 kk hlt)
   obtain ⟨ad,e1,hx0,hx1⟩:=at_T39 HR0.out (kk:Int) p0 q0
   cases e1
   rw [Int.toNat_natCast] at hx0 hx1
   replace hx0:=hC HB hx0
   replace hx1:=hC HB hx1
   replace p0:=eq_true p0
   replace q0:=eq_true q0
   have hcl:=fun (w':World) (hb:Below w.heap.size w w')=>impl_AddWant.clo id g (rd_T39 l0 (kk:Int)) w' ((hb.cell (World.block_lt_of_cell? w _ HC.out)).trans HC.out)
   cases hq:impl_AddWant.q id (rd_T39 l0 (kk:Int)) with
   | true =>
    rw [hq] at hcl
    have HCL:=Aside0.mk hcl
    have HQ:=Aside0.mk hq
    clear hcl hq
    go_wp2_with (go_at_call 38;refine (HCL.out _ HB.out).mono ?_;rintro e w1 ⟨rfl,hb1⟩)
    go_ret
    refine ⟨?_,below_step HB.out hb1⟩
    have hq:=HQ.out
    rw [HE.out] at hq
    rw [impl_AddWant.ix_hit id l0 0 kk hlt (fun j hj=>HA.out j hj (by omega)) hq,Int.zero_add]
    rfl
   | false =>
    rw [hq] at hcl
    have HCL:=Aside0.mk hcl
    have HQ:=Aside0.mk hq
    clear hcl hq
    go_wp2_with (go_at_call 38;refine (HCL.out _ HB.out).mono ?_;rintro e w1 ⟨rfl,hb1⟩)
    go_roundg (l0.length - (kk + 1))
    case measure=>have:=hg.out;omega
    case rel =>
     refine ⟨kk + 1,by go_num,⟨by omega⟩,⟨by omega⟩,⟨below_step HB.out hb1⟩,⟨fun j hj hl=>?_⟩⟩
     rcases Nat.lt_or_ge j kk with h3|h3
     ·
      exact HA.out j h3 hl
     ·
      have h4:j=kk:=by omega
      subst h4
      rw [← HE.out]
      exact HQ.out
  ·
   have hge:decide ((kk:Int) < (l0.length:Int))=false:=decide_eq_false (by omega)
   have hgen:decide (kk < l0.length)=false:=decide_eq_false hlt
   go_wp2
   go_ret
   refine ⟨?_,HB.out⟩
   rw [impl_AddWant.ix_miss id l0 0 (fun j hj=>HA.out j (by omega) hj)]
   rfl
def impl_AddWant.pos (id:Int):List S39→Nat
 | []=>0
 | x::l=>if x.f0 < id then impl_AddWant.pos id l + 1 else 0
theorem impl_AddWant.pos_of (id:Int):∀ (l:List S39) (n:Nat) (hn:n≤l.length),(∀ j (hj:j < n),(l[j]'(by omega)).f0 < id)→(n=l.length∨∃ h:n < l.length,¬ l[n].f0 < id)→impl_AddWant.pos id l=n
 | [],n,hn,_,_=>by simp at hn;simp [impl_AddWant.pos,hn]
 | x::l,0,hn,_,h=>by
  rcases h with h|⟨h1,h2⟩
  ·
   simp at h
  ·
   have h3:¬ x.f0 < id:=h2
   unfold impl_AddWant.pos
   rw [if_neg h3]
 | x::l,n + 1,hn,ha,h=>by
  have h0:x.f0 < id:=ha 0 (by omega)
  unfold impl_AddWant.pos
  rw [if_pos h0,impl_AddWant.pos_of id l n (by simpa using hn) (fun j hj=>ha (j + 1) (by omega)) (by
   rcases h with h|⟨h1,h2⟩
   ·
    exact .inl (by simpa using h)
   ·
    exact .inr ⟨by simpa using h1,h2⟩)]
set_option maxHeartbeats 400000 in
set_option maxRecDepth 100000 in
theorem impl_AddWant.cont (id:Int) (g:Nat) (A0:Option Addr) (c0:Nat) (l0:List S39) (w:World) (hr0:Kd.C k39 w A0 l0.length l0) (hc0:l0.length≤c0) (hc:w.cell? ⟨g,0,none⟩=some (.int .i64 id)) :
  Calls Tryz.prog 30 #[.slice A0 l0.length c0,.func (.func 38) #[] #[.pointer (some ⟨g,0,none⟩)]] w fun e w'=>e=.returned (.bool (decide (0≤impl_AddWant.ix id l0 0)))∧Below w.heap.size w w':=by
 have HR0:=Aside0.mk hr0
 have HC0:=Aside0.mk hc0
 have HC:=Aside0.mk hc
 clear hr0 hc0 hc
 go_enter Tryz.func30,Tryz.ntmps30
 go_wp2_with (go_at_call 51;refine (impl_AddWant.idx id g A0 c0 l0 _ HR0.out HC0.out HC.out).mono ?_;rintro e w1 ⟨rfl,hb1⟩)
 go_ret
 exact ⟨rfl,hb1⟩
def impl_AddWant.f (k:Nat) (l0:List S58) (l1:List S39) (a2:Int):Option (List S39 × Bool) :=
 if l1.length < 4398046511104 then (if 0≤impl_AddWant.ix a2 l1 0 then some (l1,false)
  else ((impl_AreWants.f k l0 (l1.take (impl_AddWant.pos a2 l1) ++ [⟨a2,0⟩] ++ l1.drop (impl_AddWant.pos a2 l1))).bind fun b=>if b=true then some (l1.take (impl_AddWant.pos a2 l1) ++ [⟨a2,0⟩] ++ l1.drop (impl_AddWant.pos a2 l1),true) else some (l1,false))) else none
theorem impl_AddWant.mono:∀ a0 a1 a2 k,LeO (impl_AddWant.f k a0 a1 a2) (impl_AddWant.f (k + 1) a0 a1 a2):=by
 intro a0 a1 a2 k
 unfold impl_AddWant.f
 refine LeO.ite (LeO.ite (LeO.refl _) (LeO.bind (impl_AreWants.mono _ _ _) (fun _=>LeO.refl _))) (LeO.none _)
set_option maxHeartbeats 8000000 in
set_option maxRecDepth 100000 in
theorem impl_AddWant.calls (k:Nat) (A0:Option Addr) (c0:Nat) (l0:List S58) (A1:Option Addr) (c1:Nat) (l1:List S39) (a2:Int) (r1:List S39) (r2:Bool) (w:World) (hr0:Kd.C k58 w A0 l0.length l0) (hc0:l0.length≤c0) (hr1:Kd.C k39 w A1 l1.length l1) (hc1:l1.length≤c1) (h:impl_AddWant.f k l0 l1 a2=some (r1,r2)) :
  Calls Tryz.prog 18 #[.slice A0 l0.length c0,.slice A1 l1.length c1,.int .i64 a2] w fun e w'=>∃ v0_:Value,e=.returned (.tuple #[v0_,.bool r2])∧Kd.R k39 39 w' w.heap.size (fun _=>True) v0_ r1∧Below w.heap.size w w':=by
 have hu:=Tryz.underlying39
 have HR0:=Aside0.mk hr0
 have HC0:=Aside0.mk hc0
 have HR1:=Aside0.mk hr1
 have HC1:=Aside0.mk hc1
 have hlen:l1.length≤9223372036854775807:=hr1.2.1
 have mixed:Tryz.prog.follows Departure.mixedOrders=true:=by kernel_rfl
 clear hr0 hc0 hr1 hc1
 unfold impl_AddWant.f at h
 have hlim:=ifN h
 replace h:=ifT h
 have HL:=Aside0.mk hlim
 have hcl:impl_Want_21.f l1=some l1:=by
  unfold impl_Want_21.f
  exact if_pos (by omega)
 have HCL:=Aside0.mk hcl
 by_cases hq:0≤impl_AddWant.ix a2 l1 0
 ·
  rw [if_pos hq] at h
  obtain ⟨rfl,rfl⟩:=Prod.mk.inj (Option.some.inj h)
  have hqd:decide (0≤impl_AddWant.ix a2 l1 0)=true:=decide_eq_true hq
  clear h hlim hcl hq
  go_enter Tryz.func18,Tryz.ntmps18
  go_wp2_with (first
   | (go_at_call 21;refine (impl_Want_21.calls A1 c1 l1 l1 _ ?s1 HC1.out HCL.out).mono ?_;(case s1=>exact Kd.C_alloc HR1.out _);rintro e w1 ⟨v1,rfl,ho1,hb1⟩;have HO1:=Aside0.mk ho1;have HB1:=Aside0.mk hb1;clear ho1 hb1)
   | (go_at_call 30;refine (impl_AddWant.cont a2 w.heap.size A1 c1 l1 _ ?s2 HC1.out ?s3).mono ?_;(case s2=>exact Kd.C_below (Kd.C_alloc HR1.out _) HB1.out);(case s3=>(rw [HB1.out.cell (by simp)];simp));rintro e w2 ⟨rfl,hb2⟩;have HB2:=Aside0.mk hb2;clear hb2))
  go_ret2
  exact ⟨_,rfl,Kd.R_below (Kd.R_lower HO1.out (by simp)) HB2.out,below_step (below_step (below_alloc (Below.refl _ _) _) HB1.out) HB2.out⟩
 ·
  have HH:=Aside0.mk h
  have HQ:=Aside0.mk hq
  have hqd:decide (0≤impl_AddWant.ix a2 l1 0)=false:=decide_eq_false hq
  clear h hlim hcl hq
  go_enter Tryz.func18,Tryz.ntmps18
  go_wp2_with (first
   | (go_at_call 21;refine (impl_Want_21.calls A1 c1 l1 l1 _ ?s1 HC1.out HCL.out).mono ?_;(case s1=>exact Kd.C_alloc HR1.out _);rintro e w1 ⟨v1,rfl,ho1,hb1⟩;obtain ⟨Ao,co,eo⟩:=Kd.R_slice ho1;subst eo;have HO1:=Aside0.mk ho1;have HB1:=Aside0.mk hb1;clear ho1 hb1)
   | (go_at_call 30;refine (impl_AddWant.cont a2 w.heap.size A1 c1 l1 _ ?s2 HC1.out ?s3).mono ?_;(case s2=>exact Kd.C_below (Kd.C_alloc HR1.out _) HB1.out);(case s3=>(rw [HB1.out.cell (by simp)];simp));rintro e w2 ⟨rfl,hb2⟩;have HB2:=Aside0.mk hb2;clear hb2))
  have B2:=Aside0.mk (below_step (below_step (below_alloc (Below.refl w.heap.size w) _) HB1.out) HB2.out)
  have O2:=Aside0.mk (Kd.R_below (Kd.R_lower HO1.out (show w.heap.size≤_ by simp)) HB2.out)
  have R2:=Aside0.mk (Kd.C_below HR1.out B2.out)
  have hx2:w2.cell? ⟨w.heap.size,0,none⟩=some (.int .i64 a2):=by
   have h1:=HB1.out.cell (p:=⟨w.heap.size,0,none⟩) (by simp)
   have h2:=HB2.out.cell (p:=⟨w.heap.size,0,none⟩) (by have:=HB1.out.size;simp at this;show w.heap.size < _;omega)
   rw [h2,h1]
   simp
  have X2:=Aside0.mk hx2
  have HB:=Aside0.mk (Below.refl w2.heap.size w2)
  clear HO1 HB1 HB2 hx2
  go_loopg [9] l1.length (fun gg v9 w'=>∃ kk:Nat,v9=.int .i64 kk∧Aside0 (kk≤l1.length)∧Aside0 (l1.length - kk≤gg)∧Aside0 (Below w2.heap.size w2 w')∧Aside0 (∀ j (hj:j < kk) (hl:j < l1.length),l1[j].f0 < a2))
  case atStart=>exact ⟨0,rfl,⟨Nat.zero_le _⟩,⟨by omega⟩,HB,⟨fun j hj=>absurd hj (Nat.not_lt_zero _)⟩⟩
  case round =>
   clear HB
   obtain ⟨kk,rfl,HK,hg,HB,HF⟩:=hrel
   have B3:=Aside0.mk (below_step B2.out HB.out)
   have O3:=Aside0.mk (Kd.R_below O2.out HB.out)
   have x3:=(HB.out.cell (World.block_lt_of_cell? w2 _ X2.out)).trans X2.out
   by_cases hlt:kk < l1.length
   ·
    have hltz:decide ((kk:Int) < (l1.length:Int))=true:=decide_eq_true (by omega)
    have hltn:decide (kk < l1.length)=true:=decide_eq_true hlt
    have p0:(0:Int)≤(kk:Int):=by omega
    have q0:(kk:Int) < (l1.length:Int):=by omega
    have HE:=Aside0.mk (impl_AddWant.rd_ l1 kk hlt)
    obtain ⟨ad,e1,hx0,hx1⟩:=at_T39 R2.out (kk:Int) p0 q0
    cases e1
    rw [Int.toNat_natCast] at hx0 hx1
    replace hx0:=(HB.out.cell (World.block_lt_of_cell? w2 _ hx0)).trans hx0
    clear hx1
    replace p0:=eq_true p0
    replace q0:=eq_true q0
    by_cases hf:(rd_T39 l1 (kk:Int)).f0 < a2
    ·
     have hfd:decide ((rd_T39 l1 (kk:Int)).f0 < a2)=true:=decide_eq_true hf
     have HFF:=Aside0.mk hf
     clear hf
     go_wp2
     go_region
     go_wp2
     go_roundg (l1.length - (kk + 1))
     case measure=>have:=hg.out;omega
     case rel =>
      refine ⟨kk + 1,by go_num,⟨by omega⟩,⟨by omega⟩,⟨by first|exact HB.out|exact below_drew HB.out⟩,⟨fun j hj hl=>?_⟩⟩
      rcases Nat.lt_or_ge j kk with h3|h3
      ·
       exact HF.out j h3 hl
      ·
       have h4:j=kk:=by omega
       subst h4
       rw [← HE.out]
       exact HFF.out
    ·
     have hfd:decide ((rd_T39 l1 (kk:Int)).f0 < a2)=false:=decide_eq_false hf
     have HPOS:=Aside0.mk (impl_AddWant.pos_of a2 l1 kk HK.out (fun j hj=>HF.out j hj (by have:=HK.out;omega)) (.inr ⟨hlt,by rw [← HE.out];exact hf⟩))
     clear hf
     have V4:=Aside0.mk (show Kd.R k39 39 (wr.alloc (.cells #[.int .i64 a2,.int .i64 0] 39)).drew w.heap.size (fun _=>True) (.slice (some ⟨wr.heap.size,0,none⟩) 1 1) [(⟨a2,0⟩:S39)] from Kd.R_drew ⟨fun _ _=>trivial,[.int .i64 a2,.int .i64 0],World.ownsRow_lit wr _ 1 B3.out.size (by decide) rfl,Reps.c2 (show Kd.M k39 _ _ _ (⟨a2,0⟩:S39) [.int .i64 a2,.int .i64 0] from (k39_mkM _ _ _ (⟨a2,0⟩:S39))) (Reps.none _ _)⟩)
     have B4:=Aside0.mk (show Below w.heap.size w (wr.alloc (.cells #[.int .i64 a2,.int .i64 0] 39)).drew from below_drew (below_alloc B3.out _))
     have h:=HH.out
     rw [if_neg (show ¬ 0≤impl_AddWant.ix a2 l1 0 by have:=HQ.out;omega),HPOS.out] at h
     obtain ⟨L5,hL5⟩:∃ L,L=l1.take kk ++ [(⟨a2,0⟩:S39)] ++ l1.drop kk:=⟨_,rfl⟩
     rw [← hL5] at h
     have HL5:=Aside0.mk hL5
     clear hL5
     obtain ⟨b,ha,h⟩:=Option.bind_eq_some_iff.1 h
     cases b with
     | true =>
      rw [if_pos rfl] at h
      obtain ⟨rfl,rfl⟩:=Prod.mk.inj (Option.some.inj h)
      have HA:=Aside0.mk ha
      clear h ha
      go_wp2
      go_region
      go_wp2_with (first
       | (go_at_call 39;refine (impl_AddWant.ins w.heap.size co wr.heap.size 1 kk l1 ⟨a2,0⟩ (fun _=>True) (fun _=>True) w _ HL.out Ao HK.out ?t2 ?t3 ?t4 ?t5 ?t6).mono ?_;(case t2=>(intro q hq he;have h1:=Kd.R_lt O3.out q hq;omega));(case t3=>exact Kd.R_drew (Kd.R_alloc O3.out _));(case t4=>exact V4.out);(case t5=>exact B4.out);(case t6=>exact B4.out.size);rintro e w5 ⟨v5,rfl,ho5,hb5⟩;rw [← HL5.out] at ho5;obtain ⟨A5,c5,ev5,hc5,hr5⟩:=Kd.R_reads ho5;subst ev5;have O5:=Aside0.mk ho5;have B5:=Aside0.mk hb5;have R5:=Aside0.mk hr5;have C5:=Aside0.mk hc5;clear ho5 hb5 hr5 hc5)
       | (go_at_call 8;refine (impl_AreWants.calls k A0 c0 l0 A5 c5 L5 true _ (Kd.C_below HR0.out B5.out) HC0.out R5.out C5.out HA.out).mono ?_;rintro e w6 ⟨rfl,hb6⟩;have HB6:=Aside0.mk hb6;have B6:=Aside0.mk (below_step B5.out hb6);clear hb6)
       | (go_at_call 21;refine (impl_Want_21.calls _ c1 l1 l1 _ (Kd.C_below HR1.out B6.out) HC1.out HCL.out).mono ?_;rintro e w7 ⟨v7,rfl,ho7,hb7⟩;have O7:=Aside0.mk (Kd.R_lower ho7 B6.out.size);have B7:=Aside0.mk (below_step B6.out hb7);clear ho7 hb7))
      go_ret2
      exact ⟨_,rfl,Kd.R_below O5.out HB6.out,B6.out⟩
     | false =>
      rw [if_neg (by decide)] at h
      obtain ⟨rfl,rfl⟩:=Prod.mk.inj (Option.some.inj h)
      have HA:=Aside0.mk ha
      clear h ha
      go_wp2
      go_region
      go_wp2_with (first
       | (go_at_call 39;refine (impl_AddWant.ins w.heap.size co wr.heap.size 1 kk l1 ⟨a2,0⟩ (fun _=>True) (fun _=>True) w _ HL.out Ao HK.out ?t2 ?t3 ?t4 ?t5 ?t6).mono ?_;(case t2=>(intro q hq he;have h1:=Kd.R_lt O3.out q hq;omega));(case t3=>exact Kd.R_drew (Kd.R_alloc O3.out _));(case t4=>exact V4.out);(case t5=>exact B4.out);(case t6=>exact B4.out.size);rintro e w5 ⟨v5,rfl,ho5,hb5⟩;rw [← HL5.out] at ho5;obtain ⟨A5,c5,ev5,hc5,hr5⟩:=Kd.R_reads ho5;subst ev5;have O5:=Aside0.mk ho5;have B5:=Aside0.mk hb5;have R5:=Aside0.mk hr5;have C5:=Aside0.mk hc5;clear ho5 hb5 hr5 hc5)
       | (go_at_call 8;refine (impl_AreWants.calls k A0 c0 l0 A5 c5 L5 false _ (Kd.C_below HR0.out B5.out) HC0.out R5.out C5.out HA.out).mono ?_;rintro e w6 ⟨rfl,hb6⟩;have HB6:=Aside0.mk hb6;have B6:=Aside0.mk (below_step B5.out hb6);clear hb6)
       | (go_at_call 21;refine (impl_Want_21.calls _ c1 l1 l1 _ (Kd.C_below HR1.out B6.out) HC1.out HCL.out).mono ?_;rintro e w7 ⟨v7,rfl,ho7,hb7⟩;have O7:=Aside0.mk (Kd.R_lower ho7 B6.out.size);have B7:=Aside0.mk (below_step B6.out hb7);clear ho7 hb7))
      go_ret2
      exact ⟨_,rfl,O7.out,B7.out⟩
   ·
    have hge:decide ((kk:Int) < (l1.length:Int))=false:=decide_eq_false (by omega)
    have hgen:decide (kk < l1.length)=false:=decide_eq_false hlt
    have HPOS:=Aside0.mk (impl_AddWant.pos_of a2 l1 kk HK.out (fun j hj=>HF.out j hj (by have:=HK.out;omega)) (.inl (by have:=HK.out;omega)))
    have V4:=Aside0.mk (show Kd.R k39 39 (wr.alloc (.cells #[.int .i64 a2,.int .i64 0] 39)).drew w.heap.size (fun _=>True) (.slice (some ⟨wr.heap.size,0,none⟩) 1 1) [(⟨a2,0⟩:S39)] from Kd.R_drew ⟨fun _ _=>trivial,[.int .i64 a2,.int .i64 0],World.ownsRow_lit wr _ 1 B3.out.size (by decide) rfl,Reps.c2 (show Kd.M k39 _ _ _ (⟨a2,0⟩:S39) [.int .i64 a2,.int .i64 0] from (k39_mkM _ _ _ (⟨a2,0⟩:S39))) (Reps.none _ _)⟩)
    have B4:=Aside0.mk (show Below w.heap.size w (wr.alloc (.cells #[.int .i64 a2,.int .i64 0] 39)).drew from below_drew (below_alloc B3.out _))
    have h:=HH.out
    rw [if_neg (show ¬ 0≤impl_AddWant.ix a2 l1 0 by have:=HQ.out;omega),HPOS.out] at h
    obtain ⟨L5,hL5⟩:∃ L,L=l1.take kk ++ [(⟨a2,0⟩:S39)] ++ l1.drop kk:=⟨_,rfl⟩
    rw [← hL5] at h
    have HL5:=Aside0.mk hL5
    clear hL5
    obtain ⟨b,ha,h⟩:=Option.bind_eq_some_iff.1 h
    cases b with
    | true =>
     rw [if_pos rfl] at h
     obtain ⟨rfl,rfl⟩:=Prod.mk.inj (Option.some.inj h)
     have HA:=Aside0.mk ha
     clear h ha
     go_wp2
     go_region
     go_wp2_with (first
      | (go_at_call 39;refine (impl_AddWant.ins w.heap.size co wr.heap.size 1 kk l1 ⟨a2,0⟩ (fun _=>True) (fun _=>True) w _ HL.out Ao HK.out ?t2 ?t3 ?t4 ?t5 ?t6).mono ?_;(case t2=>(intro q hq he;have h1:=Kd.R_lt O3.out q hq;omega));(case t3=>exact Kd.R_drew (Kd.R_alloc O3.out _));(case t4=>exact V4.out);(case t5=>exact B4.out);(case t6=>exact B4.out.size);rintro e w5 ⟨v5,rfl,ho5,hb5⟩;rw [← HL5.out] at ho5;obtain ⟨A5,c5,ev5,hc5,hr5⟩:=Kd.R_reads ho5;subst ev5;have O5:=Aside0.mk ho5;have B5:=Aside0.mk hb5;have R5:=Aside0.mk hr5;have C5:=Aside0.mk hc5;clear ho5 hb5 hr5 hc5)
      | (go_at_call 8;refine (impl_AreWants.calls k A0 c0 l0 A5 c5 L5 true _ (Kd.C_below HR0.out B5.out) HC0.out R5.out C5.out HA.out).mono ?_;rintro e w6 ⟨rfl,hb6⟩;have HB6:=Aside0.mk hb6;have B6:=Aside0.mk (below_step B5.out hb6);clear hb6)
      | (go_at_call 21;refine (impl_Want_21.calls _ c1 l1 l1 _ (Kd.C_below HR1.out B6.out) HC1.out HCL.out).mono ?_;rintro e w7 ⟨v7,rfl,ho7,hb7⟩;have O7:=Aside0.mk (Kd.R_lower ho7 B6.out.size);have B7:=Aside0.mk (below_step B6.out hb7);clear ho7 hb7))
     go_ret2
     exact ⟨_,rfl,Kd.R_below O5.out HB6.out,B6.out⟩
    | false =>
     rw [if_neg (by decide)] at h
     obtain ⟨rfl,rfl⟩:=Prod.mk.inj (Option.some.inj h)
     have HA:=Aside0.mk ha
     clear h ha
     go_wp2
     go_region
     go_wp2_with (first
      | (go_at_call 39;refine (impl_AddWant.ins w.heap.size co wr.heap.size 1 kk l1 ⟨a2,0⟩ (fun _=>True) (fun _=>True) w _ HL.out Ao HK.out ?t2 ?t3 ?t4 ?t5 ?t6).mono ?_;(case t2=>(intro q hq he;have h1:=Kd.R_lt O3.out q hq;omega));(case t3=>exact Kd.R_drew (Kd.R_alloc O3.out _));(case t4=>exact V4.out);(case t5=>exact B4.out);(case t6=>exact B4.out.size);rintro e w5 ⟨v5,rfl,ho5,hb5⟩;rw [← HL5.out] at ho5;obtain ⟨A5,c5,ev5,hc5,hr5⟩:=Kd.R_reads ho5;subst ev5;have O5:=Aside0.mk ho5;have B5:=Aside0.mk hb5;have R5:=Aside0.mk hr5;have C5:=Aside0.mk hc5;clear ho5 hb5 hr5 hc5)
      | (go_at_call 8;refine (impl_AreWants.calls k A0 c0 l0 A5 c5 L5 false _ (Kd.C_below HR0.out B5.out) HC0.out R5.out C5.out HA.out).mono ?_;rintro e w6 ⟨rfl,hb6⟩;have HB6:=Aside0.mk hb6;have B6:=Aside0.mk (below_step B5.out hb6);clear hb6)
      | (go_at_call 21;refine (impl_Want_21.calls _ c1 l1 l1 _ (Kd.C_below HR1.out B6.out) HC1.out HCL.out).mono ?_;rintro e w7 ⟨v7,rfl,ho7,hb7⟩;have O7:=Aside0.mk (Kd.R_lower ho7 B6.out.size);have B7:=Aside0.mk (below_step B6.out hb7);clear ho7 hb7))
     go_ret2
     exact ⟨_,rfl,O7.out,B7.out⟩

/-! ### laws_FnAsked: function 3 -/
mutual
def laws_FnAsked.j0:Nat→List Int→List (S58)→List (S39)→List (S39)→Bool→List Int→Int→List Int→Int→List Int→Int→List Int→Int→Option (Bool)
 | 0,_,_,_,_,_,_,_,_,_,_,_,_,_=>none
 | k + 1,x0,x3,x5,x7,x37,x944000,x944001,x944002,x944003,x956000,x956001,x956002,x956003=>if x37=true then ((impl_IsControl.f k x3 x956000 x956001 x956002 x956003).bind fun t958=>(if t958=true then ((impl_AreWants.f k x3 x7).bind fun t959=>(if t959=true then (laws_FnAsked.j1 k x0 x3 x5 x7 (decide ((x7.length:Int) > (x5.length:Int))) x944000 x944001 x944002 x944003 x956000 x956001 x956002 x956003) else (laws_FnAsked.j1 k x0 x3 x5 x7 true x944000 x944001 x944002 x944003 x956000 x956001 x956002 x956003))) else (laws_FnAsked.j1 k x0 x3 x5 x7 true x944000 x944001 x944002 x944003 x956000 x956001 x956002 x956003))) else ((impl_EqualControls.f k x944000 x944001 x944002 x944003 x956000 x956001 x956002 x956003).bind fun t987=>(if t987=true then (laws_FnAsked.j4 k x0 ((x7.length:Int) != (x5.length:Int))) else (laws_FnAsked.j4 k x0 true)))
def laws_FnAsked.j1:Nat→List Int→List (S58)→List (S39)→List (S39)→Bool→List Int→Int→List Int→Int→List Int→Int→List Int→Int→Option (Bool)
 | 0,_,_,_,_,_,_,_,_,_,_,_,_,_=>none
 | k + 1,x0,x3,x5,x7,x54,x944000,x944001,x944002,x944003,x956000,x956001,x956002,x956003=>if x54=true then (none) else ((impl_LightsOf.f k x3 x956000 x956001 x956002 x956003).bind fun t960=>((laws_greens.f k x3 t960).bind fun t963=>(laws_FnAsked.l0 k x0 x3 x5 x7 t963 0 x944000 x944001 x944002 x944003)))
def laws_FnAsked.l0:Nat→List Int→List (S58)→List (S39)→List (S39)→List Int→Int→List Int→Int→List Int→Int→Option (Bool)
 | 0,_,_,_,_,_,_,_,_,_,_=>none
 | k + 1,x0,x3,x5,x7,x8,x9,x944000,x944001,x944002,x944003=>if x9 < (x7.length:Int) then (if 0≤x9 then ((laws_contains.f k x8 ((rd_T39 x7 x9).f0)).bind fun t967=>(if t967=true then (none) else (laws_FnAsked.l0 k x0 x3 x5 x7 x8 (wrap64 (x9 + 1)) x944000 x944001 x944002 x944003))) else (none)) else ((impl_MustChange.f k x3 x944000 x944001 x944002 x944003 x5).bind fun t968=>(if t968=true then ((impl_CanEnd.f k x3 x944000 x944001 x944002 x944003).bind fun t969=>(if t969=true then ((impl_NextStage.f k x3 x944000 x944001 x944002 x944003 x5).bind fun t970=>((impl_LongestWant.f k x5 x944000).bind fun t973=>((laws_contains.f k t970 t973).bind fun t974=>(laws_FnAsked.j3 k x0 (!t974))))) else (laws_FnAsked.j3 k x0 true))) else (laws_FnAsked.j3 k x0 false)))
def laws_FnAsked.j3:Nat→List Int→Bool→Option (Bool)
 | 0,_,_=>none
 | k + 1,x0,x94=>if x94=true then (none) else ((spec_DrawAddWant.f k x0).bind fun bt975=>((impl_AddWant.f k bt975.1 bt975.2.1 bt975.2.2).bind fun bt982=>(if bt982.2=true then ((impl_AreWants.f k bt975.1 bt982.1).bind fun t986=>(if t986=true then (if (bt982.1.length:Int)=(wrap64 ((bt975.2.1.length:Int) + 1)) then (some true) else (none)) else (none))) else (some ((bt982.1.length:Int) == (bt975.2.1.length:Int))))))
def laws_FnAsked.j4:Nat→List Int→Bool→Option (Bool)
 | 0,_,_=>none
 | k + 1,x0,x105=>if x105=true then (none) else ((spec_DrawAddWant.f k x0).bind fun bt988=>((impl_AddWant.f k bt988.1 bt988.2.1 bt988.2.2).bind fun bt995=>(if bt995.2=true then ((impl_AreWants.f k bt988.1 bt995.1).bind fun t999=>(if t999=true then (if (bt995.1.length:Int)=(wrap64 ((bt988.2.1.length:Int) + 1)) then (some true) else (none)) else (none))) else (some ((bt995.1.length:Int) == (bt988.2.1.length:Int))))))
end
def laws_FnAsked.f (k:Nat) (l0:List Int):Option (Bool):=(laws_big.f l0).bind fun t928=>(if t928=true then (some true) else ((spec_DrawStepAsk.f k l0).bind fun bt929=>((impl_StepAsk.f k bt929.1 bt929.2.1 bt929.2.2.1 bt929.2.2.2.1 bt929.2.2.2.2.1 bt929.2.2.2.2.2).bind fun bt944=>((impl_IsControl.f k bt929.1 bt929.2.1 bt929.2.2.1 bt929.2.2.2.1 bt929.2.2.2.2.1).bind fun t956=>(if t956=true then ((impl_AreWants.f k bt929.1 bt929.2.2.2.2.2).bind fun t957=>(laws_FnAsked.j0 k l0 bt929.1 bt929.2.2.2.2.2 bt944.2.2.2.2 t957 bt929.2.1 bt929.2.2.1 bt929.2.2.2.1 bt929.2.2.2.2.1 bt944.1 bt944.2.1 bt944.2.2.1 bt944.2.2.2.1)) else (laws_FnAsked.j0 k l0 bt929.1 bt929.2.2.2.2.2 bt944.2.2.2.2 false bt929.2.1 bt929.2.2.1 bt929.2.2.2.1 bt929.2.2.2.2.1 bt944.1 bt944.2.1 bt944.2.2.1 bt944.2.2.2.1))))))
theorem laws_FnAsked.mono_l:∀ k,(∀ y0 y1 y2 y3 y4 y5 y6 y7 y8 y9 y10 y11 y12,LeO (laws_FnAsked.j0 k y0 y1 y2 y3 y4 y5 y6 y7 y8 y9 y10 y11 y12) (laws_FnAsked.j0 (k + 1) y0 y1 y2 y3 y4 y5 y6 y7 y8 y9 y10 y11 y12))∧(∀ y0 y1 y2 y3 y4 y5 y6 y7 y8 y9 y10 y11 y12,LeO (laws_FnAsked.j1 k y0 y1 y2 y3 y4 y5 y6 y7 y8 y9 y10 y11 y12) (laws_FnAsked.j1 (k + 1) y0 y1 y2 y3 y4 y5 y6 y7 y8 y9 y10 y11 y12))∧(∀ y0 y1 y2 y3 y4 y5 y6 y7 y8 y9,LeO (laws_FnAsked.l0 k y0 y1 y2 y3 y4 y5 y6 y7 y8 y9) (laws_FnAsked.l0 (k + 1) y0 y1 y2 y3 y4 y5 y6 y7 y8 y9))∧(∀ y0 y1,LeO (laws_FnAsked.j3 k y0 y1) (laws_FnAsked.j3 (k + 1) y0 y1))∧(∀ y0 y1,LeO (laws_FnAsked.j4 k y0 y1) (laws_FnAsked.j4 (k + 1) y0 y1))
 | 0=>⟨fun _ _ _ _ _ _ _ _ _ _ _ _ _ r h=>by simp [laws_FnAsked.j0] at h,fun _ _ _ _ _ _ _ _ _ _ _ _ _ r h=>by simp [laws_FnAsked.j1] at h,fun _ _ _ _ _ _ _ _ _ _ r h=>by simp [laws_FnAsked.l0] at h,fun _ _ r h=>by simp [laws_FnAsked.j3] at h,fun _ _ r h=>by simp [laws_FnAsked.j4] at h⟩
 | k + 1=>by
  obtain ⟨ih0,ih1,ih2,ih3,ih4⟩:=laws_FnAsked.mono_l k;refine ⟨?_,?_,?_,?_,?_⟩
  ·intro y0 y1 y2 y3 y4 y5 y6 y7 y8 y9 y10 y11 y12;unfold laws_FnAsked.j0;repeat' first|(with_reducible first|exact LeO.refl _|exact LeO.none _|refine LeO.ite ?_ ?_|refine LeO.bind ?_ (fun _=>?_)|exact ih0 _ _ _ _ _ _ _ _ _ _ _ _ _|exact ih1 _ _ _ _ _ _ _ _ _ _ _ _ _|exact ih2 _ _ _ _ _ _ _ _ _ _|exact ih3 _ _|exact ih4 _ _|exact impl_AddWant.mono _ _ _ _|exact impl_AreWants.mono _ _ _|exact impl_CanEnd.mono _ _ _ _ _ _|exact impl_EqualControls.mono _ _ _ _ _ _ _ _ _|exact impl_IsControl.mono _ _ _ _ _ _|exact impl_LightsOf.mono _ _ _ _ _ _|exact impl_LongestWant.mono _ _ _|exact impl_MustChange.mono _ _ _ _ _ _ _|exact impl_NextStage.mono _ _ _ _ _ _ _|exact impl_StepAsk.mono _ _ _ _ _ _ _|exact laws_contains.mono _ _ _|exact laws_greens.mono _ _ _|exact spec_DrawAddWant.mono _ _|exact spec_DrawStepAsk.mono _ _)
  ·intro y0 y1 y2 y3 y4 y5 y6 y7 y8 y9 y10 y11 y12;unfold laws_FnAsked.j1;repeat' first|(with_reducible first|exact LeO.refl _|exact LeO.none _|refine LeO.ite ?_ ?_|refine LeO.bind ?_ (fun _=>?_)|exact ih0 _ _ _ _ _ _ _ _ _ _ _ _ _|exact ih1 _ _ _ _ _ _ _ _ _ _ _ _ _|exact ih2 _ _ _ _ _ _ _ _ _ _|exact ih3 _ _|exact ih4 _ _|exact impl_AddWant.mono _ _ _ _|exact impl_AreWants.mono _ _ _|exact impl_CanEnd.mono _ _ _ _ _ _|exact impl_EqualControls.mono _ _ _ _ _ _ _ _ _|exact impl_IsControl.mono _ _ _ _ _ _|exact impl_LightsOf.mono _ _ _ _ _ _|exact impl_LongestWant.mono _ _ _|exact impl_MustChange.mono _ _ _ _ _ _ _|exact impl_NextStage.mono _ _ _ _ _ _ _|exact impl_StepAsk.mono _ _ _ _ _ _ _|exact laws_contains.mono _ _ _|exact laws_greens.mono _ _ _|exact spec_DrawAddWant.mono _ _|exact spec_DrawStepAsk.mono _ _)
  ·intro y0 y1 y2 y3 y4 y5 y6 y7 y8 y9;unfold laws_FnAsked.l0;repeat' first|(with_reducible first|exact LeO.refl _|exact LeO.none _|refine LeO.ite ?_ ?_|refine LeO.bind ?_ (fun _=>?_)|exact ih0 _ _ _ _ _ _ _ _ _ _ _ _ _|exact ih1 _ _ _ _ _ _ _ _ _ _ _ _ _|exact ih2 _ _ _ _ _ _ _ _ _ _|exact ih3 _ _|exact ih4 _ _|exact impl_AddWant.mono _ _ _ _|exact impl_AreWants.mono _ _ _|exact impl_CanEnd.mono _ _ _ _ _ _|exact impl_EqualControls.mono _ _ _ _ _ _ _ _ _|exact impl_IsControl.mono _ _ _ _ _ _|exact impl_LightsOf.mono _ _ _ _ _ _|exact impl_LongestWant.mono _ _ _|exact impl_MustChange.mono _ _ _ _ _ _ _|exact impl_NextStage.mono _ _ _ _ _ _ _|exact impl_StepAsk.mono _ _ _ _ _ _ _|exact laws_contains.mono _ _ _|exact laws_greens.mono _ _ _|exact spec_DrawAddWant.mono _ _|exact spec_DrawStepAsk.mono _ _)
  ·intro y0 y1;unfold laws_FnAsked.j3;repeat' first|(with_reducible first|exact LeO.refl _|exact LeO.none _|refine LeO.ite ?_ ?_|refine LeO.bind ?_ (fun _=>?_)|exact ih0 _ _ _ _ _ _ _ _ _ _ _ _ _|exact ih1 _ _ _ _ _ _ _ _ _ _ _ _ _|exact ih2 _ _ _ _ _ _ _ _ _ _|exact ih3 _ _|exact ih4 _ _|exact impl_AddWant.mono _ _ _ _|exact impl_AreWants.mono _ _ _|exact impl_CanEnd.mono _ _ _ _ _ _|exact impl_EqualControls.mono _ _ _ _ _ _ _ _ _|exact impl_IsControl.mono _ _ _ _ _ _|exact impl_LightsOf.mono _ _ _ _ _ _|exact impl_LongestWant.mono _ _ _|exact impl_MustChange.mono _ _ _ _ _ _ _|exact impl_NextStage.mono _ _ _ _ _ _ _|exact impl_StepAsk.mono _ _ _ _ _ _ _|exact laws_contains.mono _ _ _|exact laws_greens.mono _ _ _|exact spec_DrawAddWant.mono _ _|exact spec_DrawStepAsk.mono _ _)
  ·intro y0 y1;unfold laws_FnAsked.j4;repeat' first|(with_reducible first|exact LeO.refl _|exact LeO.none _|refine LeO.ite ?_ ?_|refine LeO.bind ?_ (fun _=>?_)|exact ih0 _ _ _ _ _ _ _ _ _ _ _ _ _|exact ih1 _ _ _ _ _ _ _ _ _ _ _ _ _|exact ih2 _ _ _ _ _ _ _ _ _ _|exact ih3 _ _|exact ih4 _ _|exact impl_AddWant.mono _ _ _ _|exact impl_AreWants.mono _ _ _|exact impl_CanEnd.mono _ _ _ _ _ _|exact impl_EqualControls.mono _ _ _ _ _ _ _ _ _|exact impl_IsControl.mono _ _ _ _ _ _|exact impl_LightsOf.mono _ _ _ _ _ _|exact impl_LongestWant.mono _ _ _|exact impl_MustChange.mono _ _ _ _ _ _ _|exact impl_NextStage.mono _ _ _ _ _ _ _|exact impl_StepAsk.mono _ _ _ _ _ _ _|exact laws_contains.mono _ _ _|exact laws_greens.mono _ _ _|exact spec_DrawAddWant.mono _ _|exact spec_DrawStepAsk.mono _ _)
theorem laws_FnAsked.mono:∀ a0 k,LeO (laws_FnAsked.f k a0) (laws_FnAsked.f (k + 1) a0):=by
 intro a0 k;obtain ⟨ih0,ih1,ih2,ih3,ih4⟩:=laws_FnAsked.mono_l k;unfold laws_FnAsked.f;repeat' first|(with_reducible first|exact LeO.refl _|exact LeO.none _|refine LeO.ite ?_ ?_|refine LeO.bind ?_ (fun _=>?_)|exact ih0 _ _ _ _ _ _ _ _ _ _ _ _ _|exact ih1 _ _ _ _ _ _ _ _ _ _ _ _ _|exact ih2 _ _ _ _ _ _ _ _ _ _|exact ih3 _ _|exact ih4 _ _|exact impl_AddWant.mono _ _ _ _|exact impl_AreWants.mono _ _ _|exact impl_CanEnd.mono _ _ _ _ _ _|exact impl_EqualControls.mono _ _ _ _ _ _ _ _ _|exact impl_IsControl.mono _ _ _ _ _ _|exact impl_LightsOf.mono _ _ _ _ _ _|exact impl_LongestWant.mono _ _ _|exact impl_MustChange.mono _ _ _ _ _ _ _|exact impl_NextStage.mono _ _ _ _ _ _ _|exact impl_StepAsk.mono _ _ _ _ _ _ _|exact laws_contains.mono _ _ _|exact laws_greens.mono _ _ _|exact spec_DrawAddWant.mono _ _|exact spec_DrawStepAsk.mono _ _)
def laws_FnAsked.T14:Bool × List (List Nat × List Nat):=(true,[([],[]),([],[]),([],[]),([0,1,2],[0,1,2]),([3,3],[3]),([4],[4]),([4],[4]),([5,6,4,4],[4,5,6]),([7,4],[4,7]),([8,7,4],[4,8]),([9],[9]),([9],[9]),([9],[9]),([10,11,12,9,9],[9,10,11,12]),([9],[9]),([9],[9]),([15,9],[9,15]),([14,16,13,9],[9,14,16]),([13,17,17,9],[9,13,17]),([18,9],[9,18]),([9,19,4],[4,9,19]),([4,20],[4,20])])
def laws_FnAsked.B14:List Nat:=[0,0,0,7,15,31,31,127,255,511,1023,1023,1023,8191,1023,1023,33791,131071,262143,524287,1048575,2097151]
theorem laws_FnAsked.tab14:rtab .any (opsOf Tryz.f3 14)=laws_FnAsked.T14:=by kernel_rfl
theorem laws_FnAsked.bits14:waitsOk laws_FnAsked.T14.2 laws_FnAsked.B14=true:=by kernel_rfl
set_option maxHeartbeats 8000000 in
set_option maxRecDepth 100000 in
theorem laws_FnAsked.calls (k:Nat) (A0:Option Addr) (c0:Nat) (l0:List Int) (r:Bool) (w:World) (hr0:Kd.C (Kd.int .u8) w A0 l0.length l0) (hc0:l0.length≤c0) (h:laws_FnAsked.f k l0=some r) :
  Calls Tryz.prog 3 #[.slice A0 l0.length c0] w fun e w'=>e=.returned (.bool r)∧Below w.heap.size w w':=by
 have hu27:=Tryz.underlying27;have HR0:=am hr0;have HC0:=am hc0;clear hr0 hc0;have HB:=am (Below.refl w.heap.size w);unfold laws_FnAsked.f at h;have H:=h;clear h;obtain ⟨t928,A2,H⟩:=bindE H;try dsimp only at H
 by_cases c3:t928=true
 ·subst c3;rw [if_pos rfl] at H;obtain rfl:=oj H;go_enter Tryz.func3,Tryz.ntmps3;go_wp2_with (first|((with_reducible refine gc 4 ?_);refine gL (some 16) Tryz.func4 #[.slice A0 l0.length c0] ?_;(with_reducible refine (laws_big.calls _ _ l0 true _ ?_ ?_ A2.out).mono ?_);exact cO HR0;exact HC0.out;rintro e w' ⟨rfl,⟨nd,rfl⟩⟩;refine ⟨_,rfl,?_⟩));go_ret;exact ⟨rA,bA⟩
 replace c3:=Bool.eq_false_iff.mpr c3;subst c3;rw [if_neg Bool.false_ne_true] at H;obtain ⟨⟨t929,t932,t935,t936,t939,t940⟩,A4,H⟩:=bindE H;try dsimp only at H
 obtain ⟨⟨t944,t947,t948,t951,t952⟩,A5,H⟩:=bindE H;try dsimp only at H
 have HC6:=am H;clear H;go_enter Tryz.func3,Tryz.ntmps3;go_upto_region 5 with (first|((with_reducible refine gc 4 ?_);refine gL (some 16) Tryz.func4 #[.slice A0 l0.length c0] ?_;(with_reducible refine (laws_big.calls _ _ l0 false _ ?_ ?_ A2.out).mono ?_);exact cO HR0;exact HC0.out;rintro e w' ⟨rfl,⟨nd,rfl⟩⟩;refine ⟨_,rfl,?_⟩)|((with_reducible refine gc 5 ?_);refine gL (some 19) Tryz.func5 #[.slice A0 l0.length c0] ?_;(with_reducible refine (spec_DrawStepAsk.calls k _ _ l0 t929 t932 t935 t936 t939 t940 _ ?_ ?_ A4.out).mono ?_);exact cO HR0;exact HC0.out;rintro e w7 ⟨v930,v933,v937,v941,rfl,ho0,ho1,ho2,ho3,hb⟩;refine ⟨_,rfl,?_⟩;have HO931:=rl w ho0;have HO934:=rl w ho1;have HO938:=rl w ho2;have HO942:=rl w ho3;replace HB:=bs HB hb;(try clear hb);(try clear ho0);(try clear ho1);(try clear ho2);(try clear ho3))|((with_reducible refine gd 4 ?_);(try (refine gate_guard (by rfl) ?_;dsimp only));refine bF w 4 #[.slice none 0 0,.int .i64 0,.slice none 0 0,.int .i64 0] 27 ?_;rintro gb943 w8 BK943 GW943 GE943 hb hg;replace HO931:=rb HO931 hb;replace HO934:=rb HO934 hb;replace HO938:=rb HO938 hb;replace HO942:=rb HO942 hb;replace HB:=bs HB hb;clear hb hg;obtain ⟨Ao9,co9,eo9⟩:=Kd.R_slice HO934.out;subst eo9;obtain ⟨_,_,_,_,_,_,_,_⟩:=blkc4 BK943;obtain ⟨Ao11,co11,eo11⟩:=Kd.R_slice HO938.out;subst eo11;obtain ⟨Ao12,co12,eo12⟩:=Kd.R_slice HO931.out;subst eo12;obtain ⟨Ao13,co13,eo13⟩:=Kd.R_slice HO942.out;subst eo13)|((with_reducible refine gc 6 ?_);refine gL (some 27) Tryz.func6 #[.slice Ao12 t929.length co12,.agg #[.slice Ao9 t932.length co9,.int .i64 t935,.slice Ao11 t936.length co11,.int .i64 t939],.slice Ao13 t940.length co13] ?_;(with_reducible refine (impl_StepAsk.calls k _ _ t929 _ _ t932 t935 _ _ t936 t939 _ _ t940 t944 t947 t948 t951 t952 _ ?_ ?_ ?_ ?_ ?_ ?_ ?_ ?_ A5.out).mono ?_);(focus refine (Kd.R_reads' (e:=58) (base:=w.heap.size) (ok:=fun k_=>True) (n:=t929.length) (c:=co12) ?_).2.2;exact (rf HO931 BK943));exact (Kd.R_reads' HO931.out).2.1;(focus refine (Kd.R_reads' (e:=3) (base:=w.heap.size) (ok:=fun k_=>some k_≠(.slice Ao11 t936.length co11:Value).ownBlock) (n:=t932.length) (c:=co9) ?_).2.2;exact (rf HO934 BK943));exact (Kd.R_reads' HO934.out).2.1;(focus refine (Kd.R_reads' (e:=3) (base:=w.heap.size) (ok:=fun k_=>some k_≠(.slice Ao9 t932.length co9:Value).ownBlock) (n:=t936.length) (c:=co11) ?_).2.2;exact (rf HO938 BK943));exact (Kd.R_reads' HO938.out).2.1;(focus refine (Kd.R_reads' (e:=39) (base:=w.heap.size) (ok:=fun k_=>True) (n:=t940.length) (c:=co13) ?_).2.2;exact (rf HO942 BK943));exact (Kd.R_reads' HO942.out).2.1;rintro e w14 ⟨v945,v949,v953,rfl,ho0,ho1,ho2,hb⟩;refine ⟨_,rfl,?_⟩;replace HO931:=am (Kd.R_below (rf HO931 BK943) hb);have HO946:=rl w (Kd.R_new' (Kd.R_new' ho0 (Kd.R_lt (rf HO934 BK943))) (Kd.R_lt (rf HO938 BK943)));have HO950:=rl w (Kd.R_new' (Kd.R_new' ho1 (Kd.R_lt (rf HO934 BK943))) (Kd.R_lt (rf HO938 BK943)));replace HO934:=am (Kd.R_mono (Kd.R_told (Kd.R_told (Kd.R_old (rf HO934 BK943) hb) (Kd.R_base ho0)) (Kd.R_base ho1)) (fun _ h_=>h_.1));replace HO938:=am (Kd.R_mono (Kd.R_told (Kd.R_told (Kd.R_old (rf HO938 BK943) hb) (Kd.R_base ho0)) (Kd.R_base ho1)) (fun _ h_=>h_.1));have HO954:=rl w (Kd.R_new' ho2 (Kd.R_lt (rf HO942 BK943)));replace HO942:=am (Kd.R_elder' (rf HO942 BK943) (Kd.R_base ho2) hb);replace BK943:=kc (o:=.cells #[.slice Ao9 t932.length co9,.int .i64 t935,.slice Ao11 t936.length co11,.int .i64 t939] 27 (0,0)) (kp BK943) hb;replace HB:=bs HB hb;(try clear hb);(try clear ho0);(try clear ho1);(try clear ho2))|((with_reducible refine gd 6 ?_);(try (refine gate_guard (by rfl) ?_;dsimp only));refine bF w 6 #[.slice none 0 0,.int .i64 0,.slice none 0 0,.int .i64 0] 27 ?_;rintro gb955 w15 BK955 GW955 GE955 hb hg;replace HO931:=rb HO931 hb;replace HO934:=rb HO934 hb;replace HO938:=rb HO938 hb;replace HO942:=rb HO942 hb;replace HO946:=rb HO946 hb;replace HO950:=rb HO950 hb;replace HO954:=rb HO954 hb;replace HB:=bs HB hb;have NB943_955:=nl BK943 hg;have NB955_943:=nr BK943 hg;replace BK943:=kb BK943 hb;clear hb hg;obtain ⟨Ao16,co16,eo16⟩:=Kd.R_slice HO946.out;subst eo16;have hnb17:=NB955_943.out;have hnc17:=NB943_955.out;obtain ⟨_,_,_,_,_,_,_,_⟩:=blkc4 BK955;obtain ⟨Ao19,co19,eo19⟩:=Kd.R_slice HO950.out;subst eo19))
 (try simp only [Act.put,List.setIfInBounds_toArray,List.set_cons_zero,List.set_cons_succ]);go_cut [37] (fun v37 wc=>∃ (kq:Nat) (x37_5:Bool),v37=.bool x37_5∧Aside0 (laws_FnAsked.j0 kq l0 t929 t940 t952 x37_5 t932 t935 t936 t939 t944 t947 t948 t951=some r)∧Aside0 (kq≤k)∧Aside0 (Kd.R k58 58 wc w.heap.size (fun _=>True) (.slice Ao12 t929.length co12) t929)∧Aside0 (Kd.R k39 39 wc w.heap.size (n1 v953) (.slice Ao13 t940.length co13) t940)∧Aside0 (Kd.R k39 39 wc w.heap.size (n1 (.slice Ao13 t940.length co13)) v953 t952)∧Aside0 (Kd.R (Kd.int .i64) 3 wc w.heap.size (n3 (.slice Ao11 t936.length co11) (.slice Ao16 t944.length co16) (.slice Ao19 t948.length co19)) (.slice Ao9 t932.length co9) t932)∧Aside0 (Kd.R (Kd.int .i64) 3 wc w.heap.size (n3 (.slice Ao9 t932.length co9) (.slice Ao16 t944.length co16) (.slice Ao19 t948.length co19)) (.slice Ao11 t936.length co11) t936)∧Aside0 (Kd.R (Kd.int .i64) 3 wc w.heap.size (n3 (.slice Ao9 t932.length co9) (.slice Ao11 t936.length co11) (.slice Ao19 t948.length co19)) (.slice Ao16 t944.length co16) t944)∧Aside0 (Kd.R (Kd.int .i64) 3 wc w.heap.size (n3 (.slice Ao9 t932.length co9) (.slice Ao11 t936.length co11) (.slice Ao16 t944.length co16)) (.slice Ao19 t948.length co19) t948)∧Aside0 (wc.heap[gb943]?=some (.cells #[(.slice Ao9 t932.length co9),.int .i64 t935,(.slice Ao11 t936.length co11),.int .i64 t939] 27 (0,0)))∧Aside0 (wc.heap[gb955]?=some (.cells #[(.slice Ao16 t944.length co16),.int .i64 t947,(.slice Ao19 t948.length co19),.int .i64 t951] 27 (0,0)))∧Aside0 (Below w.heap.size w wc))
 case first =>
  have H:=HC6.out;clear HC6;obtain ⟨t956,A20,H⟩:=bindE H;try dsimp only at H
  by_cases c21:t956=true
  ·subst c21;rw [if_pos rfl] at H;obtain ⟨t957,A22,H⟩:=bindE H;try dsimp only at H
   have H':=am H;clear H;have hnb23:=NB943_955.out;have hnc23:=NB955_943.out;obtain ⟨_,_,_,_,_,_,_,_⟩:=blkc4 BK943;go_wp2_with (first|((with_reducible refine gc 7 ?_);refine gL (some 32) Tryz.func7 #[.slice Ao12 t929.length co12,.agg #[.slice Ao9 t932.length co9,.int .i64 t935,.slice Ao11 t936.length co11,.int .i64 t939]] ?_;(with_reducible refine (impl_IsControl.calls k _ _ t929 _ _ t932 t935 _ _ t936 t939 true _ ?_ ?_ ?_ ?_ ?_ ?_ A20.out).mono ?_);(focus refine (Kd.R_reads' (e:=58) (base:=w.heap.size) (ok:=fun k_=>True) (n:=t929.length) (c:=co12) ?_).2.2;exact (rf HO931 BK955));exact (Kd.R_reads' HO931.out).2.1;(focus refine (Kd.R_reads' (e:=3) (base:=w.heap.size) (ok:=fun k_=>((some k_≠(.slice Ao11 t936.length co11:Value).ownBlock∧some k_≠(.slice Ao16 t944.length co16:Value).ownBlock)∧some k_≠(.slice Ao19 t948.length co19:Value).ownBlock)) (n:=t932.length) (c:=co9) ?_).2.2;exact (rf HO934 BK955));exact (Kd.R_reads' HO934.out).2.1;(focus refine (Kd.R_reads' (e:=3) (base:=w.heap.size) (ok:=fun k_=>((some k_≠(.slice Ao9 t932.length co9:Value).ownBlock∧some k_≠(.slice Ao16 t944.length co16:Value).ownBlock)∧some k_≠(.slice Ao19 t948.length co19:Value).ownBlock)) (n:=t936.length) (c:=co11) ?_).2.2;exact (rf HO938 BK955));exact (Kd.R_reads' HO938.out).2.1;rintro e w25 ⟨rfl,hb⟩;refine ⟨_,rfl,?_⟩;replace HO931:=am (Kd.R_below (rf HO931 BK955) hb);replace HO934:=am (Kd.R_below (rf HO934 BK955) hb);replace HO938:=am (Kd.R_below (rf HO938 BK955) hb);replace HO942:=am (Kd.R_below (rf HO942 BK955) hb);replace HO946:=am (Kd.R_below (rf HO946 BK955) hb);replace HO950:=am (Kd.R_below (rf HO950 BK955) hb);replace HO954:=am (Kd.R_below (rf HO954 BK955) hb);replace BK943:=kc (kf BK943 NB943_955) hb;replace BK955:=kc (o:=.cells #[.slice Ao16 t944.length co16,.int .i64 t947,.slice Ao19 t948.length co19,.int .i64 t951] 27 (0,0)) (kp BK955) hb;replace HB:=bs HB hb;(try clear hb))|(go_at_call 8;(with_reducible refine (impl_AreWants.calls k _ _ t929 _ _ t940 t957 _ ?_ ?_ ?_ ?_ A22.out).mono ?_);exact cO ⟨(Kd.R_reads' HO931.out).2.2⟩;exact (Kd.R_reads' HO931.out).2.1;exact cO ⟨(Kd.R_reads' HO942.out).2.2⟩;exact (Kd.R_reads' HO942.out).2.1;rintro e w26 ⟨rfl,hb⟩;replace HO931:=rb HO931 hb;replace HO934:=rb HO934 hb;replace HO938:=rb HO938 hb;replace HO942:=rb HO942 hb;replace HO946:=rb HO946 hb;replace HO950:=rb HO950 hb;replace HO954:=rb HO954 hb;replace BK943:=kb BK943 hb;replace BK955:=kb BK955 hb;replace HB:=bs HB hb;(try clear hb)))
   go_meet
   case rel=>exact ⟨_,(t957),rS,H',⟨oL⟩,⟨rK HO931⟩,⟨rm HO942 (fun _ hk=>hk.2)⟩,⟨rm HO954 (fun _ hk=>hk.2)⟩,⟨rm HO934 (fun _ hk=>⟨hk.1.1,⟨hk.1.2,hk.2⟩⟩)⟩,⟨rm HO938 (fun _ hk=>⟨hk.1.1,⟨hk.1.2,hk.2⟩⟩)⟩,⟨rm HO946 (fun _ hk=>⟨hk.1.2,⟨hk.2,hk.1.1⟩⟩)⟩,⟨rm HO950 (fun _ hk=>⟨hk.1.2,⟨hk.2,hk.1.1⟩⟩)⟩,⟨bK BK943⟩,⟨bK BK955⟩,⟨bG⟩⟩
  replace c21:=Bool.eq_false_iff.mpr c21;subst c21;rw [if_neg Bool.false_ne_true] at H;have H':=am H;clear H;have hnb27:=NB943_955.out;have hnc27:=NB955_943.out;obtain ⟨_,_,_,_,_,_,_,_⟩:=blkc4 BK943;go_wp2_with (first|((with_reducible refine gc 7 ?_);refine gL (some 32) Tryz.func7 #[.slice Ao12 t929.length co12,.agg #[.slice Ao9 t932.length co9,.int .i64 t935,.slice Ao11 t936.length co11,.int .i64 t939]] ?_;(with_reducible refine (impl_IsControl.calls k _ _ t929 _ _ t932 t935 _ _ t936 t939 false _ ?_ ?_ ?_ ?_ ?_ ?_ A20.out).mono ?_);(focus refine (Kd.R_reads' (e:=58) (base:=w.heap.size) (ok:=fun k_=>True) (n:=t929.length) (c:=co12) ?_).2.2;exact (rf HO931 BK955));exact (Kd.R_reads' HO931.out).2.1;(focus refine (Kd.R_reads' (e:=3) (base:=w.heap.size) (ok:=fun k_=>((some k_≠(.slice Ao11 t936.length co11:Value).ownBlock∧some k_≠(.slice Ao16 t944.length co16:Value).ownBlock)∧some k_≠(.slice Ao19 t948.length co19:Value).ownBlock)) (n:=t932.length) (c:=co9) ?_).2.2;exact (rf HO934 BK955));exact (Kd.R_reads' HO934.out).2.1;(focus refine (Kd.R_reads' (e:=3) (base:=w.heap.size) (ok:=fun k_=>((some k_≠(.slice Ao9 t932.length co9:Value).ownBlock∧some k_≠(.slice Ao16 t944.length co16:Value).ownBlock)∧some k_≠(.slice Ao19 t948.length co19:Value).ownBlock)) (n:=t936.length) (c:=co11) ?_).2.2;exact (rf HO938 BK955));exact (Kd.R_reads' HO938.out).2.1;rintro e w29 ⟨rfl,hb⟩;refine ⟨_,rfl,?_⟩;replace HO931:=am (Kd.R_below (rf HO931 BK955) hb);replace HO934:=am (Kd.R_below (rf HO934 BK955) hb);replace HO938:=am (Kd.R_below (rf HO938 BK955) hb);replace HO942:=am (Kd.R_below (rf HO942 BK955) hb);replace HO946:=am (Kd.R_below (rf HO946 BK955) hb);replace HO950:=am (Kd.R_below (rf HO950 BK955) hb);replace HO954:=am (Kd.R_below (rf HO954 BK955) hb);replace BK943:=kc (kf BK943 NB943_955) hb;replace BK955:=kc (o:=.cells #[.slice Ao16 t944.length co16,.int .i64 t947,.slice Ao19 t948.length co19,.int .i64 t951] 27 (0,0)) (kp BK955) hb;replace HB:=bs HB hb;(try clear hb)))
  go_meet
  case rel=>exact ⟨_,(false),rS,H',⟨oL⟩,⟨rK HO931⟩,⟨rm HO942 (fun _ hk=>hk.2)⟩,⟨rm HO954 (fun _ hk=>hk.2)⟩,⟨rm HO934 (fun _ hk=>⟨hk.1.1,⟨hk.1.2,hk.2⟩⟩)⟩,⟨rm HO938 (fun _ hk=>⟨hk.1.1,⟨hk.1.2,hk.2⟩⟩)⟩,⟨rm HO946 (fun _ hk=>⟨hk.1.2,⟨hk.2,hk.1.1⟩⟩)⟩,⟨rm HO950 (fun _ hk=>⟨hk.1.2,⟨hk.2,hk.1.1⟩⟩)⟩,⟨bK BK943⟩,⟨bK BK955⟩,⟨bG⟩⟩
 case rest =>
  clear HC6;obtain ⟨kq,x37_5,rfl,HA,HJ5,HO_3,HO_5,HO_7,HO_944000,HO_944002,HO_956000,HO_956002,BK943,BK955,HB⟩:=hcut
  cases kq with
  | zero=>exact absurd HA.out (by simp [laws_FnAsked.j0])
  | succ kj5 =>
   have H:=HA.out;clear HA;simp only [laws_FnAsked.j0] at H;by_cases c30:x37_5=true
   ·subst c30;rw [if_pos rfl] at H;have HC31:=am H;clear H;go_upto_region 6 with (fail);go_cut [54] (fun v54 wc=>∃ (kq:Nat) (x54_30:Bool),v54=.bool x54_30∧Aside0 (laws_FnAsked.j1 kq l0 t929 t940 t952 x54_30 t932 t935 t936 t939 t944 t947 t948 t951=some r)∧Aside0 (kq≤kj5)∧Aside0 (Kd.R k58 58 wc w.heap.size (fun _=>True) (.slice Ao12 t929.length co12) t929)∧Aside0 (Kd.R k39 39 wc w.heap.size (n1 v953) (.slice Ao13 t940.length co13) t940)∧Aside0 (Kd.R k39 39 wc w.heap.size (n1 (.slice Ao13 t940.length co13)) v953 t952)∧Aside0 (Kd.R (Kd.int .i64) 3 wc w.heap.size (n3 (.slice Ao11 t936.length co11) (.slice Ao16 t944.length co16) (.slice Ao19 t948.length co19)) (.slice Ao9 t932.length co9) t932)∧Aside0 (Kd.R (Kd.int .i64) 3 wc w.heap.size (n3 (.slice Ao9 t932.length co9) (.slice Ao16 t944.length co16) (.slice Ao19 t948.length co19)) (.slice Ao11 t936.length co11) t936)∧Aside0 (Kd.R (Kd.int .i64) 3 wc w.heap.size (n3 (.slice Ao9 t932.length co9) (.slice Ao11 t936.length co11) (.slice Ao19 t948.length co19)) (.slice Ao16 t944.length co16) t944)∧Aside0 (Kd.R (Kd.int .i64) 3 wc w.heap.size (n3 (.slice Ao9 t932.length co9) (.slice Ao11 t936.length co11) (.slice Ao16 t944.length co16)) (.slice Ao19 t948.length co19) t948)∧Aside0 (wc.heap[gb943]?=some (.cells #[(.slice Ao9 t932.length co9),.int .i64 t935,(.slice Ao11 t936.length co11),.int .i64 t939] 27 (0,0)))∧Aside0 (wc.heap[gb955]?=some (.cells #[(.slice Ao16 t944.length co16),.int .i64 t947,(.slice Ao19 t948.length co19),.int .i64 t951] 27 (0,0)))∧Aside0 (Below w.heap.size w wc))
    case first =>
     have H:=HC31.out;clear HC31;obtain ⟨t958,A32,H⟩:=bindE H;try dsimp only at H
     by_cases c33:t958=true
     ·subst c33;rw [if_pos rfl] at H;obtain ⟨t959,A34,H⟩:=bindE H;try dsimp only at H
      by_cases c35:t959=true
      ·subst c35;rw [if_pos rfl] at H;have H':=am H;clear H;have hnb36:=NB955_943.out;have hnc36:=NB943_955.out;obtain ⟨_,_,_,_,_,_,_,_⟩:=blkc4 BK955;go_wp2_with (first|((with_reducible refine gc 7 ?_);refine gL (some 40) Tryz.func7 #[.slice Ao12 t929.length co12,.agg #[.slice Ao16 t944.length co16,.int .i64 t947,.slice Ao19 t948.length co19,.int .i64 t951]] ?_;(with_reducible refine (impl_IsControl.calls kj5 _ _ t929 _ _ t944 t947 _ _ t948 t951 true _ ?_ ?_ ?_ ?_ ?_ ?_ A32.out).mono ?_);exact cO ⟨(Kd.R_reads' HO_3.out).2.2⟩;exact (Kd.R_reads' HO_3.out).2.1;exact cO ⟨(Kd.R_reads' HO_956000.out).2.2⟩;exact (Kd.R_reads' HO_956000.out).2.1;exact cO ⟨(Kd.R_reads' HO_956002.out).2.2⟩;exact (Kd.R_reads' HO_956002.out).2.1;rintro e w38 ⟨rfl,hb⟩;refine ⟨_,rfl,?_⟩;replace HO_3:=rb HO_3 hb;replace HO_5:=rb HO_5 hb;replace HO_7:=rb HO_7 hb;replace HO_944000:=rb HO_944000 hb;replace HO_944002:=rb HO_944002 hb;replace HO_956000:=rb HO_956000 hb;replace HO_956002:=rb HO_956002 hb;replace BK943:=kb BK943 hb;replace BK955:=kb BK955 hb;replace HB:=bs HB hb;(try clear hb);obtain ⟨Ao39,co39,eo39⟩:=Kd.R_slice HO_7.out;subst eo39)|(go_at_call 8;(with_reducible refine (impl_AreWants.calls kj5 _ _ t929 _ _ t952 true _ ?_ ?_ ?_ ?_ A34.out).mono ?_);exact cO ⟨(Kd.R_reads' HO_3.out).2.2⟩;exact (Kd.R_reads' HO_3.out).2.1;exact cO ⟨(Kd.R_reads' HO_7.out).2.2⟩;exact (Kd.R_reads' HO_7.out).2.1;rintro e w40 ⟨rfl,hb⟩;replace HO_3:=rb HO_3 hb;replace HO_5:=rb HO_5 hb;replace HO_7:=rb HO_7 hb;replace HO_944000:=rb HO_944000 hb;replace HO_944002:=rb HO_944002 hb;replace HO_956000:=rb HO_956000 hb;replace HO_956002:=rb HO_956002 hb;replace BK943:=kb BK943 hb;replace BK955:=kb BK955 hb;replace HB:=bs HB hb;(try clear hb)))
       go_meet
       case rel=>exact ⟨_,(decide ((t952.length:Int) > (t940.length:Int))),rS,H',⟨by have:=HJ5.out;first|omega|exact Nat.le_refl _⟩,⟨rK HO_3⟩,⟨rK HO_5⟩,⟨rK HO_7⟩,⟨rK HO_944000⟩,⟨rK HO_944002⟩,⟨rK HO_956000⟩,⟨rK HO_956002⟩,⟨bK BK943⟩,⟨bK BK955⟩,⟨bG⟩⟩
      replace c35:=Bool.eq_false_iff.mpr c35;subst c35;rw [if_neg Bool.false_ne_true] at H;have H':=am H;clear H;have hnb41:=NB955_943.out;have hnc41:=NB943_955.out;obtain ⟨_,_,_,_,_,_,_,_⟩:=blkc4 BK955;go_wp2_with (first|((with_reducible refine gc 7 ?_);refine gL (some 40) Tryz.func7 #[.slice Ao12 t929.length co12,.agg #[.slice Ao16 t944.length co16,.int .i64 t947,.slice Ao19 t948.length co19,.int .i64 t951]] ?_;(with_reducible refine (impl_IsControl.calls kj5 _ _ t929 _ _ t944 t947 _ _ t948 t951 true _ ?_ ?_ ?_ ?_ ?_ ?_ A32.out).mono ?_);exact cO ⟨(Kd.R_reads' HO_3.out).2.2⟩;exact (Kd.R_reads' HO_3.out).2.1;exact cO ⟨(Kd.R_reads' HO_956000.out).2.2⟩;exact (Kd.R_reads' HO_956000.out).2.1;exact cO ⟨(Kd.R_reads' HO_956002.out).2.2⟩;exact (Kd.R_reads' HO_956002.out).2.1;rintro e w43 ⟨rfl,hb⟩;refine ⟨_,rfl,?_⟩;replace HO_3:=rb HO_3 hb;replace HO_5:=rb HO_5 hb;replace HO_7:=rb HO_7 hb;replace HO_944000:=rb HO_944000 hb;replace HO_944002:=rb HO_944002 hb;replace HO_956000:=rb HO_956000 hb;replace HO_956002:=rb HO_956002 hb;replace BK943:=kb BK943 hb;replace BK955:=kb BK955 hb;replace HB:=bs HB hb;(try clear hb);obtain ⟨Ao44,co44,eo44⟩:=Kd.R_slice HO_7.out;subst eo44)|(go_at_call 8;(with_reducible refine (impl_AreWants.calls kj5 _ _ t929 _ _ t952 false _ ?_ ?_ ?_ ?_ A34.out).mono ?_);exact cO ⟨(Kd.R_reads' HO_3.out).2.2⟩;exact (Kd.R_reads' HO_3.out).2.1;exact cO ⟨(Kd.R_reads' HO_7.out).2.2⟩;exact (Kd.R_reads' HO_7.out).2.1;rintro e w45 ⟨rfl,hb⟩;replace HO_3:=rb HO_3 hb;replace HO_5:=rb HO_5 hb;replace HO_7:=rb HO_7 hb;replace HO_944000:=rb HO_944000 hb;replace HO_944002:=rb HO_944002 hb;replace HO_956000:=rb HO_956000 hb;replace HO_956002:=rb HO_956002 hb;replace BK943:=kb BK943 hb;replace BK955:=kb BK955 hb;replace HB:=bs HB hb;(try clear hb)))
      go_meet
      case rel=>exact ⟨_,(true),rS,H',⟨by have:=HJ5.out;first|omega|exact Nat.le_refl _⟩,⟨rK HO_3⟩,⟨rK HO_5⟩,⟨rK HO_7⟩,⟨rK HO_944000⟩,⟨rK HO_944002⟩,⟨rK HO_956000⟩,⟨rK HO_956002⟩,⟨bK BK943⟩,⟨bK BK955⟩,⟨bG⟩⟩
     replace c33:=Bool.eq_false_iff.mpr c33;subst c33;rw [if_neg Bool.false_ne_true] at H;have H':=am H;clear H;have hnb46:=NB955_943.out;have hnc46:=NB943_955.out;obtain ⟨_,_,_,_,_,_,_,_⟩:=blkc4 BK955;go_wp2_with (first|((with_reducible refine gc 7 ?_);refine gL (some 40) Tryz.func7 #[.slice Ao12 t929.length co12,.agg #[.slice Ao16 t944.length co16,.int .i64 t947,.slice Ao19 t948.length co19,.int .i64 t951]] ?_;(with_reducible refine (impl_IsControl.calls kj5 _ _ t929 _ _ t944 t947 _ _ t948 t951 false _ ?_ ?_ ?_ ?_ ?_ ?_ A32.out).mono ?_);exact cO ⟨(Kd.R_reads' HO_3.out).2.2⟩;exact (Kd.R_reads' HO_3.out).2.1;exact cO ⟨(Kd.R_reads' HO_956000.out).2.2⟩;exact (Kd.R_reads' HO_956000.out).2.1;exact cO ⟨(Kd.R_reads' HO_956002.out).2.2⟩;exact (Kd.R_reads' HO_956002.out).2.1;rintro e w48 ⟨rfl,hb⟩;refine ⟨_,rfl,?_⟩;replace HO_3:=rb HO_3 hb;replace HO_5:=rb HO_5 hb;replace HO_7:=rb HO_7 hb;replace HO_944000:=rb HO_944000 hb;replace HO_944002:=rb HO_944002 hb;replace HO_956000:=rb HO_956000 hb;replace HO_956002:=rb HO_956002 hb;replace BK943:=kb BK943 hb;replace BK955:=kb BK955 hb;replace HB:=bs HB hb;(try clear hb)))
     go_meet
     case rel=>exact ⟨_,(true),rS,H',⟨by have:=HJ5.out;first|omega|exact Nat.le_refl _⟩,⟨rK HO_3⟩,⟨rK HO_5⟩,⟨rK HO_7⟩,⟨rK HO_944000⟩,⟨rK HO_944002⟩,⟨rK HO_956000⟩,⟨rK HO_956002⟩,⟨bK BK943⟩,⟨bK BK955⟩,⟨bG⟩⟩
    case rest =>
     clear HC31;obtain ⟨kq,x54_30,rfl,HA,HJ30,HO_3,HO_5,HO_7,HO_944000,HO_944002,HO_956000,HO_956002,BK943,BK955,HB⟩:=hcut
     cases kq with
     | zero=>exact absurd HA.out (by simp [laws_FnAsked.j1])
     | succ kj30 =>
      have H:=HA.out;clear HA;simp only [laws_FnAsked.j1] at H;have c49:=ifN' H;replace H:=ifT' H;replace c49:=Bool.eq_false_iff.mpr c49;subst c49;obtain ⟨t960,A50,H⟩:=bindE H;try dsimp only at H
      obtain ⟨t963,A51,H⟩:=bindE H;try dsimp only at H
      have H':=am H;clear H;have hnb52:=NB955_943.out;have hnc52:=NB943_955.out;obtain ⟨_,_,_,_,_,_,_,_⟩:=blkc4 BK955;go_wp2_with (first|((with_reducible refine gc 10 ?_);refine gL (some 58) Tryz.func10 #[.slice Ao12 t929.length co12,.agg #[.slice Ao16 t944.length co16,.int .i64 t947,.slice Ao19 t948.length co19,.int .i64 t951]] ?_;(with_reducible refine (impl_LightsOf.calls kj30 _ _ t929 _ _ t944 t947 _ _ t948 t951 t960 _ ?_ ?_ ?_ ?_ ?_ ?_ A50.out).mono ?_);exact cO ⟨(Kd.R_reads' HO_3.out).2.2⟩;exact (Kd.R_reads' HO_3.out).2.1;exact cO ⟨(Kd.R_reads' HO_956000.out).2.2⟩;exact (Kd.R_reads' HO_956000.out).2.1;exact cO ⟨(Kd.R_reads' HO_956002.out).2.2⟩;exact (Kd.R_reads' HO_956002.out).2.1;rintro e w54 ⟨v961,rfl,ho0,hb⟩;refine ⟨_,rfl,?_⟩;replace HO_3:=rb HO_3 hb;replace HO_5:=rb HO_5 hb;replace HO_7:=rb HO_7 hb;have HO962:=rl w (rn (rn (rn (rn ho0 HO_944000) HO_944002) HO_956000) HO_956002);replace HO_944000:=re HO_944000 ho0 hb;replace HO_944002:=re HO_944002 ho0 hb;replace HO_956000:=re HO_956000 ho0 hb;replace HO_956002:=re HO_956002 ho0 hb;replace BK943:=kb BK943 hb;replace BK955:=kb BK955 hb;replace HB:=bs HB hb;(try clear hb);(try clear ho0);obtain ⟨Ao55,co55,eo55⟩:=Kd.R_slice HO962.out;subst eo55)|((with_reducible refine gc 9 ?_);refine gL (some 59) Tryz.func9 #[.slice Ao12 t929.length co12,.slice Ao55 t960.length co55] ?_;(with_reducible refine (laws_greens.calls kj30 _ _ t929 _ _ t960 t963 _ ?_ ?_ ?_ ?_ A51.out).mono ?_);exact cO ⟨(Kd.R_reads' HO_3.out).2.2⟩;exact (Kd.R_reads' HO_3.out).2.1;exact cO ⟨(Kd.R_reads' HO962.out).2.2⟩;exact (Kd.R_reads' HO962.out).2.1;rintro e w56 ⟨v964,rfl,ho0,hb⟩;refine ⟨_,rfl,?_⟩;replace HO_3:=rb HO_3 hb;replace HO_5:=rb HO_5 hb;replace HO_7:=rb HO_7 hb;have HO965:=rl w (rn (rn (rn (rn (rn ho0 HO_944000) HO_944002) HO_956000) HO_956002) HO962);replace HO_944000:=re HO_944000 ho0 hb;replace HO_944002:=re HO_944002 ho0 hb;replace HO_956000:=re HO_956000 ho0 hb;replace HO_956002:=re HO_956002 ho0 hb;replace HO962:=re HO962 ho0 hb;replace BK943:=kb BK943 hb;replace BK955:=kb BK955 hb;replace HB:=bs HB hb;(try clear hb);(try clear ho0)));go_loopg [9] kj30 (fun kq v9 w'=>∃ (x9_3:Int),v9=.int .i64 x9_3∧Aside0 (laws_FnAsked.l0 kq l0 t929 t940 t952 t963 x9_3 t932 t935 t936 t939=some r)∧Aside0 (kq≤kj30)∧Aside0 (Kd.R k58 58 w' w.heap.size (fun _=>True) (.slice Ao12 t929.length co12) t929)∧Aside0 (Kd.R k39 39 w' w.heap.size (n1 v953) (.slice Ao13 t940.length co13) t940)∧Aside0 (Kd.R k39 39 w' w.heap.size (n1 (.slice Ao13 t940.length co13)) v953 t952)∧Aside0 (Kd.R (Kd.int .i64) 3 w' w.heap.size (n4 (.slice Ao9 t932.length co9) (.slice Ao11 t936.length co11) (.slice Ao16 t944.length co16) (.slice Ao19 t948.length co19)) v964 t963)∧Aside0 (Kd.R (Kd.int .i64) 3 w' w.heap.size (n4 v964 (.slice Ao11 t936.length co11) (.slice Ao16 t944.length co16) (.slice Ao19 t948.length co19)) (.slice Ao9 t932.length co9) t932)∧Aside0 (Kd.R (Kd.int .i64) 3 w' w.heap.size (n4 v964 (.slice Ao9 t932.length co9) (.slice Ao16 t944.length co16) (.slice Ao19 t948.length co19)) (.slice Ao11 t936.length co11) t936)∧Aside0 (Kd.R (Kd.int .i64) 3 w' w.heap.size (n4 v964 (.slice Ao9 t932.length co9) (.slice Ao11 t936.length co11) (.slice Ao19 t948.length co19)) (.slice Ao16 t944.length co16) t944)∧Aside0 (Kd.R (Kd.int .i64) 3 w' w.heap.size (n4 v964 (.slice Ao9 t932.length co9) (.slice Ao11 t936.length co11) (.slice Ao16 t944.length co16)) (.slice Ao19 t948.length co19) t948)∧Aside0 (w'.heap[gb943]?=some (.cells #[(.slice Ao9 t932.length co9),.int .i64 t935,(.slice Ao11 t936.length co11),.int .i64 t939] 27 (0,0)))∧Aside0 (w'.heap[gb955]?=some (.cells #[(.slice Ao16 t944.length co16),.int .i64 t947,(.slice Ao19 t948.length co19),.int .i64 t951] 27 (0,0)))∧Aside0 (Below w.heap.size w w'))
      case atStart=>exact ⟨(0),rS,H',⟨Nat.le_refl _⟩,⟨rK HO_3⟩,⟨rK HO_5⟩,⟨rK HO_7⟩,⟨rm HO965 (fun _ hk=>⟨hk.1.1.1.1.2,⟨hk.1.1.1.2,⟨hk.1.1.2,hk.1.2⟩⟩⟩)⟩,⟨rm HO_944000 (fun _ hk=>⟨hk.2,⟨hk.1.1.1,⟨hk.1.1.2.1,hk.1.1.2.2⟩⟩⟩)⟩,⟨rm HO_944002 (fun _ hk=>⟨hk.2,⟨hk.1.1.1,⟨hk.1.1.2.1,hk.1.1.2.2⟩⟩⟩)⟩,⟨rm HO_956000 (fun _ hk=>⟨hk.2,⟨hk.1.1.1,⟨hk.1.1.2.1,hk.1.1.2.2⟩⟩⟩)⟩,⟨rm HO_956002 (fun _ hk=>⟨hk.2,⟨hk.1.1.1,⟨hk.1.1.2.1,hk.1.1.2.2⟩⟩⟩)⟩,⟨bK BK943⟩,⟨bK BK955⟩,⟨bG⟩⟩
      case round =>
       clear H';obtain ⟨x9_3,rfl,HA,HK3,HO_3,HO_5,HO_7,HO_8,HO_944000,HO_944002,HO_956000,HO_956002,BK943,BK955,HB⟩:=hrel
       cases gk with
       | zero=>exact absurd HA.out (by simp [laws_FnAsked.l0])
       | succ k3 =>
        have H:=HA.out;clear HA;simp only [laws_FnAsked.l0] at H;by_cases c57:x9_3 < (t952.length:Int)
        ·rw [if_pos c57] at H;have c57b0:=dt c57;clear c57;have c58b0:=ifC H;replace H:=ifT H;obtain ⟨t967,A59,H⟩:=bindE H;try dsimp only at H
         have c60:=ifN' H;replace H:=ifT' H;replace c60:=Bool.eq_false_iff.mpr c60;subst c60;have H':=am H;clear H;obtain ⟨Ao61,co61,eo61⟩:=Kd.R_slice HO_7.out;subst eo61;obtain ⟨p966,q966⟩:=pq x9_3 t952;obtain ⟨ad966,e966,hx966_0,hx966_1⟩:=at_T39 (Kd.R_reads' HO_7.out).2.2 x9_3 p966 q966;cases e966;obtain ⟨p966,q966⟩:=eT p966 q966;obtain ⟨Ao62,co62,eo62⟩:=Kd.R_slice HO_8.out;subst eo62;go_wp2_with (first|((with_reducible refine gc 11 ?_);refine gL (some 72) Tryz.func11 #[.slice Ao62 t963.length co62,.int .i64 ((rd_T39 t952 x9_3).f0)] ?_;(with_reducible refine (laws_contains.calls k3 _ _ t963 ((rd_T39 t952 x9_3).f0) false _ ?_ ?_ A59.out).mono ?_);exact cO ⟨(Kd.R_reads' HO_8.out).2.2⟩;exact (Kd.R_reads' HO_8.out).2.1;rintro e w' ⟨rfl,⟨nd,rfl⟩⟩;refine ⟨_,rfl,?_⟩));go_roundg k3
         case measure=>have:=HJ5.out;have:=HJ30.out;have:=HK3.out;omega
         case rel=>exact ⟨(wrap64 (x9_3 + 1)),rS,H',⟨by have:=HJ5.out;have:=HJ30.out;have:=HK3.out;omega⟩,⟨rK HO_3⟩,⟨rK HO_5⟩,⟨rK HO_7⟩,⟨rK HO_8⟩,⟨rK HO_944000⟩,⟨rK HO_944002⟩,⟨rK HO_956000⟩,⟨rK HO_956002⟩,⟨bK BK943⟩,⟨bK BK955⟩,⟨bG⟩⟩
        rw [if_neg c57] at H;have c57b0:=df c57;clear c57;have HC63:=am H;clear H;obtain ⟨Ao64,co64,eo64⟩:=Kd.R_slice HO_7.out;subst eo64;go_upto_region 14 with (fail);go_cut [94] (fun v94 wc=>∃ (kq:Nat) (x94_62:Bool),v94=.bool x94_62∧Aside0 (laws_FnAsked.j3 kq l0 x94_62=some r)∧Aside0 (kq≤k3)∧Aside0 (Kd.R (Kd.int .i64) 3 wc w.heap.size (n3 (.slice Ao11 t936.length co11) (.slice Ao16 t944.length co16) (.slice Ao19 t948.length co19)) (.slice Ao9 t932.length co9) t932)∧Aside0 (Kd.R (Kd.int .i64) 3 wc w.heap.size (n3 (.slice Ao9 t932.length co9) (.slice Ao16 t944.length co16) (.slice Ao19 t948.length co19)) (.slice Ao11 t936.length co11) t936)∧Aside0 (Kd.R (Kd.int .i64) 3 wc w.heap.size (n3 (.slice Ao9 t932.length co9) (.slice Ao11 t936.length co11) (.slice Ao19 t948.length co19)) (.slice Ao16 t944.length co16) t944)∧Aside0 (Kd.R (Kd.int .i64) 3 wc w.heap.size (n3 (.slice Ao9 t932.length co9) (.slice Ao11 t936.length co11) (.slice Ao16 t944.length co16)) (.slice Ao19 t948.length co19) t948)∧Aside0 (wc.heap[gb943]?=some (.cells #[(.slice Ao9 t932.length co9),.int .i64 t935,(.slice Ao11 t936.length co11),.int .i64 t939] 27 (0,0)))∧Aside0 (wc.heap[gb955]?=some (.cells #[(.slice Ao16 t944.length co16),.int .i64 t947,(.slice Ao19 t948.length co19),.int .i64 t951] 27 (0,0)))∧Aside0 (Below w.heap.size w wc))
        case first =>
         have H:=HC63.out;clear HC63;obtain ⟨t968,A65,H⟩:=bindE H;try dsimp only at H
         by_cases c66:t968=true
         ·subst c66;rw [if_pos rfl] at H;obtain ⟨t969,A67,H⟩:=bindE H;try dsimp only at H
          by_cases c68:t969=true
          ·subst c68;rw [if_pos rfl] at H;obtain ⟨t970,A69,H⟩:=bindE H;try dsimp only at H
           obtain ⟨t973,A70,H⟩:=bindE H;try dsimp only at H
           obtain ⟨t974,A71,H⟩:=bindE H;try dsimp only at H
           have H':=am H;clear H;try go_wp2
           replace HO_3:=dr HO_3;replace HO_5:=dr HO_5;replace HO_7:=dr HO_7;replace HO_8:=dr HO_8;replace HO_944000:=dr HO_944000;replace HO_944002:=dr HO_944002;replace HO_956000:=dr HO_956000;replace HO_956002:=dr HO_956002;replace BK943:=dk BK943;replace BK955:=dk BK955;have HBo:=HB;replace HB:=db HB;refine sw (ds:=[]) 22 (mb 22 0) laws_FnAsked.tab14 laws_FnAsked.bits14 (h4 BK943) (fun hHeld HT_ HW_=>?_);generalize wr.drew=w72 at HO_3 HO_5 HO_7 HO_8 HO_944000 HO_944002 HO_956000 HO_956002 BK943 BK955 HB hHeld ⊢;refine pz [0,2,1] ?_;refine oa 3 76 (mb 22 15) HT_ (fun K hK=>?_);refine gA Tryz.func12 #[.slice Ao12 t929.length co12,.agg #[.slice Ao9 t932.length co9,.int .i64 t935,.slice Ao11 t936.length co11,.int .i64 t939],.slice Ao13 t940.length co13] ?_;(with_reducible refine (impl_MustChange.calls k3 _ _ t929 _ _ t932 t935 _ _ t936 t939 _ _ t940 true _ ?_ ?_ ?_ ?_ ?_ ?_ ?_ ?_ A65.out).mono ?_);exact cO ⟨(Kd.R_reads' HO_3.out).2.2⟩;exact (Kd.R_reads' HO_3.out).2.1;exact cO ⟨(Kd.R_reads' HO_944000.out).2.2⟩;exact (Kd.R_reads' HO_944000.out).2.1;exact cO ⟨(Kd.R_reads' HO_944002.out).2.2⟩;exact (Kd.R_reads' HO_944002.out).2.1;exact cO ⟨(Kd.R_reads' HO_5.out).2.2⟩;exact (Kd.R_reads' HO_5.out).2.1;rintro e w73 ⟨rfl,hb⟩;refine ⟨_,rfl,?_⟩;replace HO_3:=rb HO_3 hb;replace HO_5:=rb HO_5 hb;replace HO_7:=rb HO_7 hb;replace HO_8:=rb HO_8 hb;replace HO_944000:=rb HO_944000 hb;replace HO_944002:=rb HO_944002 hb;replace HO_956000:=rb HO_956000 hb;replace HO_956002:=rb HO_956002 hb;replace BK943:=kb BK943 hb;replace BK955:=kb BK955 hb;replace HB:=bs HB hb;(try clear hb);refine hK.out _ _ (cn4 BK943) (fun hHeld=>?_);clear hK K;refine nB ?_;refine pz [4,5,6] ?_;refine oa 7 80 (mb 22 255) HT_ (fun K hK=>?_);refine gA Tryz.func13 #[.slice Ao12 t929.length co12,.agg #[.slice Ao9 t932.length co9,.int .i64 t935,.slice Ao11 t936.length co11,.int .i64 t939]] ?_;(with_reducible refine (impl_CanEnd.calls k3 _ _ t929 _ _ t932 t935 _ _ t936 t939 true _ ?_ ?_ ?_ ?_ ?_ ?_ A67.out).mono ?_);exact cO ⟨(Kd.R_reads' HO_3.out).2.2⟩;exact (Kd.R_reads' HO_3.out).2.1;exact cO ⟨(Kd.R_reads' HO_944000.out).2.2⟩;exact (Kd.R_reads' HO_944000.out).2.1;exact cO ⟨(Kd.R_reads' HO_944002.out).2.2⟩;exact (Kd.R_reads' HO_944002.out).2.1;rintro e w74 ⟨rfl,hb⟩;refine ⟨_,rfl,?_⟩;replace HO_3:=rb HO_3 hb;replace HO_5:=rb HO_5 hb;replace HO_7:=rb HO_7 hb;replace HO_8:=rb HO_8 hb;replace HO_944000:=rb HO_944000 hb;replace HO_944002:=rb HO_944002 hb;replace HO_956000:=rb HO_956000 hb;replace HO_956002:=rb HO_956002 hb;replace BK943:=kb BK943 hb;replace BK955:=kb BK955 hb;replace HB:=bs HB hb;(try clear hb);refine hK.out _ _ (cn4 BK943) (fun hHeld=>?_);clear hK K;refine nB ?_;refine pz [8,9,10,12,14,15,11,16] ?_;refine oa 13 86 (mb 22 131071) HT_ (fun K hK=>?_);refine gA Tryz.func14 #[.slice Ao12 t929.length co12,.agg #[.slice Ao9 t932.length co9,.int .i64 t935,.slice Ao11 t936.length co11,.int .i64 t939],.slice Ao13 t940.length co13] ?_;(with_reducible refine (impl_NextStage.calls k3 _ _ t929 _ _ t932 t935 _ _ t936 t939 _ _ t940 t970 _ ?_ ?_ ?_ ?_ ?_ ?_ ?_ ?_ A69.out).mono ?_);exact cO ⟨(Kd.R_reads' HO_3.out).2.2⟩;exact (Kd.R_reads' HO_3.out).2.1;exact cO ⟨(Kd.R_reads' HO_944000.out).2.2⟩;exact (Kd.R_reads' HO_944000.out).2.1;exact cO ⟨(Kd.R_reads' HO_944002.out).2.2⟩;exact (Kd.R_reads' HO_944002.out).2.1;exact cO ⟨(Kd.R_reads' HO_5.out).2.2⟩;exact (Kd.R_reads' HO_5.out).2.1;rintro e w75 ⟨v971,rfl,ho0,hb⟩;refine ⟨_,rfl,?_⟩;replace HO_3:=rb HO_3 hb;replace HO_5:=rb HO_5 hb;replace HO_7:=rb HO_7 hb;have HO972:=rl w (rn (rn (rn (rn (rn ho0 HO_8) HO_944000) HO_944002) HO_956000) HO_956002);replace HO_8:=re HO_8 ho0 hb;replace HO_944000:=re HO_944000 ho0 hb;replace HO_944002:=re HO_944002 ho0 hb;replace HO_956000:=re HO_956000 ho0 hb;replace HO_956002:=re HO_956002 ho0 hb;replace BK943:=kb BK943 hb;replace BK955:=kb BK955 hb;replace HB:=bs HB hb;(try clear hb)
           (try clear ho0);refine hK.out _ _ (cn4 BK943) (fun hHeld=>?_);clear hK K;refine nB ?_;refine oa 17 90 (mb 22 262143) HT_ (fun K hK=>?_);refine gA Tryz.func15 #[.slice Ao13 t940.length co13,.slice Ao9 t932.length co9] ?_;(with_reducible refine (impl_LongestWant.calls k3 _ _ t940 _ _ t932 t973 _ ?_ ?_ ?_ ?_ A70.out).mono ?_);exact cO ⟨(Kd.R_reads' HO_5.out).2.2⟩;exact (Kd.R_reads' HO_5.out).2.1;exact cO ⟨(Kd.R_reads' HO_944000.out).2.2⟩;exact (Kd.R_reads' HO_944000.out).2.1;rintro e w76 ⟨rfl,hb⟩;refine ⟨_,rfl,?_⟩;replace HO_3:=rb HO_3 hb;replace HO_5:=rb HO_5 hb;replace HO_7:=rb HO_7 hb;replace HO_8:=rb HO_8 hb;replace HO_944000:=rb HO_944000 hb;replace HO_944002:=rb HO_944002 hb;replace HO_956000:=rb HO_956000 hb;replace HO_956002:=rb HO_956002 hb;replace HO972:=rb HO972 hb;replace BK943:=kb BK943 hb;replace BK955:=kb BK955 hb;replace HB:=bs HB hb;(try clear hb);obtain ⟨Ao77,co77,eo77⟩:=Kd.R_slice HO972.out;(first|subst eo77|(injection eo77 with f1_ f2_ f3_;have f4_:=f1_.symm;have f5_:=f3_.symm;clear f1_ f2_ f3_;subst f4_;subst f5_));refine hK.out _ _ (cn4 BK943) (fun hHeld=>?_);clear hK K;refine nB ?_;refine oa 18 91 (mb 22 524287) HT_ (fun K hK=>?_);refine gA Tryz.func11 #[.slice Ao77 t970.length co77,.int .i64 t973] ?_;(with_reducible refine (laws_contains.calls k3 _ _ t970 t973 t974 _ ?_ ?_ A71.out).mono ?_);exact cO ⟨(Kd.R_reads' HO972.out).2.2⟩;exact (Kd.R_reads' HO972.out).2.1;rintro e w' ⟨rfl,⟨nd,rfl⟩⟩;refine ⟨_,rfl,?_⟩;refine hK.out _ _ (cn4 BK943) (fun hHeld=>?_);clear hK K;refine nB ?_;refine pz [19,20,21] ?_;refine eA HT_ ?_;try go_wp2
           go_meet
           case rel=>exact ⟨_,(!t974),rS,H',⟨by have:=HJ5.out;have:=HJ30.out;have:=HK3.out;first|omega|exact Nat.le_refl _⟩,⟨rm HO_944000 (fun _ hk=>⟨hk.1.2.1,⟨hk.1.2.2.1,hk.1.2.2.2⟩⟩)⟩,⟨rm HO_944002 (fun _ hk=>⟨hk.1.2.1,⟨hk.1.2.2.1,hk.1.2.2.2⟩⟩)⟩,⟨rm HO_956000 (fun _ hk=>⟨hk.1.2.1,⟨hk.1.2.2.1,hk.1.2.2.2⟩⟩)⟩,⟨rm HO_956002 (fun _ hk=>⟨hk.1.2.1,⟨hk.1.2.2.1,hk.1.2.2.2⟩⟩)⟩,⟨bK BK943⟩,⟨bK BK955⟩,⟨bG⟩⟩
          replace c68:=Bool.eq_false_iff.mpr c68;subst c68;rw [if_neg Bool.false_ne_true] at H;have H':=am H;clear H;try go_wp2
          replace HO_3:=dr HO_3;replace HO_5:=dr HO_5;replace HO_7:=dr HO_7;replace HO_8:=dr HO_8;replace HO_944000:=dr HO_944000;replace HO_944002:=dr HO_944002;replace HO_956000:=dr HO_956000;replace HO_956002:=dr HO_956002;replace BK943:=dk BK943;replace BK955:=dk BK955;have HBo:=HB;replace HB:=db HB;refine sw (ds:=[]) 22 (mb 22 0) laws_FnAsked.tab14 laws_FnAsked.bits14 (h4 BK943) (fun hHeld HT_ HW_=>?_);generalize wr.drew=w78 at HO_3 HO_5 HO_7 HO_8 HO_944000 HO_944002 HO_956000 HO_956002 BK943 BK955 HB hHeld ⊢;refine pz [0,2,1] ?_;refine oa 3 76 (mb 22 15) HT_ (fun K hK=>?_);refine gA Tryz.func12 #[.slice Ao12 t929.length co12,.agg #[.slice Ao9 t932.length co9,.int .i64 t935,.slice Ao11 t936.length co11,.int .i64 t939],.slice Ao13 t940.length co13] ?_;(with_reducible refine (impl_MustChange.calls k3 _ _ t929 _ _ t932 t935 _ _ t936 t939 _ _ t940 true _ ?_ ?_ ?_ ?_ ?_ ?_ ?_ ?_ A65.out).mono ?_);exact cO ⟨(Kd.R_reads' HO_3.out).2.2⟩;exact (Kd.R_reads' HO_3.out).2.1;exact cO ⟨(Kd.R_reads' HO_944000.out).2.2⟩;exact (Kd.R_reads' HO_944000.out).2.1;exact cO ⟨(Kd.R_reads' HO_944002.out).2.2⟩;exact (Kd.R_reads' HO_944002.out).2.1;exact cO ⟨(Kd.R_reads' HO_5.out).2.2⟩;exact (Kd.R_reads' HO_5.out).2.1;rintro e w79 ⟨rfl,hb⟩;refine ⟨_,rfl,?_⟩;replace HO_3:=rb HO_3 hb;replace HO_5:=rb HO_5 hb;replace HO_7:=rb HO_7 hb;replace HO_8:=rb HO_8 hb;replace HO_944000:=rb HO_944000 hb;replace HO_944002:=rb HO_944002 hb;replace HO_956000:=rb HO_956000 hb;replace HO_956002:=rb HO_956002 hb;replace BK943:=kb BK943 hb;replace BK955:=kb BK955 hb;replace HB:=bs HB hb;(try clear hb);refine hK.out _ _ (cn4 BK943) (fun hHeld=>?_);clear hK K;refine nB ?_;refine pz [4,5,6] ?_;refine oa 7 80 (mb 22 255) HT_ (fun K hK=>?_);refine gA Tryz.func13 #[.slice Ao12 t929.length co12,.agg #[.slice Ao9 t932.length co9,.int .i64 t935,.slice Ao11 t936.length co11,.int .i64 t939]] ?_;(with_reducible refine (impl_CanEnd.calls k3 _ _ t929 _ _ t932 t935 _ _ t936 t939 false _ ?_ ?_ ?_ ?_ ?_ ?_ A67.out).mono ?_);exact cO ⟨(Kd.R_reads' HO_3.out).2.2⟩;exact (Kd.R_reads' HO_3.out).2.1;exact cO ⟨(Kd.R_reads' HO_944000.out).2.2⟩;exact (Kd.R_reads' HO_944000.out).2.1;exact cO ⟨(Kd.R_reads' HO_944002.out).2.2⟩;exact (Kd.R_reads' HO_944002.out).2.1;rintro e w80 ⟨rfl,hb⟩;refine ⟨_,rfl,?_⟩;replace HO_3:=rb HO_3 hb;replace HO_5:=rb HO_5 hb;replace HO_7:=rb HO_7 hb;replace HO_8:=rb HO_8 hb;replace HO_944000:=rb HO_944000 hb;replace HO_944002:=rb HO_944002 hb;replace HO_956000:=rb HO_956000 hb;replace HO_956002:=rb HO_956002 hb;replace BK943:=kb BK943 hb;replace BK955:=kb BK955 hb;replace HB:=bs HB hb;(try clear hb);refine hK.out _ _ (cn4 BK943) (fun hHeld=>?_);clear hK K;refine nB ?_;refine pz [8,9,10,11,12,13,14,15,16,17,18,19,20,21] ?_;refine eA HT_ ?_;try go_wp2
          go_meet
          case rel=>exact ⟨_,(true),rS,H',⟨by have:=HJ5.out;have:=HJ30.out;have:=HK3.out;first|omega|exact Nat.le_refl _⟩,⟨rm HO_944000 (fun _ hk=>⟨hk.2.1,⟨hk.2.2.1,hk.2.2.2⟩⟩)⟩,⟨rm HO_944002 (fun _ hk=>⟨hk.2.1,⟨hk.2.2.1,hk.2.2.2⟩⟩)⟩,⟨rm HO_956000 (fun _ hk=>⟨hk.2.1,⟨hk.2.2.1,hk.2.2.2⟩⟩)⟩,⟨rm HO_956002 (fun _ hk=>⟨hk.2.1,⟨hk.2.2.1,hk.2.2.2⟩⟩)⟩,⟨bK BK943⟩,⟨bK BK955⟩,⟨bG⟩⟩
         replace c66:=Bool.eq_false_iff.mpr c66;subst c66;rw [if_neg Bool.false_ne_true] at H;have H':=am H;clear H;try go_wp2
         replace HO_3:=dr HO_3;replace HO_5:=dr HO_5;replace HO_7:=dr HO_7;replace HO_8:=dr HO_8;replace HO_944000:=dr HO_944000;replace HO_944002:=dr HO_944002;replace HO_956000:=dr HO_956000;replace HO_956002:=dr HO_956002;replace BK943:=dk BK943;replace BK955:=dk BK955;have HBo:=HB;replace HB:=db HB;refine sw (ds:=[]) 22 (mb 22 0) laws_FnAsked.tab14 laws_FnAsked.bits14 (h4 BK943) (fun hHeld HT_ HW_=>?_);generalize wr.drew=w81 at HO_3 HO_5 HO_7 HO_8 HO_944000 HO_944002 HO_956000 HO_956002 BK943 BK955 HB hHeld ⊢;refine pz [0,2,1] ?_;refine oa 3 76 (mb 22 15) HT_ (fun K hK=>?_);refine gA Tryz.func12 #[.slice Ao12 t929.length co12,.agg #[.slice Ao9 t932.length co9,.int .i64 t935,.slice Ao11 t936.length co11,.int .i64 t939],.slice Ao13 t940.length co13] ?_;(with_reducible refine (impl_MustChange.calls k3 _ _ t929 _ _ t932 t935 _ _ t936 t939 _ _ t940 false _ ?_ ?_ ?_ ?_ ?_ ?_ ?_ ?_ A65.out).mono ?_);exact cO ⟨(Kd.R_reads' HO_3.out).2.2⟩;exact (Kd.R_reads' HO_3.out).2.1;exact cO ⟨(Kd.R_reads' HO_944000.out).2.2⟩;exact (Kd.R_reads' HO_944000.out).2.1;exact cO ⟨(Kd.R_reads' HO_944002.out).2.2⟩;exact (Kd.R_reads' HO_944002.out).2.1;exact cO ⟨(Kd.R_reads' HO_5.out).2.2⟩;exact (Kd.R_reads' HO_5.out).2.1;rintro e w82 ⟨rfl,hb⟩;refine ⟨_,rfl,?_⟩;replace HO_3:=rb HO_3 hb;replace HO_5:=rb HO_5 hb;replace HO_7:=rb HO_7 hb;replace HO_8:=rb HO_8 hb;replace HO_944000:=rb HO_944000 hb;replace HO_944002:=rb HO_944002 hb;replace HO_956000:=rb HO_956000 hb;replace HO_956002:=rb HO_956002 hb;replace BK943:=kb BK943 hb;replace BK955:=kb BK955 hb;replace HB:=bs HB hb;(try clear hb);refine hK.out _ _ (cn4 BK943) (fun hHeld=>?_);clear hK K;refine nB ?_;refine pz [4,5,6,7,8,9,10,11,12,13,14,15,16,17,18,19,20,21] ?_;refine eA HT_ ?_;try go_wp2
         go_meet
         case rel=>exact ⟨_,(false),rS,H',⟨by have:=HJ5.out;have:=HJ30.out;have:=HK3.out;first|omega|exact Nat.le_refl _⟩,⟨rm HO_944000 (fun _ hk=>⟨hk.2.1,⟨hk.2.2.1,hk.2.2.2⟩⟩)⟩,⟨rm HO_944002 (fun _ hk=>⟨hk.2.1,⟨hk.2.2.1,hk.2.2.2⟩⟩)⟩,⟨rm HO_956000 (fun _ hk=>⟨hk.2.1,⟨hk.2.2.1,hk.2.2.2⟩⟩)⟩,⟨rm HO_956002 (fun _ hk=>⟨hk.2.1,⟨hk.2.2.1,hk.2.2.2⟩⟩)⟩,⟨bK BK943⟩,⟨bK BK955⟩,⟨bG⟩⟩
        case rest =>
         clear HC63;obtain ⟨kq,x94_62,rfl,HA,HJ62,HO_944000,HO_944002,HO_956000,HO_956002,BK943,BK955,HB⟩:=hcut
         cases kq with
         | zero=>exact absurd HA.out (by simp [laws_FnAsked.j3])
         | succ kj62 =>
          have H:=HA.out;clear HA;simp only [laws_FnAsked.j3] at H;have c83:=ifN' H;replace H:=ifT' H;replace c83:=Bool.eq_false_iff.mpr c83;subst c83;obtain ⟨⟨t975,t976,t977⟩,A84,H⟩:=bindE H;try dsimp only at H
          obtain ⟨⟨t982,t983⟩,A85,H⟩:=bindE H;try dsimp only at H
          by_cases c86:t983=true
          ·subst c86;rw [if_pos rfl] at H;obtain ⟨t986,A87,H⟩:=bindE H;try dsimp only at H
           have c88:=ifN H;replace H:=ifT H;subst c88;have c89:(t982.length:Int)=(wrap64 ((t976.length:Int) + 1)):=ifN H;replace H:=ifT H;obtain ⟨c89b0,c89b1⟩:=eI c89;clear c89;obtain rfl:=oj H;go_wp2_with (first|((with_reducible refine gc 17 ?_);refine gL (some 108) Tryz.func17 #[.slice A0 l0.length c0] ?_;(with_reducible refine (spec_DrawAddWant.calls kj62 _ _ l0 t975 t976 t977 _ ?_ ?_ A84.out).mono ?_);exact cB HR0;exact HC0.out;rintro e w90 ⟨v978,v980,rfl,ho0,ho1,hb⟩;refine ⟨_,rfl,?_⟩;replace HO_944000:=rb HO_944000 hb;replace HO_944002:=rb HO_944002 hb;replace HO_956000:=rb HO_956000 hb;replace HO_956002:=rb HO_956002 hb;have HO979:=rl w ho0;have HO981:=rl w ho1;replace BK943:=kb BK943 hb;replace BK955:=kb BK955 hb;replace HB:=bs HB hb;(try clear hb);(try clear ho0);(try clear ho1);obtain ⟨Ao91,co91,eo91⟩:=Kd.R_slice HO979.out;subst eo91;obtain ⟨Ao92,co92,eo92⟩:=Kd.R_slice HO981.out;subst eo92)|((with_reducible refine gc 18 ?_);refine gL (some 116) Tryz.func18 #[.slice Ao91 t975.length co91,.slice Ao92 t976.length co92,.int .i64 t977] ?_;(with_reducible refine (impl_AddWant.calls kj62 _ _ t975 _ _ t976 t977 t982 true _ ?_ ?_ ?_ ?_ A85.out).mono ?_);exact cO ⟨(Kd.R_reads' HO979.out).2.2⟩;exact (Kd.R_reads' HO979.out).2.1;exact cO ⟨(Kd.R_reads' HO981.out).2.2⟩;exact (Kd.R_reads' HO981.out).2.1;rintro e w93 ⟨v984,rfl,ho0,hb⟩;refine ⟨_,rfl,?_⟩;replace HO_944000:=rb HO_944000 hb;replace HO_944002:=rb HO_944002 hb;replace HO_956000:=rb HO_956000 hb;replace HO_956002:=rb HO_956002 hb;replace HO979:=rb HO979 hb;have HO985:=rl w (rn ho0 HO981);replace HO981:=re HO981 ho0 hb;replace BK943:=kb BK943 hb;replace BK955:=kb BK955 hb;replace HB:=bs HB hb;(try clear hb);(try clear ho0);obtain ⟨Ao94,co94,eo94⟩:=Kd.R_slice HO985.out;subst eo94)|(go_at_call 8;(with_reducible refine (impl_AreWants.calls kj62 _ _ t975 _ _ t982 true _ ?_ ?_ ?_ ?_ A87.out).mono ?_);exact cO ⟨(Kd.R_reads' HO979.out).2.2⟩;exact (Kd.R_reads' HO979.out).2.1;exact cO ⟨(Kd.R_reads' HO985.out).2.2⟩;exact (Kd.R_reads' HO985.out).2.1;rintro e w95 ⟨rfl,hb⟩;replace HO_944000:=rb HO_944000 hb;replace HO_944002:=rb HO_944002 hb;replace HO_956000:=rb HO_956000 hb;replace HO_956002:=rb HO_956002 hb;replace HO979:=rb HO979 hb;replace HO981:=rb HO981 hb;replace HO985:=rb HO985 hb;replace BK943:=kb BK943 hb;replace BK955:=kb BK955 hb;replace HB:=bs HB hb;(try clear hb)));go_ret;exact ⟨rA,bG⟩
          replace c86:=Bool.eq_false_iff.mpr c86;subst c86;rw [if_neg Bool.false_ne_true] at H;obtain rfl:=oj H;go_wp2_with (first|((with_reducible refine gc 17 ?_);refine gL (some 108) Tryz.func17 #[.slice A0 l0.length c0] ?_;(with_reducible refine (spec_DrawAddWant.calls kj62 _ _ l0 t975 t976 t977 _ ?_ ?_ A84.out).mono ?_);exact cB HR0;exact HC0.out;rintro e w96 ⟨v978,v980,rfl,ho0,ho1,hb⟩;refine ⟨_,rfl,?_⟩;replace HO_944000:=rb HO_944000 hb;replace HO_944002:=rb HO_944002 hb;replace HO_956000:=rb HO_956000 hb;replace HO_956002:=rb HO_956002 hb;have HO979:=rl w ho0;have HO981:=rl w ho1;replace BK943:=kb BK943 hb;replace BK955:=kb BK955 hb;replace HB:=bs HB hb;(try clear hb);(try clear ho0);(try clear ho1);obtain ⟨Ao97,co97,eo97⟩:=Kd.R_slice HO979.out;subst eo97;obtain ⟨Ao98,co98,eo98⟩:=Kd.R_slice HO981.out;subst eo98)|((with_reducible refine gc 18 ?_);refine gL (some 116) Tryz.func18 #[.slice Ao97 t975.length co97,.slice Ao98 t976.length co98,.int .i64 t977] ?_;(with_reducible refine (impl_AddWant.calls kj62 _ _ t975 _ _ t976 t977 t982 false _ ?_ ?_ ?_ ?_ A85.out).mono ?_);exact cO ⟨(Kd.R_reads' HO979.out).2.2⟩;exact (Kd.R_reads' HO979.out).2.1;exact cO ⟨(Kd.R_reads' HO981.out).2.2⟩;exact (Kd.R_reads' HO981.out).2.1;rintro e w99 ⟨v984,rfl,ho0,hb⟩;refine ⟨_,rfl,?_⟩;replace HO_944000:=rb HO_944000 hb;replace HO_944002:=rb HO_944002 hb;replace HO_956000:=rb HO_956000 hb;replace HO_956002:=rb HO_956002 hb;replace HO979:=rb HO979 hb;have HO985:=rl w (rn ho0 HO981);replace HO981:=re HO981 ho0 hb;replace BK943:=kb BK943 hb;replace BK955:=kb BK955 hb;replace HB:=bs HB hb;(try clear hb);(try clear ho0);obtain ⟨Ao100,co100,eo100⟩:=Kd.R_slice HO985.out;subst eo100));go_ret;exact ⟨rA,bG⟩
   replace c30:=Bool.eq_false_iff.mpr c30;subst c30;rw [if_neg Bool.false_ne_true] at H;have HC101:=am H;clear H;go_upto_region 16 with (fail);go_cut [105] (fun v105 wc=>∃ (kq:Nat) (x105_100:Bool),v105=.bool x105_100∧Aside0 (laws_FnAsked.j4 kq l0 x105_100=some r)∧Aside0 (kq≤kj5)∧Aside0 (Kd.R (Kd.int .i64) 3 wc w.heap.size (n3 (.slice Ao11 t936.length co11) (.slice Ao16 t944.length co16) (.slice Ao19 t948.length co19)) (.slice Ao9 t932.length co9) t932)∧Aside0 (Kd.R (Kd.int .i64) 3 wc w.heap.size (n3 (.slice Ao9 t932.length co9) (.slice Ao16 t944.length co16) (.slice Ao19 t948.length co19)) (.slice Ao11 t936.length co11) t936)∧Aside0 (Kd.R (Kd.int .i64) 3 wc w.heap.size (n3 (.slice Ao9 t932.length co9) (.slice Ao11 t936.length co11) (.slice Ao19 t948.length co19)) (.slice Ao16 t944.length co16) t944)∧Aside0 (Kd.R (Kd.int .i64) 3 wc w.heap.size (n3 (.slice Ao9 t932.length co9) (.slice Ao11 t936.length co11) (.slice Ao16 t944.length co16)) (.slice Ao19 t948.length co19) t948)∧Aside0 (wc.heap[gb943]?=some (.cells #[(.slice Ao9 t932.length co9),.int .i64 t935,(.slice Ao11 t936.length co11),.int .i64 t939] 27 (0,0)))∧Aside0 (wc.heap[gb955]?=some (.cells #[(.slice Ao16 t944.length co16),.int .i64 t947,(.slice Ao19 t948.length co19),.int .i64 t951] 27 (0,0)))∧Aside0 (Below w.heap.size w wc))
   case first =>
    have H:=HC101.out;clear HC101;obtain ⟨t987,A102,H⟩:=bindE H;try dsimp only at H
    by_cases c103:t987=true
    ·subst c103;rw [if_pos rfl] at H;have H':=am H;clear H;have hnb104:=NB943_955.out;have hnc104:=NB955_943.out;obtain ⟨_,_,_,_,_,_,_,_⟩:=blkc4 BK943;obtain ⟨_,_,_,_,_,_,_,_⟩:=blkc4 BK955;go_wp2_with (first|((with_reducible refine gc 16 ?_);refine gL (some 97) Tryz.func16 #[.agg #[.slice Ao9 t932.length co9,.int .i64 t935,.slice Ao11 t936.length co11,.int .i64 t939],.agg #[.slice Ao16 t944.length co16,.int .i64 t947,.slice Ao19 t948.length co19,.int .i64 t951]] ?_;(with_reducible refine (impl_EqualControls.calls kj5 _ _ t932 t935 _ _ t936 t939 _ _ t944 t947 _ _ t948 t951 true _ ?_ ?_ ?_ ?_ ?_ ?_ ?_ ?_ A102.out).mono ?_);exact cO ⟨(Kd.R_reads' HO_944000.out).2.2⟩;exact (Kd.R_reads' HO_944000.out).2.1;exact cO ⟨(Kd.R_reads' HO_944002.out).2.2⟩;exact (Kd.R_reads' HO_944002.out).2.1;exact cO ⟨(Kd.R_reads' HO_956000.out).2.2⟩;exact (Kd.R_reads' HO_956000.out).2.1;exact cO ⟨(Kd.R_reads' HO_956002.out).2.2⟩;exact (Kd.R_reads' HO_956002.out).2.1;rintro e w107 ⟨rfl,hb⟩;refine ⟨_,rfl,?_⟩;replace HO_3:=rb HO_3 hb;replace HO_5:=rb HO_5 hb;replace HO_7:=rb HO_7 hb;replace HO_944000:=rb HO_944000 hb;replace HO_944002:=rb HO_944002 hb;replace HO_956000:=rb HO_956000 hb;replace HO_956002:=rb HO_956002 hb;replace BK943:=kb BK943 hb;replace BK955:=kb BK955 hb;replace HB:=bs HB hb;(try clear hb);obtain ⟨Ao108,co108,eo108⟩:=Kd.R_slice HO_7.out;subst eo108))
     go_meet
     case rel=>exact ⟨_,(((t952.length:Int) != (t940.length:Int))),rS,H',⟨by have:=HJ5.out;first|omega|exact Nat.le_refl _⟩,⟨rK HO_944000⟩,⟨rK HO_944002⟩,⟨rK HO_956000⟩,⟨rK HO_956002⟩,⟨bK BK943⟩,⟨bK BK955⟩,⟨bG⟩⟩
    replace c103:=Bool.eq_false_iff.mpr c103;subst c103;rw [if_neg Bool.false_ne_true] at H;have H':=am H;clear H;have hnb109:=NB943_955.out;have hnc109:=NB955_943.out;obtain ⟨_,_,_,_,_,_,_,_⟩:=blkc4 BK943;obtain ⟨_,_,_,_,_,_,_,_⟩:=blkc4 BK955;go_wp2_with (first|((with_reducible refine gc 16 ?_);refine gL (some 97) Tryz.func16 #[.agg #[.slice Ao9 t932.length co9,.int .i64 t935,.slice Ao11 t936.length co11,.int .i64 t939],.agg #[.slice Ao16 t944.length co16,.int .i64 t947,.slice Ao19 t948.length co19,.int .i64 t951]] ?_;(with_reducible refine (impl_EqualControls.calls kj5 _ _ t932 t935 _ _ t936 t939 _ _ t944 t947 _ _ t948 t951 false _ ?_ ?_ ?_ ?_ ?_ ?_ ?_ ?_ A102.out).mono ?_);exact cO ⟨(Kd.R_reads' HO_944000.out).2.2⟩;exact (Kd.R_reads' HO_944000.out).2.1;exact cO ⟨(Kd.R_reads' HO_944002.out).2.2⟩;exact (Kd.R_reads' HO_944002.out).2.1;exact cO ⟨(Kd.R_reads' HO_956000.out).2.2⟩;exact (Kd.R_reads' HO_956000.out).2.1;exact cO ⟨(Kd.R_reads' HO_956002.out).2.2⟩;exact (Kd.R_reads' HO_956002.out).2.1;rintro e w112 ⟨rfl,hb⟩;refine ⟨_,rfl,?_⟩;replace HO_3:=rb HO_3 hb;replace HO_5:=rb HO_5 hb;replace HO_7:=rb HO_7 hb;replace HO_944000:=rb HO_944000 hb;replace HO_944002:=rb HO_944002 hb;replace HO_956000:=rb HO_956000 hb;replace HO_956002:=rb HO_956002 hb;replace BK943:=kb BK943 hb;replace BK955:=kb BK955 hb;replace HB:=bs HB hb;(try clear hb)))
    go_meet
    case rel=>exact ⟨_,(true),rS,H',⟨by have:=HJ5.out;first|omega|exact Nat.le_refl _⟩,⟨rK HO_944000⟩,⟨rK HO_944002⟩,⟨rK HO_956000⟩,⟨rK HO_956002⟩,⟨bK BK943⟩,⟨bK BK955⟩,⟨bG⟩⟩
   case rest =>
    clear HC101;obtain ⟨kq,x105_100,rfl,HA,HJ100,HO_944000,HO_944002,HO_956000,HO_956002,BK943,BK955,HB⟩:=hcut
    cases kq with
    | zero=>exact absurd HA.out (by simp [laws_FnAsked.j4])
    | succ kj100 =>
     have H:=HA.out;clear HA;simp only [laws_FnAsked.j4] at H;have c113:=ifN' H;replace H:=ifT' H;replace c113:=Bool.eq_false_iff.mpr c113;subst c113;obtain ⟨⟨t988,t989,t990⟩,A114,H⟩:=bindE H;try dsimp only at H
     obtain ⟨⟨t995,t996⟩,A115,H⟩:=bindE H;try dsimp only at H
     by_cases c116:t996=true
     ·subst c116;rw [if_pos rfl] at H;obtain ⟨t999,A117,H⟩:=bindE H;try dsimp only at H
      have c118:=ifN H;replace H:=ifT H;subst c118;have c119:(t995.length:Int)=(wrap64 ((t989.length:Int) + 1)):=ifN H;replace H:=ifT H;obtain ⟨c119b0,c119b1⟩:=eI c119;clear c119;obtain rfl:=oj H;go_wp2_with (first|((with_reducible refine gc 17 ?_);refine gL (some 108) Tryz.func17 #[.slice A0 l0.length c0] ?_;(with_reducible refine (spec_DrawAddWant.calls kj100 _ _ l0 t988 t989 t990 _ ?_ ?_ A114.out).mono ?_);exact cB HR0;exact HC0.out;rintro e w120 ⟨v991,v993,rfl,ho0,ho1,hb⟩;refine ⟨_,rfl,?_⟩;replace HO_944000:=rb HO_944000 hb;replace HO_944002:=rb HO_944002 hb;replace HO_956000:=rb HO_956000 hb;replace HO_956002:=rb HO_956002 hb;have HO992:=rl w ho0;have HO994:=rl w ho1;replace BK943:=kb BK943 hb;replace BK955:=kb BK955 hb;replace HB:=bs HB hb;(try clear hb);(try clear ho0);(try clear ho1);obtain ⟨Ao121,co121,eo121⟩:=Kd.R_slice HO992.out;subst eo121;obtain ⟨Ao122,co122,eo122⟩:=Kd.R_slice HO994.out;subst eo122)|((with_reducible refine gc 18 ?_);refine gL (some 116) Tryz.func18 #[.slice Ao121 t988.length co121,.slice Ao122 t989.length co122,.int .i64 t990] ?_;(with_reducible refine (impl_AddWant.calls kj100 _ _ t988 _ _ t989 t990 t995 true _ ?_ ?_ ?_ ?_ A115.out).mono ?_);exact cO ⟨(Kd.R_reads' HO992.out).2.2⟩;exact (Kd.R_reads' HO992.out).2.1;exact cO ⟨(Kd.R_reads' HO994.out).2.2⟩;exact (Kd.R_reads' HO994.out).2.1;rintro e w123 ⟨v997,rfl,ho0,hb⟩;refine ⟨_,rfl,?_⟩;replace HO_944000:=rb HO_944000 hb;replace HO_944002:=rb HO_944002 hb;replace HO_956000:=rb HO_956000 hb;replace HO_956002:=rb HO_956002 hb;replace HO992:=rb HO992 hb;have HO998:=rl w (rn ho0 HO994);replace HO994:=re HO994 ho0 hb;replace BK943:=kb BK943 hb;replace BK955:=kb BK955 hb;replace HB:=bs HB hb;(try clear hb);(try clear ho0);obtain ⟨Ao124,co124,eo124⟩:=Kd.R_slice HO998.out;subst eo124)|(go_at_call 8;(with_reducible refine (impl_AreWants.calls kj100 _ _ t988 _ _ t995 true _ ?_ ?_ ?_ ?_ A117.out).mono ?_);exact cO ⟨(Kd.R_reads' HO992.out).2.2⟩;exact (Kd.R_reads' HO992.out).2.1;exact cO ⟨(Kd.R_reads' HO998.out).2.2⟩;exact (Kd.R_reads' HO998.out).2.1;rintro e w125 ⟨rfl,hb⟩;replace HO_944000:=rb HO_944000 hb;replace HO_944002:=rb HO_944002 hb;replace HO_956000:=rb HO_956000 hb;replace HO_956002:=rb HO_956002 hb;replace HO992:=rb HO992 hb;replace HO994:=rb HO994 hb;replace HO998:=rb HO998 hb;replace BK943:=kb BK943 hb;replace BK955:=kb BK955 hb;replace HB:=bs HB hb;(try clear hb)));go_ret;exact ⟨rA,bG⟩
     replace c116:=Bool.eq_false_iff.mpr c116;subst c116;rw [if_neg Bool.false_ne_true] at H;obtain rfl:=oj H;go_wp2_with (first|((with_reducible refine gc 17 ?_);refine gL (some 108) Tryz.func17 #[.slice A0 l0.length c0] ?_;(with_reducible refine (spec_DrawAddWant.calls kj100 _ _ l0 t988 t989 t990 _ ?_ ?_ A114.out).mono ?_);exact cB HR0;exact HC0.out;rintro e w126 ⟨v991,v993,rfl,ho0,ho1,hb⟩;refine ⟨_,rfl,?_⟩;replace HO_944000:=rb HO_944000 hb;replace HO_944002:=rb HO_944002 hb;replace HO_956000:=rb HO_956000 hb;replace HO_956002:=rb HO_956002 hb;have HO992:=rl w ho0;have HO994:=rl w ho1;replace BK943:=kb BK943 hb;replace BK955:=kb BK955 hb;replace HB:=bs HB hb;(try clear hb);(try clear ho0);(try clear ho1);obtain ⟨Ao127,co127,eo127⟩:=Kd.R_slice HO992.out;subst eo127;obtain ⟨Ao128,co128,eo128⟩:=Kd.R_slice HO994.out;subst eo128)|((with_reducible refine gc 18 ?_);refine gL (some 116) Tryz.func18 #[.slice Ao127 t988.length co127,.slice Ao128 t989.length co128,.int .i64 t990] ?_;(with_reducible refine (impl_AddWant.calls kj100 _ _ t988 _ _ t989 t990 t995 false _ ?_ ?_ ?_ ?_ A115.out).mono ?_);exact cO ⟨(Kd.R_reads' HO992.out).2.2⟩;exact (Kd.R_reads' HO992.out).2.1;exact cO ⟨(Kd.R_reads' HO994.out).2.2⟩;exact (Kd.R_reads' HO994.out).2.1;rintro e w129 ⟨v997,rfl,ho0,hb⟩;refine ⟨_,rfl,?_⟩;replace HO_944000:=rb HO_944000 hb;replace HO_944002:=rb HO_944002 hb;replace HO_956000:=rb HO_956000 hb;replace HO_956002:=rb HO_956002 hb;replace HO992:=rb HO992 hb;have HO998:=rl w (rn ho0 HO994);replace HO994:=re HO994 ho0 hb;replace BK943:=kb BK943 hb;replace BK955:=kb BK955 hb;replace HB:=bs HB hb;(try clear hb);(try clear ho0);obtain ⟨Ao130,co130,eo130⟩:=Kd.R_slice HO998.out;subst eo130));go_ret;exact ⟨rA,bG⟩

end Go.Proofs.YtjgonpcajedkjaaGreat.P
