/- Printed by myprint.py (wip/tools) over the kit's print: what Go's functions compute, and that they do. Lean checks it. -/
import Derived.Test.YtdkmmefmhfbgkaaGreatF0
import Derived.Test.YtdkmmefmhfbgkaaGreatFX00b
import Derived.Shelf.RegionOpenPlain
import Derived.Lib.Overlaps
import Derived.Laws.Externs
namespace Go.Proofs.YtdkmmefmhfbgkaaGreat.P
open Go.RowKit Go.Proofs.YtdkmmefmhfbgkaaGreatW.PrintWords Go.Proofs.YtdkmmefmhfbgkaaGreatW.PrintLast Go.Proofs.YtdkmmefmhfbgkaaGreatW.PrintMore Go.Proofs.YtdkmmefmhfbgkaaGreat.Sq
attribute [local go_sem] max2_int min2_int max_two min_two max_three min_three max_four min_four
set_option linter.unusedVariables false
set_option linter.unusedSimpArgs false

/-! ### impl_Conflict: function 111 -/
def impl_Conflict.j0:Nat→Bool→Int→Int→Int→Int→Int→Int→Int→Int→Option (Bool)
 | 0,_,_,_,_,_,_,_,_,_=>none
 | k + 1,x22,x471000,x471001,x471002,x471003,x472000,x472001,x472002,x472003=>if x22=true then (some false) else (if x471001=2 then (if x472002=x471002 then (some true) else (some (x472003 == x471002))) else (if x472001=2 then (if x471002=x472002 then (some true) else (some (x471003 == x472002))) else (if x471002=x472002 then ((impl_InPlace.f x471002).bind fun t474=>((impl_OutPlace.f x471003).bind fun t475=>((impl_InPlace.f x472002).bind fun t476=>((impl_OutPlace.f x472003).bind fun t477=>((impl_Interleave.f k t474 t475 t476 t477).bind fun t478=>(some t478)))))) else (if x471003=x472003 then (some true) else ((impl_InPlace.f x471002).bind fun t479=>((impl_OutPlace.f x471003).bind fun t480=>((impl_InPlace.f x472002).bind fun t481=>((impl_OutPlace.f x472003).bind fun t482=>((impl_Interleave.f k t479 t480 t481 t482).bind fun t483=>(some t483))))))))))
def impl_Conflict.f (k:Nat) (a0_0:Int) (a0_1:Int) (a0_2:Int) (a0_3:Int) (a1_0:Int) (a1_1:Int) (a1_2:Int) (a1_3:Int):Option (Bool):=(impl_IsPath.f a0_0 a0_1 a0_2 a0_3).bind fun t472=>(if t472=true then ((impl_IsPath.f a1_0 a1_1 a1_2 a1_3).bind fun t473=>(if t473=true then (if a0_1=2 then (impl_Conflict.j0 k (a1_1 == 2) a0_0 a0_1 a0_2 a0_3 a1_0 a1_1 a1_2 a1_3) else (impl_Conflict.j0 k false a0_0 a0_1 a0_2 a0_3 a1_0 a1_1 a1_2 a1_3)) else (impl_Conflict.j0 k true a0_0 a0_1 a0_2 a0_3 a1_0 a1_1 a1_2 a1_3))) else (impl_Conflict.j0 k true a0_0 a0_1 a0_2 a0_3 a1_0 a1_1 a1_2 a1_3))
theorem impl_Conflict.mono_l:∀ k,(∀ y0 y1 y2 y3 y4 y5 y6 y7 y8,LeO (impl_Conflict.j0 k y0 y1 y2 y3 y4 y5 y6 y7 y8) (impl_Conflict.j0 (k + 1) y0 y1 y2 y3 y4 y5 y6 y7 y8))
 | 0=>fun _ _ _ _ _ _ _ _ _ r h=>by simp [impl_Conflict.j0] at h
 | k + 1=>by
  have ih0:=impl_Conflict.mono_l k
  ·intro y0 y1 y2 y3 y4 y5 y6 y7 y8;unfold impl_Conflict.j0;exact mz2 ih0 impl_Interleave.mono
theorem impl_Conflict.mono:∀ a0 a1 a2 a3 a4 a5 a6 a7 k,LeO (impl_Conflict.f k a0 a1 a2 a3 a4 a5 a6 a7) (impl_Conflict.f (k + 1) a0 a1 a2 a3 a4 a5 a6 a7):=by
 intro a0 a1 a2 a3 a4 a5 a6 a7 k;have ih0:=impl_Conflict.mono_l k;unfold impl_Conflict.f;exact mz2 ih0 impl_Interleave.mono
def impl_Conflict.T7:Bool × List (List Nat × List Nat):=(true,[([],[]),([0],[0]),([],[]),([2],[2]),([1,3],[1,3]),([4],[4]),([5],[5]),([6,5],[5,6]),([5],[5]),([8,5],[5,8]),([7,9,5],[5,7,9]),([5,10],[5,10]),([11,5],[11]),([12],[12]),([13,12],[12,13]),([14,12,12],[12,14]),([12],[12]),([16,12],[12,16]),([17,15,12],[12,17]),([12],[12]),([19,12],[12,19]),([20,18,12],[12,20]),([12],[12]),([22,12],[12,22]),([23,21,12],[12,23]),([15,18,21,24,24,12],[12,15,18,21,24]),([12,25],[12,25]),([26,25,0,1,2,3,4,5,6,7,8,9,10,11,12,13,14,15,16,17,18,19,20,21,22,23,24,25,26],[26])])
def impl_Conflict.B7:List Nat:=[0,1,0,4,15,31,63,127,63,319,1023,2047,4095,8191,16383,32767,8191,73727,262143,8191,532479,2097151,8191,4202495,16777215,33554431,67108863,134217727]
theorem impl_Conflict.tab7:rtab .any (opsOf Tryz.f111 7)=impl_Conflict.T7:=by kernel_rfl
theorem impl_Conflict.bits7:waitsOk impl_Conflict.T7.2 impl_Conflict.B7=true:=by kernel_rfl
set_option maxHeartbeats 8000000 in
set_option maxRecDepth 100000 in
theorem impl_Conflict.calls (k:Nat) (a0_0:Int) (a0_1:Int) (a0_2:Int) (a0_3:Int) (a1_0:Int) (a1_1:Int) (a1_2:Int) (a1_3:Int) (r:Bool) (w:World) (h:impl_Conflict.f k a0_0 a0_1 a0_2 a0_3 a1_0 a1_1 a1_2 a1_3=some r) :
  Calls Tryz.prog 111 #[.agg #[.int .i64 a0_0,.int .i64 a0_1,.int .i64 a0_2,.int .i64 a0_3],.agg #[.int .i64 a1_0,.int .i64 a1_1,.int .i64 a1_2,.int .i64 a1_3]] w fun e w'=>e=.returned (.bool r)∧Below w.heap.size w w':=by
 have hu69:=Tryz.underlying69;have HB:=am (Below.refl w.heap.size w);unfold impl_Conflict.f at h;have H:=h;clear h;have HC3:=am H;clear H;go_enter Tryz.func111,Tryz.ntmps111;go_upto_region 1 with (first|((with_reducible refine gd 2 ?_);refine bF w 2 #[.int .i64 a0_0,.int .i64 a0_1,.int .i64 a0_2,.int .i64 a0_3] 69 ?_;rintro gb470 w4 BK470 GW470 GE470 hb hg;replace HB:=bs HB hb;clear hb hg)|((with_reducible refine gd 3 ?_);refine bF w 3 #[.int .i64 a1_0,.int .i64 a1_1,.int .i64 a1_2,.int .i64 a1_3] 69 ?_;rintro gb471 w5 BK471 GW471 GE471 hb hg;replace HB:=bs HB hb;have NB470_471:=nl BK470 hg;have NB471_470:=nr BK470 hg;replace BK470:=kb BK470 hb;clear hb hg));(try simp only [Act.put,List.setIfInBounds_toArray,List.set_cons_zero,List.set_cons_succ]);go_cut [22] (fun v22 wc=>∃ (kq:Nat) (x22_2:Bool),v22=.bool x22_2∧Aside0 (impl_Conflict.j0 kq x22_2 a0_0 a0_1 a0_2 a0_3 a1_0 a1_1 a1_2 a1_3=some r)∧Aside0 (kq≤k)∧Aside0 (wc.heap[gb470]?=some (.cells #[.int .i64 a0_0,.int .i64 a0_1,.int .i64 a0_2,.int .i64 a0_3] 69 (0,0)))∧Aside0 (wc.heap[gb471]?=some (.cells #[.int .i64 a1_0,.int .i64 a1_1,.int .i64 a1_2,.int .i64 a1_3] 69 (0,0)))∧Aside0 (Below w.heap.size w wc))
 case first =>
  have H:=HC3.out;clear HC3;obtain ⟨t472,A6,H⟩:=bindE H;try dsimp only at H
  by_cases c7:t472=true
  ·subst c7;rw [if_pos rfl] at H;obtain ⟨t473,A8,H⟩:=bindE H;try dsimp only at H
   by_cases c9:t473=true
   ·subst c9;rw [if_pos rfl] at H;by_cases c10:a0_1=2
    ·rw [if_pos c10] at H;obtain ⟨c10b0,c10b1⟩:=eI c10;clear c10;(first|rw [c10b0]|(simp only [i64_w,i32_w];rw [c10b0])|skip);have H':=am H;clear H;have hnb11:=NB470_471.out;have hnc11:=NB471_470.out;obtain ⟨_,_,_,_,_,_,_,_⟩:=blkc4 BK470;go_wp2_with (first|((with_reducible refine gc 114 ?_);refine gL (some 6) Tryz.func114 #[.agg #[.int .i64 a0_0,.int .i64 a0_1,.int .i64 a0_2,.int .i64 a0_3]] ?_;(with_reducible refine (impl_IsPath.calls a0_0 a0_1 a0_2 a0_3 true _ A6.out).mono ?_);rintro e w13 ⟨rfl,hb⟩;refine ⟨_,rfl,?_⟩;replace BK470:=kb BK470 hb;replace BK471:=kb BK471 hb;replace HB:=bs HB hb;(try clear hb);obtain ⟨_,_,_,_,_,_,_,_⟩:=blkc4 BK471)|(go_at_call 114;(with_reducible refine (impl_IsPath.calls a1_0 a1_1 a1_2 a1_3 true _ A8.out).mono ?_);rintro e w15 ⟨rfl,hb⟩;replace BK470:=kb BK470 hb;replace BK471:=kb BK471 hb;replace HB:=bs HB hb;(try clear hb);obtain ⟨_,_,_,_,_,_,_,_⟩:=blkc4 BK470;obtain ⟨_,_,_,_,_,_,_,_⟩:=blkc4 BK471))
     go_meet
     case rel=>exact ⟨_,((a1_1 == 2)),rS,H',⟨oL⟩,⟨bK BK470⟩,⟨bK BK471⟩,⟨bG⟩⟩
    rw [if_neg c10] at H;obtain ⟨c10b0,c10b1⟩:=nI c10;(first|rw [c10b0]|(simp only [i64_w,i32_w];rw [c10b0])|skip);have H':=am H;clear H;have hnb18:=NB470_471.out;have hnc18:=NB471_470.out;obtain ⟨_,_,_,_,_,_,_,_⟩:=blkc4 BK470;go_wp2_with (first|((with_reducible refine gc 114 ?_);refine gL (some 6) Tryz.func114 #[.agg #[.int .i64 a0_0,.int .i64 a0_1,.int .i64 a0_2,.int .i64 a0_3]] ?_;(with_reducible refine (impl_IsPath.calls a0_0 a0_1 a0_2 a0_3 true _ A6.out).mono ?_);rintro e w20 ⟨rfl,hb⟩;refine ⟨_,rfl,?_⟩;replace BK470:=kb BK470 hb;replace BK471:=kb BK471 hb;replace HB:=bs HB hb;(try clear hb);obtain ⟨_,_,_,_,_,_,_,_⟩:=blkc4 BK471)|(go_at_call 114;(with_reducible refine (impl_IsPath.calls a1_0 a1_1 a1_2 a1_3 true _ A8.out).mono ?_);rintro e w22 ⟨rfl,hb⟩;replace BK470:=kb BK470 hb;replace BK471:=kb BK471 hb;replace HB:=bs HB hb;(try clear hb);obtain ⟨_,_,_,_,_,_,_,_⟩:=blkc4 BK470))
    go_meet
    case rel=>exact ⟨_,(false),rS,H',⟨oL⟩,⟨bK BK470⟩,⟨bK BK471⟩,⟨bG⟩⟩
   replace c9:=Bool.eq_false_iff.mpr c9;subst c9;rw [if_neg Bool.false_ne_true] at H;have H':=am H;clear H;have hnb24:=NB470_471.out;have hnc24:=NB471_470.out;obtain ⟨_,_,_,_,_,_,_,_⟩:=blkc4 BK470;go_wp2_with (first|((with_reducible refine gc 114 ?_);refine gL (some 6) Tryz.func114 #[.agg #[.int .i64 a0_0,.int .i64 a0_1,.int .i64 a0_2,.int .i64 a0_3]] ?_;(with_reducible refine (impl_IsPath.calls a0_0 a0_1 a0_2 a0_3 true _ A6.out).mono ?_);rintro e w26 ⟨rfl,hb⟩;refine ⟨_,rfl,?_⟩;replace BK470:=kb BK470 hb;replace BK471:=kb BK471 hb;replace HB:=bs HB hb;(try clear hb);obtain ⟨_,_,_,_,_,_,_,_⟩:=blkc4 BK471)|(go_at_call 114;(with_reducible refine (impl_IsPath.calls a1_0 a1_1 a1_2 a1_3 false _ A8.out).mono ?_);rintro e w28 ⟨rfl,hb⟩;replace BK470:=kb BK470 hb;replace BK471:=kb BK471 hb;replace HB:=bs HB hb;(try clear hb)))
   go_meet
   case rel=>exact ⟨_,(true),rS,H',⟨oL⟩,⟨bK BK470⟩,⟨bK BK471⟩,⟨bG⟩⟩
  replace c7:=Bool.eq_false_iff.mpr c7;subst c7;rw [if_neg Bool.false_ne_true] at H;have H':=am H;clear H;have hnb29:=NB470_471.out;have hnc29:=NB471_470.out;obtain ⟨_,_,_,_,_,_,_,_⟩:=blkc4 BK470;go_wp2_with (first|((with_reducible refine gc 114 ?_);refine gL (some 6) Tryz.func114 #[.agg #[.int .i64 a0_0,.int .i64 a0_1,.int .i64 a0_2,.int .i64 a0_3]] ?_;(with_reducible refine (impl_IsPath.calls a0_0 a0_1 a0_2 a0_3 false _ A6.out).mono ?_);rintro e w31 ⟨rfl,hb⟩;refine ⟨_,rfl,?_⟩;replace BK470:=kb BK470 hb;replace BK471:=kb BK471 hb;replace HB:=bs HB hb;(try clear hb)))
  go_meet
  case rel=>exact ⟨_,(true),rS,H',⟨oL⟩,⟨bK BK470⟩,⟨bK BK471⟩,⟨bG⟩⟩
 case rest =>
  clear HC3;obtain ⟨kq,x22_2,rfl,HA,HJ2,BK470,BK471,HB⟩:=hcut
  cases kq with
  | zero=>exact absurd HA.out (by simp [impl_Conflict.j0])
  | succ kj2 =>
   have H:=HA.out;clear HA;simp only [impl_Conflict.j0] at H;by_cases c32:x22_2=true
   ·subst c32;rw [if_pos rfl] at H;obtain rfl:=oj H;go_wp2;go_ret;exact ⟨rA,bG⟩
   replace c32:=Bool.eq_false_iff.mpr c32;subst c32;rw [if_neg Bool.false_ne_true] at H;by_cases c33:a0_1=2
   ·rw [if_pos c33] at H;obtain ⟨c33b0,c33b1⟩:=eI c33;clear c33;by_cases c34:a1_2=a0_2
    ·rw [if_pos c34] at H;obtain ⟨c34b0,c34b1⟩:=eI c34;clear c34;obtain rfl:=oj H;have hnb35:=NB470_471.out;have hnc35:=NB471_470.out;obtain ⟨_,_,_,_,_,_,_,_⟩:=blkc4 BK470;obtain ⟨_,_,_,_,_,_,_,_⟩:=blkc4 BK471;go_wp2;go_ret;exact ⟨rA,bG⟩
    rw [if_neg c34] at H;obtain ⟨c34b0,c34b1⟩:=nI c34;obtain rfl:=oj H;have hnb38:=NB470_471.out;have hnc38:=NB471_470.out;obtain ⟨_,_,_,_,_,_,_,_⟩:=blkc4 BK470;obtain ⟨_,_,_,_,_,_,_,_⟩:=blkc4 BK471;go_wp2;go_ret;exact ⟨rA,bG⟩
   rw [if_neg c33] at H;obtain ⟨c33b0,c33b1⟩:=nI c33;by_cases c41:a1_1=2
   ·rw [if_pos c41] at H;obtain ⟨c41b0,c41b1⟩:=eI c41;clear c41;by_cases c42:a0_2=a1_2
    ·rw [if_pos c42] at H;obtain ⟨c42b0,c42b1⟩:=eI c42;clear c42;obtain rfl:=oj H;have hnb43:=NB470_471.out;have hnc43:=NB471_470.out;obtain ⟨_,_,_,_,_,_,_,_⟩:=blkc4 BK470;obtain ⟨_,_,_,_,_,_,_,_⟩:=blkc4 BK471;go_wp2;go_ret;exact ⟨rA,bG⟩
    rw [if_neg c42] at H;obtain ⟨c42b0,c42b1⟩:=nI c42;obtain rfl:=oj H;have hnb46:=NB470_471.out;have hnc46:=NB471_470.out;obtain ⟨_,_,_,_,_,_,_,_⟩:=blkc4 BK470;obtain ⟨_,_,_,_,_,_,_,_⟩:=blkc4 BK471;go_wp2;go_ret;exact ⟨rA,bG⟩
   rw [if_neg c41] at H;obtain ⟨c41b0,c41b1⟩:=nI c41;by_cases c49:a0_2=a1_2
   ·rw [if_pos c49] at H;obtain ⟨c49b0,c49b1⟩:=eI c49;clear c49;obtain ⟨t474,A50,H⟩:=bindE H;try dsimp only at H
    obtain ⟨t475,A51,H⟩:=bindE H;try dsimp only at H
    obtain ⟨t476,A52,H⟩:=bindE H;try dsimp only at H
    obtain ⟨t477,A53,H⟩:=bindE H;try dsimp only at H
    obtain ⟨t478,A54,H⟩:=bindE H;try dsimp only at H
    obtain rfl:=oj H;have hnb55:=NB470_471.out;have hnc55:=NB471_470.out;obtain ⟨_,_,_,_,_,_,_,_⟩:=blkc4 BK470;obtain ⟨_,_,_,_,_,_,_,_⟩:=blkc4 BK471;try go_wp2
    replace BK470:=dk BK470;replace BK471:=dk BK471;have HBo:=HB;replace HB:=db HB;refine sw (ds:=[]) 28 (mb 28 0) impl_Conflict.tab7 impl_Conflict.bits7 (h4c BK470 (h4 BK471)) (fun hHeld HT_ HW_=>?_);generalize wc.drew=w58 at BK470 BK471 HB hHeld ⊢;refine pz [0,2,1,3,4,5,6,7,8,9,10,11,12,13,16,19,22,14,17,20,23] ?_;refine oa 15 68 (mb 28 14417919) HT_ (fun K hK=>?_);refine gA Tryz.func138 #[.int .i64 a0_2] ?_;(with_reducible refine (impl_InPlace.calls a0_2 t474 _ A50.out).mono ?_);rintro e w' ⟨rfl,⟨nd,rfl⟩⟩;refine ⟨_,rfl,?_⟩;refine hK.out _ _ (cm4 BK470 (cn4 BK471)) (fun hHeld=>?_);clear hK K;refine nB ?_;refine oa 18 71 (mb 28 14680063) HT_ (fun K hK=>?_);refine gA Tryz.func139 #[.int .i64 a0_3] ?_;(with_reducible refine (impl_OutPlace.calls a0_3 t475 _ A51.out).mono ?_);rintro e w' ⟨rfl,⟨nd,rfl⟩⟩;refine ⟨_,rfl,?_⟩;refine hK.out _ _ (cm4 BK470 (cn4 BK471)) (fun hHeld=>?_);clear hK K;refine nB ?_;refine oa 21 74 (mb 28 16777215) HT_ (fun K hK=>?_);refine gA Tryz.func138 #[.int .i64 a1_2] ?_;(with_reducible refine (impl_InPlace.calls a1_2 t476 _ A52.out).mono ?_);rintro e w' ⟨rfl,⟨nd,rfl⟩⟩;refine ⟨_,rfl,?_⟩;refine hK.out _ _ (cm4 BK470 (cn4 BK471)) (fun hHeld=>?_);clear hK K;refine nB ?_;refine oa 24 77 (mb 28 33554431) HT_ (fun K hK=>?_);refine gA Tryz.func139 #[.int .i64 a1_3] ?_;(with_reducible refine (impl_OutPlace.calls a1_3 t477 _ A53.out).mono ?_);rintro e w' ⟨rfl,⟨nd,rfl⟩⟩;refine ⟨_,rfl,?_⟩;refine hK.out _ _ (cm4 BK470 (cn4 BK471)) (fun hHeld=>?_);clear hK K;refine nB ?_;refine oa 25 78 (mb 28 67108863) HT_ (fun K hK=>?_);refine gA Tryz.func137 #[.int .i64 t474,.int .i64 t475,.int .i64 t476,.int .i64 t477] ?_;(with_reducible refine (impl_Interleave.calls kj2 t474 t475 t476 t477 t478 _ A54.out).mono ?_);rintro e w59 ⟨rfl,hb⟩;refine ⟨_,rfl,?_⟩;replace BK470:=kb BK470 hb;replace BK471:=kb BK471 hb;replace HB:=bs HB hb;(try clear hb);refine hK.out _ _ (cm4 BK470 (cn4 BK471)) (fun hHeld=>?_);clear hK K;refine nB ?_;refine pz [26,27] ?_;refine eA HT_ ?_;try go_wp2
    go_ret;exact ⟨rA,bG⟩
   rw [if_neg c49] at H;obtain ⟨c49b0,c49b1⟩:=nI c49;by_cases c60:a0_3=a1_3
   ·rw [if_pos c60] at H;obtain ⟨c60b0,c60b1⟩:=eI c60;clear c60;obtain rfl:=oj H;have hnb61:=NB470_471.out;have hnc61:=NB471_470.out;obtain ⟨_,_,_,_,_,_,_,_⟩:=blkc4 BK470;obtain ⟨_,_,_,_,_,_,_,_⟩:=blkc4 BK471;try go_wp2
    replace BK470:=dk BK470;replace BK471:=dk BK471;have HBo:=HB;replace HB:=db HB;refine sw (ds:=[]) 28 (mb 28 0) impl_Conflict.tab7 impl_Conflict.bits7 (h4c BK470 (h4 BK471)) (fun hHeld HT_ HW_=>?_);generalize wc.drew=w64 at BK470 BK471 HB hHeld ⊢;refine pz [0,2,1,3,4,5,6,8,7,9,10,11,12,13,14,15,16,17,18,19,20,21,22,23,24,25,26,27] ?_;refine eA HT_ ?_;try go_wp2
    go_ret;exact ⟨rA,bG⟩
   rw [if_neg c60] at H;obtain ⟨c60b0,c60b1⟩:=nI c60;obtain ⟨t479,A65,H⟩:=bindE H;try dsimp only at H
   obtain ⟨t480,A66,H⟩:=bindE H;try dsimp only at H
   obtain ⟨t481,A67,H⟩:=bindE H;try dsimp only at H
   obtain ⟨t482,A68,H⟩:=bindE H;try dsimp only at H
   obtain ⟨t483,A69,H⟩:=bindE H;try dsimp only at H
   obtain rfl:=oj H;have hnb70:=NB470_471.out;have hnc70:=NB471_470.out;obtain ⟨_,_,_,_,_,_,_,_⟩:=blkc4 BK470;obtain ⟨_,_,_,_,_,_,_,_⟩:=blkc4 BK471;try go_wp2
   replace BK470:=dk BK470;replace BK471:=dk BK471;have HBo:=HB;replace HB:=db HB;refine sw (ds:=[]) 28 (mb 28 0) impl_Conflict.tab7 impl_Conflict.bits7 (h4c BK470 (h4 BK471)) (fun hHeld HT_ HW_=>?_);generalize wc.drew=w73 at BK470 BK471 HB hHeld ⊢;refine pz [0,2,1,3,4,5,6,8,7,9,10,11,12,13,16,19,22,14,17,20,23] ?_;refine oa 15 68 (mb 28 14417919) HT_ (fun K hK=>?_);refine gA Tryz.func138 #[.int .i64 a0_2] ?_;(with_reducible refine (impl_InPlace.calls a0_2 t479 _ A65.out).mono ?_);rintro e w' ⟨rfl,⟨nd,rfl⟩⟩;refine ⟨_,rfl,?_⟩;refine hK.out _ _ (cm4 BK470 (cn4 BK471)) (fun hHeld=>?_);clear hK K;refine nB ?_;refine oa 18 71 (mb 28 14680063) HT_ (fun K hK=>?_);refine gA Tryz.func139 #[.int .i64 a0_3] ?_;(with_reducible refine (impl_OutPlace.calls a0_3 t480 _ A66.out).mono ?_);rintro e w' ⟨rfl,⟨nd,rfl⟩⟩;refine ⟨_,rfl,?_⟩;refine hK.out _ _ (cm4 BK470 (cn4 BK471)) (fun hHeld=>?_);clear hK K;refine nB ?_;refine oa 21 74 (mb 28 16777215) HT_ (fun K hK=>?_);refine gA Tryz.func138 #[.int .i64 a1_2] ?_;(with_reducible refine (impl_InPlace.calls a1_2 t481 _ A67.out).mono ?_);rintro e w' ⟨rfl,⟨nd,rfl⟩⟩;refine ⟨_,rfl,?_⟩;refine hK.out _ _ (cm4 BK470 (cn4 BK471)) (fun hHeld=>?_);clear hK K;refine nB ?_;refine oa 24 77 (mb 28 33554431) HT_ (fun K hK=>?_);refine gA Tryz.func139 #[.int .i64 a1_3] ?_;(with_reducible refine (impl_OutPlace.calls a1_3 t482 _ A68.out).mono ?_);rintro e w' ⟨rfl,⟨nd,rfl⟩⟩;refine ⟨_,rfl,?_⟩;refine hK.out _ _ (cm4 BK470 (cn4 BK471)) (fun hHeld=>?_);clear hK K;refine nB ?_;refine oa 25 78 (mb 28 67108863) HT_ (fun K hK=>?_);refine gA Tryz.func137 #[.int .i64 t479,.int .i64 t480,.int .i64 t481,.int .i64 t482] ?_;(with_reducible refine (impl_Interleave.calls kj2 t479 t480 t481 t482 t483 _ A69.out).mono ?_);rintro e w74 ⟨rfl,hb⟩;refine ⟨_,rfl,?_⟩;replace BK470:=kb BK470 hb;replace BK471:=kb BK471 hb;replace HB:=bs HB hb;(try clear hb);refine hK.out _ _ (cm4 BK470 (cn4 BK471)) (fun hHeld=>?_);clear hK K;refine nB ?_;refine pz [26,27] ?_;refine eA HT_ ?_;try go_wp2
   go_ret;exact ⟨rA,bG⟩

/-! ### impl_IsTogether: function 79 -/
mutual
def impl_IsTogether.l0:Nat→List (S69)→List Int→List Int→Int→Int→Option (Bool)
 | 0,_,_,_,_,_=>none
 | k + 1,x0,x1,x13,x14,x15=>if x15 < x14 then (if 0≤x15 then (if x15 < (x13.length:Int) then ((impl_FindPath.f x0 (rd x13 x15)).bind fun t486=>(if t486 < 0 then (impl_IsTogether.j1 k x0 x1 x15 t486 x13 x14 x15 true) else (if x15 > 0 then (if 0≤(wrap64 (x15 - 1)) then (if (wrap64 (x15 - 1)) < (x1.length:Int) then (impl_IsTogether.j1 k x0 x1 x15 t486 x13 x14 x15 (decide ((rd x13 x15)≤(rd x1 (wrap64 (x15 - 1)))))) else (none)) else (none)) else (impl_IsTogether.j1 k x0 x1 x15 t486 x13 x14 x15 false)))) else (none)) else (none)) else (some true)
def impl_IsTogether.j1:Nat→List (S69)→List Int→Int→Int→List Int→Int→Int→Bool→Option (Bool)
 | 0,_,_,_,_,_,_,_,_=>none
 | k + 1,x0,x1,x5,x7,x13,x14,x15,x37=>if x37=true then (some false) else (if 0≤x5 then (if x5≤(x1.length:Int) then (impl_IsTogether.l1 k x0 x1 x7 x13 x14 x15 (x1.take (x5:Int).toNat) ((x1.take (x5:Int).toNat).length:Int) 0) else (none)) else (none))
def impl_IsTogether.l1:Nat→List (S69)→List Int→Int→List Int→Int→Int→List Int→Int→Int→Option (Bool)
 | 0,_,_,_,_,_,_,_,_,_=>none
 | k + 1,x0,x1,x7,x13,x14,x15,x40,x41,x42=>if x42 < x41 then (if 0≤x42 then (if x42 < (x40.length:Int) then (if 0≤x7 then (if x7 < (x0.length:Int) then ((impl_FindPath.f x0 (rd x40 x42)).bind fun t491=>(if 0≤t491 then (if t491 < (x0.length:Int) then ((impl_Conflict.f k ((rd_T69 x0 x7).f0) ((rd_T69 x0 x7).f1) ((rd_T69 x0 x7).f2) ((rd_T69 x0 x7).f3) ((rd_T69 x0 t491).f0) ((rd_T69 x0 t491).f1) ((rd_T69 x0 t491).f2) ((rd_T69 x0 t491).f3)).bind fun t493=>(if t493=true then (some false) else (impl_IsTogether.l1 k x0 x1 x7 x13 x14 x15 x40 x41 (wrap64 (x42 + 1))))) else (none)) else (none))) else (none)) else (none)) else (none)) else (none)) else (impl_IsTogether.l0 k x0 x1 x13 x14 (wrap64 (x15 + 1)))
end
def impl_IsTogether.f (k:Nat) (l0:List (S69)) (l1:List Int):Option (Bool):=(impl_ArePaths.f k l0).bind fun t484=>(if t484=true then (impl_IsTogether.l0 k l0 l1 l1 (l1.length:Int) 0) else (some false))
theorem impl_IsTogether.mono_l:∀ k,(∀ y0 y1 y2 y3 y4,LeO (impl_IsTogether.l0 k y0 y1 y2 y3 y4) (impl_IsTogether.l0 (k + 1) y0 y1 y2 y3 y4))∧(∀ y0 y1 y2 y3 y4 y5 y6 y7,LeO (impl_IsTogether.j1 k y0 y1 y2 y3 y4 y5 y6 y7) (impl_IsTogether.j1 (k + 1) y0 y1 y2 y3 y4 y5 y6 y7))∧(∀ y0 y1 y2 y3 y4 y5 y6 y7 y8,LeO (impl_IsTogether.l1 k y0 y1 y2 y3 y4 y5 y6 y7 y8) (impl_IsTogether.l1 (k + 1) y0 y1 y2 y3 y4 y5 y6 y7 y8))
 | 0=>⟨fun _ _ _ _ _ r h=>by simp [impl_IsTogether.l0] at h,fun _ _ _ _ _ _ _ _ r h=>by simp [impl_IsTogether.j1] at h,fun _ _ _ _ _ _ _ _ _ r h=>by simp [impl_IsTogether.l1] at h⟩
 | k + 1=>by
  obtain ⟨ih0,ih1,ih2⟩:=impl_IsTogether.mono_l k;refine ⟨?_,?_,?_⟩
  ·intro y0 y1 y2 y3 y4;unfold impl_IsTogether.l0;exact mz5 ih0 ih1 ih2 impl_ArePaths.mono impl_Conflict.mono
  ·intro y0 y1 y2 y3 y4 y5 y6 y7;unfold impl_IsTogether.j1;exact mz5 ih0 ih1 ih2 impl_ArePaths.mono impl_Conflict.mono
  ·intro y0 y1 y2 y3 y4 y5 y6 y7 y8;unfold impl_IsTogether.l1;exact mz5 ih0 ih1 ih2 impl_ArePaths.mono impl_Conflict.mono
theorem impl_IsTogether.mono:∀ a0 a1 k,LeO (impl_IsTogether.f k a0 a1) (impl_IsTogether.f (k + 1) a0 a1):=by
 intro a0 a1 k;obtain ⟨ih0,ih1,ih2⟩:=impl_IsTogether.mono_l k;unfold impl_IsTogether.f;exact mz5 ih0 ih1 ih2 impl_ArePaths.mono impl_Conflict.mono
def impl_IsTogether.T12:Bool × List (List Nat × List Nat):=(true,[([],[]),([],[]),([0,1],[0,1]),([2],[2]),([],[]),([],[]),([],[]),([5,6],[5,6]),([4,7],[4,7]),([8],[8]),([3,9,7],[3,9])])
def impl_IsTogether.B12:List Nat:=[0,0,3,7,0,0,0,96,240,496,1023]
theorem impl_IsTogether.tab12:rtab .any (opsOf Tryz.f79 12)=impl_IsTogether.T12:=by kernel_rfl
theorem impl_IsTogether.bits12:waitsOk impl_IsTogether.T12.2 impl_IsTogether.B12=true:=by kernel_rfl
set_option maxHeartbeats 8000000 in
set_option maxRecDepth 100000 in
theorem impl_IsTogether.calls (k:Nat) (A0:Option Addr) (c0:Nat) (l0:List (S69)) (A1:Option Addr) (c1:Nat) (l1:List Int) (r:Bool) (w:World) (hr0:Kd.C k69 w A0 l0.length l0) (hc0:l0.length≤c0) (hr1:Kd.C (Kd.int .i64) w A1 l1.length l1) (hc1:l1.length≤c1) (h:impl_IsTogether.f k l0 l1=some r) :
  Calls Tryz.prog 79 #[.slice A0 l0.length c0,.slice A1 l1.length c1] w fun e w'=>e=.returned (.bool r)∧Below w.heap.size w w':=by
 have hu69:=Tryz.underlying69;have HR0:=am hr0;have HC0:=am hc0;clear hr0 hc0;have HR1:=am hr1;have HC1:=am hc1;clear hr1 hc1;have HB:=am (Below.refl w.heap.size w);unfold impl_IsTogether.f at h;have H:=h;clear h;obtain ⟨t484,A3,H⟩:=bindE H;try dsimp only at H
 by_cases c4:t484=true
 ·subst c4;rw [if_pos rfl] at H;have H':=am H;clear H;go_enter Tryz.func79,Tryz.ntmps79;go_wp2_with (first|((with_reducible refine gc 82 ?_);refine gL (some 11) Tryz.func82 #[.slice A0 l0.length c0] ?_;(with_reducible refine (impl_ArePaths.calls k _ _ l0 true _ ?_ ?_ A3.out).mono ?_);exact cO HR0;exact HC0.out;rintro e w5 ⟨rfl,hb⟩;refine ⟨_,rfl,?_⟩;replace HB:=bs HB hb;(try clear hb)));go_loopg [15] k (fun kq v15 w'=>∃ (x15_1:Int),v15=.int .i64 x15_1∧Aside0 (impl_IsTogether.l0 kq l0 l1 l1 (l1.length:Int) x15_1=some r)∧Aside0 (kq≤k)∧Aside0 (Below w.heap.size w w'))
  case atStart=>exact ⟨(0),rS,H',⟨Nat.le_refl _⟩,⟨bA⟩⟩
  case round =>
   clear H';obtain ⟨x15_1,rfl,HA,HK1,HB⟩:=hrel
   cases gk with
   | zero=>exact absurd HA.out (by simp [impl_IsTogether.l0])
   | succ k1 =>
    have H:=HA.out;clear HA;simp only [impl_IsTogether.l0] at H;by_cases c6:x15_1 < (l1.length:Int)
    ·rw [if_pos c6] at H;have c6b0:=dt c6;clear c6;have c7b0:=ifC H;replace H:=ifT H;have c8b0:=ifC H;replace H:=ifT H;obtain ⟨t486,A9,H⟩:=bindE H;try dsimp only at H
     have HC10:=am H;clear H;obtain ⟨p485,q485⟩:=pq x15_1 l1;obtain ⟨ad485,e485,hx485_0⟩:=Kd.at_int (Kd.C_below HR1.out HB.out) x15_1 p485 q485;cases e485;obtain ⟨p485,q485⟩:=eT p485 q485;go_upto_region 7 with (first|((with_reducible refine gc 83 ?_);refine gL (some 22) Tryz.func83 #[.slice A0 l0.length c0,.int .i64 (rd l1 x15_1)] ?_;(with_reducible refine (impl_FindPath.calls _ _ l0 (rd l1 x15_1) t486 _ ?_ ?_ A9.out).mono ?_);exact cB HR0;exact HC0.out;rintro e w11 ⟨rfl,hb⟩;refine ⟨_,rfl,?_⟩;replace HB:=bs HB hb;(try clear hb)));(try simp only [Act.put,List.setIfInBounds_toArray,List.set_cons_zero,List.set_cons_succ]);go_cut [37] (fun v37 wc=>∃ (kq:Nat) (x37_9:Bool),v37=.bool x37_9∧Aside0 (impl_IsTogether.j1 kq l0 l1 x15_1 t486 l1 (l1.length:Int) x15_1 x37_9=some r)∧Aside0 (kq≤k1)∧Aside0 (Below w.heap.size w wc))
     case first =>
      have H:=HC10.out;clear HC10;by_cases c12:t486 < 0
      ·rw [if_pos c12] at H;have c12b0:=dt c12;clear c12;(first|rw [c12b0]|(simp only [i64_w,i32_w];rw [c12b0])|skip);have H':=am H;clear H;go_wp2
       go_meet
       case rel=>exact ⟨_,(true),rS,H',⟨by have:=HK1.out;first|omega|exact Nat.le_refl _⟩,⟨bA⟩⟩
      rw [if_neg c12] at H;have c12b0:=df c12;clear c12;(first|rw [c12b0]|(simp only [i64_w,i32_w];rw [c12b0])|skip);by_cases c13:x15_1 > 0
      ·rw [if_pos c13] at H;have c13b0:=dt c13;clear c13;obtain ⟨ji14,hji14⟩:∃ j_:Int,(wrap64 (x15_1 - 1))=j_:=⟨_,rfl⟩;replace H:(if 0≤(ji14) then (if (ji14) < (l1.length:Int) then (impl_IsTogether.j1 k1 l0 l1 x15_1 t486 l1 (l1.length:Int) x15_1 (decide ((rd l1 x15_1)≤(rd l1 (ji14))))) else (none)) else (none))=some r:=by first|(rw [hji14] at H;exact H)|(simp only [hji14] at H ⊢;exact H)
       have hji14w:(IntKind.i64.wrap (x15_1 - 1))=ji14:=(i64_w _).trans hji14;have c15b0:=ifC H;replace H:=ifT H;have c16b0:=ifC H;replace H:=ifT H;have H':=am H;clear H;obtain ⟨p487,q487⟩:=pq (ji14) l1;obtain ⟨ad487,e487,hx487_0⟩:=Kd.at_int (Kd.C_below HR1.out HB.out) (ji14) p487 q487;obtain rfl:ad485=ad487:=(by injection e487);obtain ⟨p487,q487⟩:=eT p487 q487;go_wp2
       go_meet
       case rel=>exact ⟨_,(decide ((rd l1 x15_1)≤(rd l1 (ji14)))),(by first|rfl|(simp;done)|(simp only [← hji14] <;> (first|rfl|simp))|(simp [*];done)),H',⟨by have:=HK1.out;first|omega|exact Nat.le_refl _⟩,⟨bA⟩⟩
      rw [if_neg c13] at H;have c13b0:=df c13;clear c13;have H':=am H;clear H;go_wp2
      go_meet
      case rel=>exact ⟨_,(false),rS,H',⟨by have:=HK1.out;first|omega|exact Nat.le_refl _⟩,⟨bA⟩⟩
     case rest =>
      clear HC10;obtain ⟨kq,x37_9,rfl,HA,HJ9,HB⟩:=hcut
      cases kq with
      | zero=>exact absurd HA.out (by simp [impl_IsTogether.j1])
      | succ kj9 =>
       have H:=HA.out;clear HA;simp only [impl_IsTogether.j1] at H;by_cases c17:x37_9=true
       ·subst c17;rw [if_pos rfl] at H;obtain rfl:=oj H;go_wp2;go_ret;exact ⟨rA,bA⟩
       replace c17:=Bool.eq_false_iff.mpr c17;subst c17;rw [if_neg Bool.false_ne_true] at H;have c18:0≤x15_1:=ifN H;replace H:=ifT H;have c18b0:=eq_true c18;have c18b1:=dt c18;clear c18;have c19:x15_1≤(l1.length:Int):=ifN H;replace H:=ifT H;have c19b0:=eq_true c19;have c19b1:=dt c19;clear c19;have H':=am H;clear H;obtain ⟨i020,hi020,_,hsz20,_⟩:=info_parts info3;obtain ⟨hcut20,hA20,hC20⟩:=print_take_of (P:=Tryz.prog) (Value.int .i64) 0 28 3 .i64 Tryz.underlying28 hi020 hsz20 (some ad485) c1 l1 x15_1 (dA) (dA) HC1.out;have HR488:=am (Kd.C_of_reads (h1:=fun _=>rfl) (hA20 _ (Kd.reads_of_C HR1.out)));have HC488:=am hC20;clear hA20 hC20 hi020 hsz20;have HL488:=am (show (x15_1:Int)≤(l1.length:Int) from (dA));go_wp2;go_loopg [42] kj9 (fun kq v42 w'=>∃ (x42_3:Int),v42=.int .i64 x42_3∧Aside0 (impl_IsTogether.l1 kq l0 l1 t486 l1 (l1.length:Int) x15_1 (l1.take (x15_1:Int).toNat) ((l1.take (x15_1:Int).toNat).length:Int) x42_3=some r)∧Aside0 (kq≤kj9)∧Aside0 (Below w.heap.size w w'))
       case atStart=>exact ⟨(0),rS,H',⟨Nat.le_refl _⟩,⟨bA⟩⟩
       case round =>
        clear H';obtain ⟨x42_3,rfl,HA,HK3,HB⟩:=hrel
        cases gk with
        | zero=>exact absurd HA.out (by simp [impl_IsTogether.l1])
        | succ k3 =>
         have H:=HA.out;clear HA;simp only [impl_IsTogether.l1] at H;by_cases c21:x42_3 < ((l1.take (x15_1:Int).toNat).length:Int)
         ·rw [if_pos c21] at H;have c21b0:=dt c21;(try (have c21b1:decide (x42_3 < max x15_1 0)=true:=dt (by rw [List.length_take] at c21;omega)));clear c21;have c22b0:=ifC H;replace H:=ifT H;have c23:x42_3 < ((l1.take (x15_1:Int).toNat).length:Int):=ifN H;replace H:=ifT H;have c23b0:=dt c23;(try (have c23b1:decide (x42_3 < max x15_1 0)=true:=dt (by rw [List.length_take] at c23;omega)));clear c23;have c24b0:=ifC H;replace H:=ifT H;have c25b0:=ifC H;replace H:=ifT H;obtain ⟨t491,A26,H⟩:=bindE H;try dsimp only at H
          have c27b0:=ifC H;replace H:=ifT H;have c28b0:=ifC H;replace H:=ifT H;obtain ⟨t493,A29,H⟩:=bindE H;try dsimp only at H
          by_cases c30:t493=true
          ·subst c30;rw [if_pos rfl] at H;obtain rfl:=oj H;obtain ⟨p489,q489⟩:=pq x42_3 (l1.take (x15_1:Int).toNat);(try have q489m:(x42_3 < max x15_1 0)=True:=eq_true (of_decide_eq_true (by assumption)));obtain ⟨ad489,e489,hx489_0⟩:=Kd.at_int (Kd.C_below HR488.out HB.out) x42_3 p489 q489;obtain rfl:ad485=ad489:=(by injection e489);obtain ⟨p489,q489⟩:=eT p489 q489;try go_wp2
           have HBo:=HB;replace HB:=db HB;obtain ⟨p490,q490⟩:=pq t486 l0;obtain ⟨ad490,e490,hx490_0,hx490_1,hx490_2,hx490_3⟩:=at_T69 HR0.out t486 p490 q490;have hw490_3:=hx490_3;have hw490_2:=hx490_2;have hw490_1:=hx490_1;have hw490_0:=hx490_0;cases e490;replace hx490_0:=hC HB hx490_0;replace hx490_1:=hC HB hx490_1;replace hx490_2:=hC HB hx490_2;replace hx490_3:=hC HB hx490_3;obtain ⟨p490,q490⟩:=eT p490 q490;obtain ⟨p492,q492⟩:=pq t491 l0;obtain ⟨ad492,e492,hx492_0,hx492_1,hx492_2,hx492_3⟩:=at_T69 HR0.out t491 p492 q492;have hw492_3:=hx492_3;have hw492_2:=hx492_2;have hw492_1:=hx492_1;have hw492_0:=hx492_0;obtain rfl:ad490=ad492:=(by injection e492);replace hx492_0:=hC HB hx492_0;replace hx492_1:=hC HB hx492_1;replace hx492_2:=hC HB hx492_2;replace hx492_3:=hC HB hx492_3;obtain ⟨p492,q492⟩:=eT p492 q492;refine sw (ds:=[]) 11 (mb 11 0) impl_IsTogether.tab12 impl_IsTogether.bits12 (h1c (hC HB hw490_0) (h1c (hC HB hw490_1) (h1c (hC HB hw490_2) (h1c (hC HB hw490_3) (h1c (hC HB hw492_0) (h1c (hC HB hw492_1) (h1c (hC HB hw492_2) (h1 (hC HB hw492_3))))))))) (fun hHeld HT_ HW_=>?_);generalize wr.drew=w31 at HB hx490_0 hx490_1 hx490_2 hx490_3 hx492_0 hx492_1 hx492_2 hx492_3 hHeld ⊢;refine pz [0,1,2,4,5,6,3] ?_;refine oa 7 53 (mb 11 255) HT_ (fun K hK=>?_);refine gA Tryz.func83 #[.slice (some ad490) l0.length c0,.int .i64 (rd (l1.take (x15_1:Int).toNat) x42_3)] ?_;(with_reducible refine (impl_FindPath.calls _ _ l0 (rd (l1.take (x15_1:Int).toNat) x42_3) t491 _ ?_ ?_ A26.out).mono ?_);exact cB HR0;exact HC0.out;rintro e w32 ⟨rfl,hb⟩;refine ⟨_,rfl,?_⟩;replace HB:=bs HB hb;(try clear hb);refine hK.out _ _ hL (fun hHeld=>?_);clear hK K;refine nB ?_;refine pz [8,9] ?_;refine oa 10 56 (mb 11 2047) HT_ (fun K hK=>?_);refine gA Tryz.func111 #[.agg #[.int .i64 ((rd_T69 l0 t486).f0),.int .i64 ((rd_T69 l0 t486).f1),.int .i64 ((rd_T69 l0 t486).f2),.int .i64 ((rd_T69 l0 t486).f3)],.agg #[.int .i64 ((rd_T69 l0 t491).f0),.int .i64 ((rd_T69 l0 t491).f1),.int .i64 ((rd_T69 l0 t491).f2),.int .i64 ((rd_T69 l0 t491).f3)]] ?_;(with_reducible refine (impl_Conflict.calls k3 ((rd_T69 l0 t486).f0) ((rd_T69 l0 t486).f1) ((rd_T69 l0 t486).f2) ((rd_T69 l0 t486).f3) ((rd_T69 l0 t491).f0) ((rd_T69 l0 t491).f1) ((rd_T69 l0 t491).f2) ((rd_T69 l0 t491).f3) true _ A29.out).mono ?_);rintro e w33 ⟨rfl,hb⟩;refine ⟨_,rfl,?_⟩;replace HB:=bs HB hb;(try clear hb);refine hK.out _ _ hL (fun hHeld=>?_);clear hK K;refine nB ?_;refine eA HT_ ?_;try go_wp2
           go_ret;exact ⟨rA,bA⟩
          replace c30:=Bool.eq_false_iff.mpr c30;subst c30;rw [if_neg Bool.false_ne_true] at H;have H':=am H;clear H;obtain ⟨p489,q489⟩:=pq x42_3 (l1.take (x15_1:Int).toNat);(try have q489m:(x42_3 < max x15_1 0)=True:=eq_true (of_decide_eq_true (by assumption)));obtain ⟨ad489,e489,hx489_0⟩:=Kd.at_int (Kd.C_below HR488.out HB.out) x42_3 p489 q489;obtain rfl:ad485=ad489:=(by injection e489);obtain ⟨p489,q489⟩:=eT p489 q489;try go_wp2
          have HBo:=HB;replace HB:=db HB;obtain ⟨p490,q490⟩:=pq t486 l0;obtain ⟨ad490,e490,hx490_0,hx490_1,hx490_2,hx490_3⟩:=at_T69 HR0.out t486 p490 q490;have hw490_3:=hx490_3;have hw490_2:=hx490_2;have hw490_1:=hx490_1;have hw490_0:=hx490_0;cases e490;replace hx490_0:=hC HB hx490_0;replace hx490_1:=hC HB hx490_1;replace hx490_2:=hC HB hx490_2;replace hx490_3:=hC HB hx490_3;obtain ⟨p490,q490⟩:=eT p490 q490;obtain ⟨p492,q492⟩:=pq t491 l0;obtain ⟨ad492,e492,hx492_0,hx492_1,hx492_2,hx492_3⟩:=at_T69 HR0.out t491 p492 q492;have hw492_3:=hx492_3;have hw492_2:=hx492_2;have hw492_1:=hx492_1;have hw492_0:=hx492_0;obtain rfl:ad490=ad492:=(by injection e492);replace hx492_0:=hC HB hx492_0;replace hx492_1:=hC HB hx492_1;replace hx492_2:=hC HB hx492_2;replace hx492_3:=hC HB hx492_3;obtain ⟨p492,q492⟩:=eT p492 q492;refine sw (ds:=[]) 11 (mb 11 0) impl_IsTogether.tab12 impl_IsTogether.bits12 (h1c (hC HB hw490_0) (h1c (hC HB hw490_1) (h1c (hC HB hw490_2) (h1c (hC HB hw490_3) (h1c (hC HB hw492_0) (h1c (hC HB hw492_1) (h1c (hC HB hw492_2) (h1 (hC HB hw492_3))))))))) (fun hHeld HT_ HW_=>?_);generalize wr.drew=w34 at HB hx490_0 hx490_1 hx490_2 hx490_3 hx492_0 hx492_1 hx492_2 hx492_3 hHeld ⊢;refine pz [0,1,2,4,5,6,3] ?_;refine oa 7 53 (mb 11 255) HT_ (fun K hK=>?_);refine gA Tryz.func83 #[.slice (some ad490) l0.length c0,.int .i64 (rd (l1.take (x15_1:Int).toNat) x42_3)] ?_;(with_reducible refine (impl_FindPath.calls _ _ l0 (rd (l1.take (x15_1:Int).toNat) x42_3) t491 _ ?_ ?_ A26.out).mono ?_);exact cB HR0;exact HC0.out;rintro e w35 ⟨rfl,hb⟩;refine ⟨_,rfl,?_⟩;replace HB:=bs HB hb;(try clear hb);refine hK.out _ _ hL (fun hHeld=>?_);clear hK K;refine nB ?_;refine pz [8,9] ?_;refine oa 10 56 (mb 11 2047) HT_ (fun K hK=>?_);refine gA Tryz.func111 #[.agg #[.int .i64 ((rd_T69 l0 t486).f0),.int .i64 ((rd_T69 l0 t486).f1),.int .i64 ((rd_T69 l0 t486).f2),.int .i64 ((rd_T69 l0 t486).f3)],.agg #[.int .i64 ((rd_T69 l0 t491).f0),.int .i64 ((rd_T69 l0 t491).f1),.int .i64 ((rd_T69 l0 t491).f2),.int .i64 ((rd_T69 l0 t491).f3)]] ?_;(with_reducible refine (impl_Conflict.calls k3 ((rd_T69 l0 t486).f0) ((rd_T69 l0 t486).f1) ((rd_T69 l0 t486).f2) ((rd_T69 l0 t486).f3) ((rd_T69 l0 t491).f0) ((rd_T69 l0 t491).f1) ((rd_T69 l0 t491).f2) ((rd_T69 l0 t491).f3) false _ A29.out).mono ?_);rintro e w36 ⟨rfl,hb⟩;refine ⟨_,rfl,?_⟩;replace HB:=bs HB hb;(try clear hb);refine hK.out _ _ hL (fun hHeld=>?_);clear hK K;refine nB ?_;refine eA HT_ ?_;try go_wp2
          go_roundg k3
          case measure=>have:=HK1.out;have:=HJ9.out;have:=HK3.out;omega
          case rel=>exact ⟨(wrap64 (x42_3 + 1)),rS,H',⟨by have:=HK1.out;have:=HJ9.out;have:=HK3.out;omega⟩,⟨bA⟩⟩
         rw [if_neg c21] at H;have c21b0:=df c21;(try (have c21b1:decide (x42_3 < max x15_1 0)=false:=df (by have g_:x15_1≤(l1.length:Int):=(by first|exact dA|exact Int.le_of_lt dA|exact (show Aside0 (x15_1≤(l1.length:Int)) by assumption).out);rw [List.length_take] at c21;omega)));clear c21;have H':=am H;clear H;go_wp2;go_roundg k3
         case measure=>have:=HK1.out;have:=HJ9.out;have:=HK3.out;omega
         case rel=>exact ⟨(wrap64 (x15_1 + 1)),rS,H',⟨by have:=HK1.out;have:=HJ9.out;have:=HK3.out;omega⟩,⟨bA⟩⟩
    rw [if_neg c6] at H;have c6b0:=df c6;clear c6;obtain rfl:=oj H;go_wp2;go_ret;exact ⟨rA,bA⟩
 replace c4:=Bool.eq_false_iff.mpr c4;subst c4;rw [if_neg Bool.false_ne_true] at H;obtain rfl:=oj H;go_enter Tryz.func79,Tryz.ntmps79;go_wp2_with (first|((with_reducible refine gc 82 ?_);refine gL (some 11) Tryz.func82 #[.slice A0 l0.length c0] ?_;(with_reducible refine (impl_ArePaths.calls k _ _ l0 false _ ?_ ?_ A3.out).mono ?_);exact cO HR0;exact HC0.out;rintro e w37 ⟨rfl,hb⟩;refine ⟨_,rfl,?_⟩;replace HB:=bs HB hb;(try clear hb)));go_ret;exact ⟨rA,bA⟩

/-! ### slices_Index_int_int: function 143 -/
def slices_Index_int_int.l0:Nat→List Int→Int→Int→Int→Option (Int)
 | 0,_,_,_,_=>none
 | k + 1,x0,x1,x7,x8=>if x8 < x7 then (if 0≤x8 then (if x8 < (x0.length:Int) then (if x1=(rd x0 x8) then (some x8) else (slices_Index_int_int.l0 k x0 x1 x7 (wrap64 (x8 + 1)))) else (none)) else (none)) else (some (-1))
def slices_Index_int_int.f (k:Nat) (l0:List Int) (a1:Int):Option (Int):=slices_Index_int_int.l0 k l0 a1 (l0.length:Int) 0
theorem slices_Index_int_int.mono_l:∀ k,(∀ y0 y1 y2 y3,LeO (slices_Index_int_int.l0 k y0 y1 y2 y3) (slices_Index_int_int.l0 (k + 1) y0 y1 y2 y3))
 | 0=>fun _ _ _ _ r h=>by simp [slices_Index_int_int.l0] at h
 | k + 1=>by
  have ih0:=slices_Index_int_int.mono_l k
  ·intro y0 y1 y2 y3;unfold slices_Index_int_int.l0;exact mz1 ih0
theorem slices_Index_int_int.mono:∀ a0 a1 k,LeO (slices_Index_int_int.f k a0 a1) (slices_Index_int_int.f (k + 1) a0 a1):=by
 intro a0 a1 k;have ih0:=slices_Index_int_int.mono_l k;unfold slices_Index_int_int.f;exact mz1 ih0
set_option maxHeartbeats 8000000 in
set_option maxRecDepth 100000 in
theorem slices_Index_int_int.calls (k:Nat) (A0:Option Addr) (c0:Nat) (l0:List Int) (a1:Int) (r:Int) (w:World) (hr0:Kd.C (Kd.int .i64) w A0 l0.length l0) (hc0:l0.length≤c0) (h:slices_Index_int_int.f k l0 a1=some r) :
  Calls Tryz.prog 143 #[.slice A0 l0.length c0,.int .i64 a1] w fun e w'=>e=.returned (.int .i64 r)∧Drawn0 w w':=by
 have HR0:=am hr0;have HC0:=am hc0;clear hr0 hc0;unfold slices_Index_int_int.f at h;have H:=h;clear h;have H':=am H;clear H;go_enter Tryz.func143,Tryz.ntmps143;go_wp2;go_loopg [8] k (fun kq v8 w'=>∃ (x8_1:Int),v8=.int .i64 x8_1∧Aside0 (slices_Index_int_int.l0 kq l0 a1 (l0.length:Int) x8_1=some r)∧Aside0 (kq≤k)∧Drawn0 w w')
 case atStart=>exact ⟨(0),rS,H',⟨Nat.le_refl _⟩,by repeat (first|exact Drawn0.refl _|apply Drawn0.step)⟩
 case round =>
  clear H';obtain ⟨x8_1,rfl,HA,HK1,⟨m1,rfl⟩⟩:=hrel
  cases gk with
  | zero=>exact absurd HA.out (by simp [slices_Index_int_int.l0])
  | succ k1 =>
   have H:=HA.out;clear HA;simp only [slices_Index_int_int.l0] at H;by_cases c3:x8_1 < (l0.length:Int)
   ·rw [if_pos c3] at H;have c3b0:=dt c3;clear c3;have c4b0:=ifC H;replace H:=ifT H;have c5b0:=ifC H;replace H:=ifT H;by_cases c6:a1=(rd l0 x8_1)
    ·rw [if_pos c6] at H;obtain ⟨c6b0,c6b1⟩:=eI c6;clear c6;obtain rfl:=oj H;obtain ⟨p494,q494⟩:=pq x8_1 l0;obtain ⟨ad494,e494,hx494_0⟩:=Kd.at_int HR0.out x8_1 p494 q494;cases e494;obtain ⟨p494,q494⟩:=eT p494 q494;go_wp2;go_ret;exact ⟨rS,dD⟩
    rw [if_neg c6] at H;obtain ⟨c6b0,c6b1⟩:=nI c6;have H':=am H;clear H;obtain ⟨p494,q494⟩:=pq x8_1 l0;obtain ⟨ad494,e494,hx494_0⟩:=Kd.at_int HR0.out x8_1 p494 q494;cases e494;obtain ⟨p494,q494⟩:=eT p494 q494;go_wp2;go_roundg k1
    case measure=>have:=HK1.out;omega
    case rel=>exact ⟨(wrap64 (x8_1 + 1)),rS,H',⟨by have:=HK1.out;omega⟩,by repeat (first|exact Drawn0.refl _|apply Drawn0.step)⟩
   rw [if_neg c3] at H;have c3b0:=df c3;clear c3;obtain rfl:=oj H;go_wp2;go_ret;exact ⟨rS,dD⟩

/-! ### slices_Contains_int_int: function 120 -/
def slices_Contains_int_int.f (k:Nat) (l0:List Int) (a1:Int):Option (Bool):=(slices_Index_int_int.f k l0 a1).bind fun t495=>(some (decide (t495≥0)))
theorem slices_Contains_int_int.mono:∀ a0 a1 k,LeO (slices_Contains_int_int.f k a0 a1) (slices_Contains_int_int.f (k + 1) a0 a1):=by
 intro a0 a1 k;unfold slices_Contains_int_int.f;exact mz1 slices_Index_int_int.mono
set_option maxHeartbeats 8000000 in
set_option maxRecDepth 100000 in
theorem slices_Contains_int_int.calls (k:Nat) (A0:Option Addr) (c0:Nat) (l0:List Int) (a1:Int) (r:Bool) (w:World) (hr0:Kd.C (Kd.int .i64) w A0 l0.length l0) (hc0:l0.length≤c0) (h:slices_Contains_int_int.f k l0 a1=some r) :
  Calls Tryz.prog 120 #[.slice A0 l0.length c0,.int .i64 a1] w fun e w'=>e=.returned (.bool r)∧Drawn0 w w':=by
 have HR0:=am hr0;have HC0:=am hc0;clear hr0 hc0;unfold slices_Contains_int_int.f at h;have H:=h;clear h;obtain ⟨t495,A3,H⟩:=bindE H;try dsimp only at H
 obtain rfl:=oj H;go_enter Tryz.func120,Tryz.ntmps120;go_wp2_with (first|((with_reducible refine gc 143 ?_);refine gL (some 7) Tryz.func143 #[.slice A0 l0.length c0,.int .i64 a1] ?_;(with_reducible refine (slices_Index_int_int.calls k _ _ l0 a1 t495 _ ?_ ?_ A3.out).mono ?_);exact cO HR0;exact HC0.out;rintro e w' ⟨rfl,⟨nd,rfl⟩⟩;refine ⟨_,rfl,?_⟩));go_ret;exact ⟨rS,dD⟩

/-! ### impl_sieve: function 140 -/
def impl_sieve.l0:Nat→List Int→Bool→List Int→List Int→Int→Int→Option (List Int)
 | 0,_,_,_,_,_,_=>none
 | k + 1,x1,x2,x7,x11,x12,x13=>if x13 < x12 then (if 0≤x13 then (if x13 < (x11.length:Int) then ((slices_Contains_int_int.f k x1 (rd x11 x13)).bind fun t500=>(if (t500 == x2)=true then (if x7.length < 17592186044416 then (impl_sieve.l0 k x1 x2 (x7 ++ [rd x11 x13]) x11 x12 (wrap64 (x13 + 1))) else (none)) else (impl_sieve.l0 k x1 x2 x7 x11 x12 (wrap64 (x13 + 1))))) else (none)) else (none)) else (some x7)
def impl_sieve.f (k:Nat) (l0:List Int) (l1:List Int) (a2:Bool):Option (List Int):=impl_sieve.l0 k l1 a2 (([]:List Int)) l0 (l0.length:Int) 0
theorem impl_sieve.mono_l:∀ k,(∀ y0 y1 y2 y3 y4 y5,LeO (impl_sieve.l0 k y0 y1 y2 y3 y4 y5) (impl_sieve.l0 (k + 1) y0 y1 y2 y3 y4 y5))
 | 0=>fun _ _ _ _ _ _ r h=>by simp [impl_sieve.l0] at h
 | k + 1=>by
  have ih0:=impl_sieve.mono_l k
  ·intro y0 y1 y2 y3 y4 y5;unfold impl_sieve.l0;exact mz2 ih0 slices_Contains_int_int.mono
theorem impl_sieve.mono:∀ a0 a1 a2 k,LeO (impl_sieve.f k a0 a1 a2) (impl_sieve.f (k + 1) a0 a1 a2):=by
 intro a0 a1 a2 k;have ih0:=impl_sieve.mono_l k;unfold impl_sieve.f;exact mz2 ih0 slices_Contains_int_int.mono
set_option maxHeartbeats 8000000 in
set_option maxRecDepth 100000 in
theorem impl_sieve.calls (k:Nat) (A0:Option Addr) (c0:Nat) (l0:List Int) (A1:Option Addr) (c1:Nat) (l1:List Int) (a2:Bool) (r:List Int) (w:World) (hr0:Kd.C (Kd.int .i64) w A0 l0.length l0) (hc0:l0.length≤c0) (hr1:Kd.C (Kd.int .i64) w A1 l1.length l1) (hc1:l1.length≤c1) (h:impl_sieve.f k l0 l1 a2=some r) :
  Calls Tryz.prog 140 #[.slice A0 l0.length c0,.slice A1 l1.length c1,.bool a2] w fun e w'=>∃ v0_:Value,e=.returned (v0_)∧Kd.R (Kd.int .i64) 3 w' w.heap.size (fun _=>True) v0_ r∧Below w.heap.size w w':=by
 have HR0:=am hr0;have HC0:=am hc0;clear hr0 hc0;have HR1:=am hr1;have HC1:=am hc1;clear hr1 hc1;have HB:=am (Below.refl w.heap.size w);unfold impl_sieve.f at h;have H:=h;clear h;obtain ⟨y496,hy496⟩:∃ y_:List Int,y_=(([]:List Int)):=⟨_,rfl⟩;replace H:(impl_sieve.l0 k l1 a2 y496 l0 (l0.length:Int) 0)=some r:=rH H hy496;have Ny496:=am hy496;clear hy496;have H':=am H;clear H;go_enter Tryz.func140,Tryz.ntmps140;go_wp2_with (first|((with_reducible refine gd 10 ?_);refine Kd.R_lit (Kd.int .i64) _ 3 ?hg (N:=10) ?hd (xs:=([]:List Int)) (inner:=[]) (ok:=fun _=>True) (okp:=fun _=>True) ?hr ?hp (fun _ hk=>hk) trivial (Below.refl _ _) (Nat.le_refl _) (by simp) ?_;(case hd=>rfl);(case hg=>rfl);(case hr=>first|(go_simp;done)|(go_simp;rfl));(case hp=>exact (Reps.none _ _));intro v497 w4 ho5 hb hg_ hnew_;clear hg_ hnew_;(first|rw [← Ny496.out] at ho5|(simp only [Int.reduceToNat] at ho5;rw [← Ny496.out] at ho5));have HO498:=rl w ho5;replace HB:=bs HB hb;clear hb ho5));go_loopg [7,13] k (fun kq v7 v13 w'=>∃ (x7_1:List Int) (x13_1:Int),v13=.int .i64 x13_1∧Aside0 (impl_sieve.l0 kq l1 a2 x7_1 l0 (l0.length:Int) x13_1=some r)∧Aside0 (kq≤k)∧Aside0 (Kd.R (Kd.int .i64) 3 w' w.heap.size (fun _=>True) v7 x7_1)∧Aside0 (Below w.heap.size w w'))
 case atStart=>exact ⟨(y496),(0),rS,H',⟨Nat.le_refl _⟩,⟨rK HO498⟩,⟨bA⟩⟩
 case round =>
  clear H';obtain ⟨x7_1,x13_1,rfl,HA,HK1,HO_7,HB⟩:=hrel
  cases gk with
  | zero=>exact absurd HA.out (by simp [impl_sieve.l0])
  | succ k1 =>
   have H:=HA.out;clear HA;simp only [impl_sieve.l0] at H;by_cases c6:x13_1 < (l0.length:Int)
   ·rw [if_pos c6] at H;have c6b0:=dt c6;clear c6;have c7b0:=ifC H;replace H:=ifT H;have c8b0:=ifC H;replace H:=ifT H;obtain ⟨t500,A9,H⟩:=bindE H;try dsimp only at H
    by_cases c10:(t500 == a2)=true
    ·rw [if_pos c10] at H;have c10b0:(t500 == a2)=true:=c10;(try (have c10b1:decide (t500=a2)=true:=by simpa using c10));(try (have c10b2:(t500 == a2)=true:=by simpa using c10));clear c10;have c11:x7_1.length < 17592186044416:=ifN H;replace H:=ifT H;have LMc11:=am c11;clear c11;obtain ⟨y501,hy501⟩:∃ y_:List Int,y_=(x7_1 ++ [rd l0 x13_1]):=⟨_,rfl⟩;replace H:=rF H hy501;have Ny501:=am hy501;clear hy501;have H':=am H;clear H;obtain ⟨p499,q499⟩:=pq x13_1 l0;obtain ⟨ad499,e499,hx499_0⟩:=Kd.at_int (Kd.C_below HR0.out HB.out) x13_1 p499 q499;cases e499;obtain ⟨p499,q499⟩:=eT p499 q499;go_wp2_with (first|((with_reducible refine gc 120 ?_);refine gL (some 19) Tryz.func120 #[.slice A1 l1.length c1,.int .i64 (rd l0 x13_1)] ?_;(with_reducible refine (slices_Contains_int_int.calls k1 _ _ l1 (rd l0 x13_1) t500 _ ?_ ?_ A9.out).mono ?_);exact cB HR1;exact HC1.out;rintro e w' ⟨rfl,⟨nd,rfl⟩⟩;refine ⟨_,rfl,?_⟩)|((with_reducible refine gate_builtin (b:=.append) (xs:=#[.tmp 22,.tmp 24]) rfl ?_);at_builtin;refine Kd.R_append (Kd.int .i64) (w0:=w) w.heap.size rfl (.tmp 22) (.tmp 24) 28 3 (.int .i64 0) 8 rfl Tryz.underlying28 info3 rfl (by decide) (by omega) u7 x7_1 (rd l0 x13_1) [.int .i64 (rd l0 x13_1)] (fun _=>True) (fun _=>False) rfl rfl ?aP (fun _ hk=>hk.elim) ?aF ?aO ?aB ?aS ?aL ?_;(case aP=>exact rfl);(case aB=>exact bA);(case aF=>exact (fun _ _=>trivial));(case aO=>exact (rK HO_7));(case aS=>exact (below_size bA));(case aL=>have:=LMc11.out;omega);intro v502 w12 ho hb hg hat;rw [← Ny501.out] at ho;have n0_:=am (hb);have n1_:=am (ho);clear HB;clear HO_7;have HB:=n0_;have HO503:=n1_;clear n0_ n1_;clear ho hb hg hat));go_roundg k1
     case measure=>have:=HK1.out;omega
     case rel=>exact ⟨(y501),(wrap64 (x13_1 + 1)),rS,H',⟨by have:=HK1.out;omega⟩,⟨rK HO503⟩,⟨bA⟩⟩
    rw [if_neg c10] at H;have c10b0:(t500 == a2)=false:=by simpa using c10
    (try (have c10b1:decide (t500=a2)=false:=by simpa using c10));(try (have c10b2:(t500 == a2)=false:=by simpa using c10));(try (have c10b3:¬ (t500=a2):=by simpa using c10));clear c10;have H':=am H;clear H;obtain ⟨p499,q499⟩:=pq x13_1 l0;obtain ⟨ad499,e499,hx499_0⟩:=Kd.at_int (Kd.C_below HR0.out HB.out) x13_1 p499 q499;cases e499;obtain ⟨p499,q499⟩:=eT p499 q499;go_wp2_with (first|((with_reducible refine gc 120 ?_);refine gL (some 19) Tryz.func120 #[.slice A1 l1.length c1,.int .i64 (rd l0 x13_1)] ?_;(with_reducible refine (slices_Contains_int_int.calls k1 _ _ l1 (rd l0 x13_1) t500 _ ?_ ?_ A9.out).mono ?_);exact cB HR1;exact HC1.out;rintro e w' ⟨rfl,⟨nd,rfl⟩⟩;refine ⟨_,rfl,?_⟩));go_roundg k1
    case measure=>have:=HK1.out;omega
    case rel=>exact ⟨(x7_1),(wrap64 (x13_1 + 1)),rS,H',⟨by have:=HK1.out;omega⟩,⟨rK HO_7⟩,⟨bA⟩⟩
   rw [if_neg c6] at H;have c6b0:=df c6;clear c6;obtain rfl:=oj H;go_wp2;go_ret;exact ⟨_,rA,rK HO_7,bA⟩

/-! ### impl_Closes: function 112 -/
def impl_Closes.f (k:Nat) (l0:List Int) (l1:List Int):Option (List Int):=(impl_sieve.f k l0 l1 false).bind fun t504=>(some t504)
theorem impl_Closes.mono:∀ a0 a1 k,LeO (impl_Closes.f k a0 a1) (impl_Closes.f (k + 1) a0 a1):=by
 intro a0 a1 k;unfold impl_Closes.f;exact mz1 impl_sieve.mono
set_option maxHeartbeats 8000000 in
set_option maxRecDepth 100000 in
theorem impl_Closes.calls (k:Nat) (A0:Option Addr) (c0:Nat) (l0:List Int) (A1:Option Addr) (c1:Nat) (l1:List Int) (r:List Int) (w:World) (hr0:Kd.C (Kd.int .i64) w A0 l0.length l0) (hc0:l0.length≤c0) (hr1:Kd.C (Kd.int .i64) w A1 l1.length l1) (hc1:l1.length≤c1) (h:impl_Closes.f k l0 l1=some r) :
  Calls Tryz.prog 112 #[.slice A0 l0.length c0,.slice A1 l1.length c1] w fun e w'=>∃ v0_:Value,e=.returned (v0_)∧Kd.R (Kd.int .i64) 3 w' w.heap.size (fun _=>True) v0_ r∧Below w.heap.size w w':=by
 have HR0:=am hr0;have HC0:=am hc0;clear hr0 hc0;have HR1:=am hr1;have HC1:=am hc1;clear hr1 hc1;have HB:=am (Below.refl w.heap.size w);unfold impl_Closes.f at h;have H:=h;clear h;obtain ⟨t504,A3,H⟩:=bindE H;try dsimp only at H
 obtain rfl:=oj H;go_enter Tryz.func112,Tryz.ntmps112;go_wp2_with (first|((with_reducible refine gc 140 ?_);refine gL (some 7) Tryz.func140 #[.slice A0 l0.length c0,.slice A1 l1.length c1,.bool false] ?_;(with_reducible refine (impl_sieve.calls k _ _ l0 _ _ l1 false t504 _ ?_ ?_ ?_ ?_ A3.out).mono ?_);exact cO HR0;exact HC0.out;exact cO HR1;exact HC1.out;rintro e w4 ⟨v505,rfl,ho0,hb⟩;refine ⟨_,rfl,?_⟩;have HO506:=rl w ho0;replace HB:=bs HB hb;(try clear hb);(try clear ho0)));go_ret;exact ⟨_,rA,rK HO506,bA⟩

/-! ### impl_ClearOf: function 113 -/
def impl_ClearOf.f (a0_0:Int) (a0_1:Int) (a0_2:Int) (a0_3:Int):Option (Int):=(impl_IsPath.f a0_0 a0_1 a0_2 a0_3).bind fun t508=>(if t508=true then (if a0_1=1 then (some 2) else (if a0_1=3 then (some 3) else (some 5))) else (some 0))
set_option maxHeartbeats 8000000 in
set_option maxRecDepth 100000 in
theorem impl_ClearOf.calls (a0_0:Int) (a0_1:Int) (a0_2:Int) (a0_3:Int) (r:Int) (w:World) (h:impl_ClearOf.f a0_0 a0_1 a0_2 a0_3=some r) :
  Calls Tryz.prog 113 #[.agg #[.int .i64 a0_0,.int .i64 a0_1,.int .i64 a0_2,.int .i64 a0_3]] w fun e w'=>e=.returned (.int .i64 r)∧Below w.heap.size w w':=by
 have hu69:=Tryz.underlying69;have HB:=am (Below.refl w.heap.size w);unfold impl_ClearOf.f at h;have H:=h;clear h;obtain ⟨t508,A2,H⟩:=bindE H;try dsimp only at H
 by_cases c3:t508=true
 ·subst c3;rw [if_pos rfl] at H;by_cases c4:a0_1=1
  ·rw [if_pos c4] at H;obtain ⟨c4b0,c4b1⟩:=eI c4;clear c4;obtain rfl:=oj H;go_enter Tryz.func113,Tryz.ntmps113;go_wp2_with (first|((with_reducible refine gd 1 ?_);refine bF w 1 #[.int .i64 a0_0,.int .i64 a0_1,.int .i64 a0_2,.int .i64 a0_3] 69 ?_;rintro gb507 w5 BK507 GW507 GE507 hb hg;replace HB:=bs HB hb;clear hb hg;obtain ⟨_,_,_,_,_,_,_,_⟩:=blkc4 BK507)|((with_reducible refine gc 114 ?_);refine gL (some 4) Tryz.func114 #[.agg #[.int .i64 a0_0,.int .i64 a0_1,.int .i64 a0_2,.int .i64 a0_3]] ?_;(with_reducible refine (impl_IsPath.calls a0_0 a0_1 a0_2 a0_3 true _ A2.out).mono ?_);rintro e w7 ⟨rfl,hb⟩;refine ⟨_,rfl,?_⟩;replace BK507:=kb BK507 hb;replace HB:=bs HB hb;(try clear hb);obtain ⟨_,_,_,_,_,_,_,_⟩:=blkc4 BK507));go_ret;exact ⟨rA,bG⟩
  rw [if_neg c4] at H;obtain ⟨c4b0,c4b1⟩:=nI c4;by_cases c9:a0_1=3
  ·rw [if_pos c9] at H;obtain ⟨c9b0,c9b1⟩:=eI c9;clear c9;obtain rfl:=oj H;go_enter Tryz.func113,Tryz.ntmps113;go_wp2_with (first|((with_reducible refine gd 1 ?_);refine bF w 1 #[.int .i64 a0_0,.int .i64 a0_1,.int .i64 a0_2,.int .i64 a0_3] 69 ?_;rintro gb507 w10 BK507 GW507 GE507 hb hg;replace HB:=bs HB hb;clear hb hg;obtain ⟨_,_,_,_,_,_,_,_⟩:=blkc4 BK507)|((with_reducible refine gc 114 ?_);refine gL (some 4) Tryz.func114 #[.agg #[.int .i64 a0_0,.int .i64 a0_1,.int .i64 a0_2,.int .i64 a0_3]] ?_;(with_reducible refine (impl_IsPath.calls a0_0 a0_1 a0_2 a0_3 true _ A2.out).mono ?_);rintro e w12 ⟨rfl,hb⟩;refine ⟨_,rfl,?_⟩;replace BK507:=kb BK507 hb;replace HB:=bs HB hb;(try clear hb);obtain ⟨_,_,_,_,_,_,_,_⟩:=blkc4 BK507));go_ret;exact ⟨rA,bG⟩
  rw [if_neg c9] at H;obtain ⟨c9b0,c9b1⟩:=nI c9;obtain rfl:=oj H;go_enter Tryz.func113,Tryz.ntmps113;go_wp2_with (first|((with_reducible refine gd 1 ?_);refine bF w 1 #[.int .i64 a0_0,.int .i64 a0_1,.int .i64 a0_2,.int .i64 a0_3] 69 ?_;rintro gb507 w14 BK507 GW507 GE507 hb hg;replace HB:=bs HB hb;clear hb hg;obtain ⟨_,_,_,_,_,_,_,_⟩:=blkc4 BK507)|((with_reducible refine gc 114 ?_);refine gL (some 4) Tryz.func114 #[.agg #[.int .i64 a0_0,.int .i64 a0_1,.int .i64 a0_2,.int .i64 a0_3]] ?_;(with_reducible refine (impl_IsPath.calls a0_0 a0_1 a0_2 a0_3 true _ A2.out).mono ?_);rintro e w16 ⟨rfl,hb⟩;refine ⟨_,rfl,?_⟩;replace BK507:=kb BK507 hb;replace HB:=bs HB hb;(try clear hb);obtain ⟨_,_,_,_,_,_,_,_⟩:=blkc4 BK507));go_ret;exact ⟨rA,bG⟩
 replace c3:=Bool.eq_false_iff.mpr c3;subst c3;rw [if_neg Bool.false_ne_true] at H;obtain rfl:=oj H;go_enter Tryz.func113,Tryz.ntmps113;go_wp2_with (first|((with_reducible refine gd 1 ?_);refine bF w 1 #[.int .i64 a0_0,.int .i64 a0_1,.int .i64 a0_2,.int .i64 a0_3] 69 ?_;rintro gb507 w18 BK507 GW507 GE507 hb hg;replace HB:=bs HB hb;clear hb hg;obtain ⟨_,_,_,_,_,_,_,_⟩:=blkc4 BK507)|((with_reducible refine gc 114 ?_);refine gL (some 4) Tryz.func114 #[.agg #[.int .i64 a0_0,.int .i64 a0_1,.int .i64 a0_2,.int .i64 a0_3]] ?_;(with_reducible refine (impl_IsPath.calls a0_0 a0_1 a0_2 a0_3 false _ A2.out).mono ?_);rintro e w20 ⟨rfl,hb⟩;refine ⟨_,rfl,?_⟩;replace BK507:=kb BK507 hb;replace HB:=bs HB hb;(try clear hb)));go_ret;exact ⟨rA,bG⟩

/-! ### impl_ClearBetween: function 81 -/
mutual
def impl_ClearBetween.j0:Nat→List (S69)→List Int→List Int→Int→Bool→Option (Int)
 | 0,_,_,_,_,_=>none
 | k + 1,x0,x1,x2,x7,x22=>if x22=true then (some x7) else ((impl_Closes.f k x1 x2).bind fun t511=>(impl_ClearBetween.l0 k x0 x1 x2 x7 t511 (t511.length:Int) 0))
def impl_ClearBetween.l0:Nat→List (S69)→List Int→List Int→Int→List Int→Int→Int→Option (Int)
 | 0,_,_,_,_,_,_,_=>none
 | k + 1,x0,x1,x2,x7,x26,x27,x28=>if x28 < x27 then (if 0≤x28 then (if x28 < (x26.length:Int) then ((impl_Closes.f k x2 x1).bind fun t515=>(impl_ClearBetween.l1 k x0 x1 x2 x7 (rd x26 x28) x26 x27 x28 t515 (t515.length:Int) 0)) else (none)) else (none)) else (some x7)
def impl_ClearBetween.l1:Nat→List (S69)→List Int→List Int→Int→Int→List Int→Int→Int→List Int→Int→Int→Option (Int)
 | 0,_,_,_,_,_,_,_,_,_,_,_=>none
 | k + 1,x0,x1,x2,x7,x9,x26,x27,x28,x34,x35,x36=>if x36 < x35 then (if 0≤x36 then (if x36 < (x34.length:Int) then ((impl_FindPath.f x0 x9).bind fun t519=>(if 0≤t519 then (if t519 < (x0.length:Int) then ((impl_FindPath.f x0 (rd x34 x36)).bind fun t522=>(if 0≤t522 then (if t522 < (x0.length:Int) then ((impl_Conflict.f k ((rd_T69 x0 t519).f0) ((rd_T69 x0 t519).f1) ((rd_T69 x0 t519).f2) ((rd_T69 x0 t519).f3) ((rd_T69 x0 t522).f0) ((rd_T69 x0 t522).f1) ((rd_T69 x0 t522).f2) ((rd_T69 x0 t522).f3)).bind fun t524=>(if t524=true then ((impl_ClearOf.f ((rd_T69 x0 t519).f0) ((rd_T69 x0 t519).f1) ((rd_T69 x0 t519).f2) ((rd_T69 x0 t519).f3)).bind fun t525=>(impl_ClearBetween.l1 k x0 x1 x2 (mx x7 t525) x9 x26 x27 x28 x34 x35 (wrap64 (x36 + 1)))) else (impl_ClearBetween.l1 k x0 x1 x2 x7 x9 x26 x27 x28 x34 x35 (wrap64 (x36 + 1))))) else (none)) else (none))) else (none)) else (none))) else (none)) else (none)) else (impl_ClearBetween.l0 k x0 x1 x2 x7 x26 x27 (wrap64 (x28 + 1)))
end
def impl_ClearBetween.f (k:Nat) (l0:List (S69)) (l1:List Int) (l2:List Int):Option (Int):=(impl_IsTogether.f k l0 l1).bind fun t509=>(if t509=true then ((impl_IsTogether.f k l0 l2).bind fun t510=>(impl_ClearBetween.j0 k l0 l1 l2 0 (!t510))) else (impl_ClearBetween.j0 k l0 l1 l2 0 true))
theorem impl_ClearBetween.mono_l:∀ k,(∀ y0 y1 y2 y3 y4,LeO (impl_ClearBetween.j0 k y0 y1 y2 y3 y4) (impl_ClearBetween.j0 (k + 1) y0 y1 y2 y3 y4))∧(∀ y0 y1 y2 y3 y4 y5 y6,LeO (impl_ClearBetween.l0 k y0 y1 y2 y3 y4 y5 y6) (impl_ClearBetween.l0 (k + 1) y0 y1 y2 y3 y4 y5 y6))∧(∀ y0 y1 y2 y3 y4 y5 y6 y7 y8 y9 y10,LeO (impl_ClearBetween.l1 k y0 y1 y2 y3 y4 y5 y6 y7 y8 y9 y10) (impl_ClearBetween.l1 (k + 1) y0 y1 y2 y3 y4 y5 y6 y7 y8 y9 y10))
 | 0=>⟨fun _ _ _ _ _ r h=>by simp [impl_ClearBetween.j0] at h,fun _ _ _ _ _ _ _ r h=>by simp [impl_ClearBetween.l0] at h,fun _ _ _ _ _ _ _ _ _ _ _ r h=>by simp [impl_ClearBetween.l1] at h⟩
 | k + 1=>by
  obtain ⟨ih0,ih1,ih2⟩:=impl_ClearBetween.mono_l k;refine ⟨?_,?_,?_⟩
  ·intro y0 y1 y2 y3 y4;unfold impl_ClearBetween.j0;exact mz6 ih0 ih1 ih2 impl_Closes.mono impl_Conflict.mono impl_IsTogether.mono
  ·intro y0 y1 y2 y3 y4 y5 y6;unfold impl_ClearBetween.l0;exact mz6 ih0 ih1 ih2 impl_Closes.mono impl_Conflict.mono impl_IsTogether.mono
  ·intro y0 y1 y2 y3 y4 y5 y6 y7 y8 y9 y10;unfold impl_ClearBetween.l1;exact mz6 ih0 ih1 ih2 impl_Closes.mono impl_Conflict.mono impl_IsTogether.mono
theorem impl_ClearBetween.mono:∀ a0 a1 a2 k,LeO (impl_ClearBetween.f k a0 a1 a2) (impl_ClearBetween.f (k + 1) a0 a1 a2):=by
 intro a0 a1 a2 k;obtain ⟨ih0,ih1,ih2⟩:=impl_ClearBetween.mono_l k;unfold impl_ClearBetween.f;exact mz6 ih0 ih1 ih2 impl_Closes.mono impl_Conflict.mono impl_IsTogether.mono
def impl_ClearBetween.T11:Bool × List (List Nat × List Nat):=(true,[([],[]),([],[]),([],[]),([],[]),([2,3],[2,3]),([1,4],[1,4]),([5],[5]),([0,6,4],[0,6])])
def impl_ClearBetween.B11:List Nat:=[0,0,0,0,12,30,62,127]
theorem impl_ClearBetween.tab11:rtab .any (opsOf Tryz.f81 11)=impl_ClearBetween.T11:=by kernel_rfl
theorem impl_ClearBetween.bits11:waitsOk impl_ClearBetween.T11.2 impl_ClearBetween.B11=true:=by kernel_rfl
set_option maxHeartbeats 8000000 in
set_option maxRecDepth 100000 in
theorem impl_ClearBetween.calls (k:Nat) (A0:Option Addr) (c0:Nat) (l0:List (S69)) (A1:Option Addr) (c1:Nat) (l1:List Int) (A2:Option Addr) (c2:Nat) (l2:List Int) (r:Int) (w:World) (hr0:Kd.C k69 w A0 l0.length l0) (hc0:l0.length≤c0) (hr1:Kd.C (Kd.int .i64) w A1 l1.length l1) (hc1:l1.length≤c1) (hr2:Kd.C (Kd.int .i64) w A2 l2.length l2) (hc2:l2.length≤c2) (h:impl_ClearBetween.f k l0 l1 l2=some r) :
  Calls Tryz.prog 81 #[.slice A0 l0.length c0,.slice A1 l1.length c1,.slice A2 l2.length c2] w fun e w'=>e=.returned (.int .i64 r)∧Below w.heap.size w w':=by
 have hu69:=Tryz.underlying69;have HR0:=am hr0;have HC0:=am hc0;clear hr0 hc0;have HR1:=am hr1;have HC1:=am hc1;clear hr1 hc1;have HR2:=am hr2;have HC2:=am hc2;clear hr2 hc2;have HB:=am (Below.refl w.heap.size w);unfold impl_ClearBetween.f at h;have H:=h;clear h;have HC4:=am H;clear H;go_enter Tryz.func81,Tryz.ntmps81;go_upto_region 2 with (fail);go_cut [22] (fun v22 wc=>∃ (kq:Nat) (x22_3:Bool),v22=.bool x22_3∧Aside0 (impl_ClearBetween.j0 kq l0 l1 l2 0 x22_3=some r)∧Aside0 (kq≤k)∧Aside0 (Below w.heap.size w wc))
 case first =>
  have H:=HC4.out;clear HC4;obtain ⟨t509,A5,H⟩:=bindE H;try dsimp only at H
  by_cases c6:t509=true
  ·subst c6;rw [if_pos rfl] at H;obtain ⟨t510,A7,H⟩:=bindE H;try dsimp only at H
   have H':=am H;clear H;go_wp2_with (first|((with_reducible refine gc 79 ?_);refine gL (some 15) Tryz.func79 #[.slice A0 l0.length c0,.slice A1 l1.length c1] ?_;(with_reducible refine (impl_IsTogether.calls k _ _ l0 _ _ l1 true _ ?_ ?_ ?_ ?_ A5.out).mono ?_);exact cB HR0;exact HC0.out;exact cB HR1;exact HC1.out;rintro e w8 ⟨rfl,hb⟩;refine ⟨_,rfl,?_⟩;replace HB:=bs HB hb;(try clear hb))|(go_at_call 79;(with_reducible refine (impl_IsTogether.calls k _ _ l0 _ _ l2 t510 _ ?_ ?_ ?_ ?_ A7.out).mono ?_);exact cB HR0;exact HC0.out;exact cB HR2;exact HC2.out;rintro e w9 ⟨rfl,hb⟩;replace HB:=bs HB hb;(try clear hb)))
   go_meet
   case rel=>exact ⟨_,(!t510),rS,H',⟨oL⟩,⟨bA⟩⟩
  replace c6:=Bool.eq_false_iff.mpr c6;subst c6;rw [if_neg Bool.false_ne_true] at H;have H':=am H;clear H;go_wp2_with (first|((with_reducible refine gc 79 ?_);refine gL (some 15) Tryz.func79 #[.slice A0 l0.length c0,.slice A1 l1.length c1] ?_;(with_reducible refine (impl_IsTogether.calls k _ _ l0 _ _ l1 false _ ?_ ?_ ?_ ?_ A5.out).mono ?_);exact cB HR0;exact HC0.out;exact cB HR1;exact HC1.out;rintro e w10 ⟨rfl,hb⟩;refine ⟨_,rfl,?_⟩;replace HB:=bs HB hb;(try clear hb)))
  go_meet
  case rel=>exact ⟨_,(true),rS,H',⟨oL⟩,⟨bA⟩⟩
 case rest =>
  clear HC4;obtain ⟨kq,x22_3,rfl,HA,HJ3,HB⟩:=hcut
  cases kq with
  | zero=>exact absurd HA.out (by simp [impl_ClearBetween.j0])
  | succ kj3 =>
   have H:=HA.out;clear HA;simp only [impl_ClearBetween.j0] at H;by_cases c11:x22_3=true
   ·subst c11;rw [if_pos rfl] at H;obtain rfl:=oj H;go_wp2;go_ret;exact ⟨rA,bA⟩
   replace c11:=Bool.eq_false_iff.mpr c11;subst c11;rw [if_neg Bool.false_ne_true] at H;obtain ⟨t511,A12,H⟩:=bindE H;try dsimp only at H
   have H':=am H;clear H;go_wp2_with (first|((with_reducible refine gc 112 ?_);refine gL (some 26) Tryz.func112 #[.slice A1 l1.length c1,.slice A2 l2.length c2] ?_;(with_reducible refine (impl_Closes.calls kj3 _ _ l1 _ _ l2 t511 _ ?_ ?_ ?_ ?_ A12.out).mono ?_);exact cB HR1;exact HC1.out;exact cB HR2;exact HC2.out;rintro e w13 ⟨v512,rfl,ho0,hb⟩;refine ⟨_,rfl,?_⟩;have HO513:=rl w ho0;replace HB:=bs HB hb;(try clear hb);(try clear ho0);obtain ⟨Ao14,co14,eo14⟩:=Kd.R_slice HO513.out;subst eo14));go_loopg [7,28] kj3 (fun kq v7 v28 w'=>∃ (x7_2:Int) (x28_2:Int),v7=.int .i64 x7_2∧v28=.int .i64 x28_2∧Aside0 (impl_ClearBetween.l0 kq l0 l1 l2 x7_2 t511 (t511.length:Int) x28_2=some r)∧Aside0 (kq≤kj3)∧Aside0 (Kd.R (Kd.int .i64) 3 w' w.heap.size (fun _=>True) (.slice Ao14 t511.length co14) t511)∧Aside0 (Below w.heap.size w w'))
   case atStart=>exact ⟨(0),(0),rS,rS,H',⟨Nat.le_refl _⟩,⟨rK HO513⟩,⟨bA⟩⟩
   case round =>
    clear H';obtain ⟨x7_2,x28_2,rfl,rfl,HA,HK2,HO_26,HB⟩:=hrel
    cases gk with
    | zero=>exact absurd HA.out (by simp [impl_ClearBetween.l0])
    | succ k2 =>
     have H:=HA.out;clear HA;simp only [impl_ClearBetween.l0] at H;by_cases c15:x28_2 < (t511.length:Int)
     ·rw [if_pos c15] at H;have c15b0:=dt c15;clear c15;have c16b0:=ifC H;replace H:=ifT H;have c17b0:=ifC H;replace H:=ifT H;obtain ⟨t515,A18,H⟩:=bindE H;try dsimp only at H
      have H':=am H;clear H;obtain ⟨p514,q514⟩:=pq x28_2 t511;obtain ⟨ad514,e514,hx514_0⟩:=Kd.at_int (Kd.R_reads' HO_26.out).2.2 x28_2 p514 q514;cases e514;obtain ⟨p514,q514⟩:=eT p514 q514;go_wp2_with (first|((with_reducible refine gc 112 ?_);refine gL (some 34) Tryz.func112 #[.slice A2 l2.length c2,.slice A1 l1.length c1] ?_;(with_reducible refine (impl_Closes.calls k2 _ _ l2 _ _ l1 t515 _ ?_ ?_ ?_ ?_ A18.out).mono ?_);exact cB HR2;exact HC2.out;exact cB HR1;exact HC1.out;rintro e w19 ⟨v516,rfl,ho0,hb⟩;refine ⟨_,rfl,?_⟩;have HO517:=rl w (rn ho0 HO_26);replace HO_26:=re HO_26 ho0 hb;replace HB:=bs HB hb;(try clear hb);(try clear ho0);obtain ⟨Ao20,co20,eo20⟩:=Kd.R_slice HO517.out;subst eo20));go_loopg [7,36] k2 (fun kq v7 v36 w'=>∃ (x7_3:Int) (x36_3:Int),v7=.int .i64 x7_3∧v36=.int .i64 x36_3∧Aside0 (impl_ClearBetween.l1 kq l0 l1 l2 x7_3 (rd t511 x28_2) t511 (t511.length:Int) x28_2 t515 (t515.length:Int) x36_3=some r)∧Aside0 (kq≤k2)∧Aside0 (Kd.R (Kd.int .i64) 3 w' w.heap.size (n1 (.slice Ao20 t515.length co20)) (.slice (some ad514) t511.length co14) t511)∧Aside0 (Kd.R (Kd.int .i64) 3 w' w.heap.size (n1 (.slice (some ad514) t511.length co14)) (.slice Ao20 t515.length co20) t515)∧Aside0 (Below w.heap.size w w'))
      case atStart=>exact ⟨(x7_2),(0),rS,rS,H',⟨Nat.le_refl _⟩,⟨rm HO_26 (fun _ hk=>hk.2)⟩,⟨rm HO517 (fun _ hk=>hk.2)⟩,⟨bA⟩⟩
      case round =>
       clear H';obtain ⟨x7_3,x36_3,rfl,rfl,HA,HK3,HO_26,HO_34,HB⟩:=hrel
       cases gk with
       | zero=>exact absurd HA.out (by simp [impl_ClearBetween.l1])
       | succ k3 =>
        have H:=HA.out;clear HA;simp only [impl_ClearBetween.l1] at H;by_cases c21:x36_3 < (t515.length:Int)
        ·rw [if_pos c21] at H;have c21b0:=dt c21;clear c21;have c22b0:=ifC H;replace H:=ifT H;have c23b0:=ifC H;replace H:=ifT H;obtain ⟨t519,A24,H⟩:=bindE H;try dsimp only at H
         have c25b0:=ifC H;replace H:=ifT H;have c26b0:=ifC H;replace H:=ifT H;obtain ⟨t522,A27,H⟩:=bindE H;try dsimp only at H
         have c28b0:=ifC H;replace H:=ifT H;have c29b0:=ifC H;replace H:=ifT H;obtain ⟨t524,A30,H⟩:=bindE H;try dsimp only at H
         by_cases c31:t524=true
         ·subst c31;rw [if_pos rfl] at H;obtain ⟨t525,A32,H⟩:=bindE H;try dsimp only at H
          obtain ⟨ji33,hji33⟩:∃ j_:Int,(mx x7_3 t525)=j_:=⟨_,rfl⟩;replace H:(impl_ClearBetween.l1 k3 l0 l1 l2 ji33 (rd t511 x28_2) t511 (t511.length:Int) x28_2 t515 (t515.length:Int) (wrap64 (x36_3 + 1)))=some r:=by first|(rw [hji33] at H;exact H)|(simp only [hji33] at H ⊢;exact H)
          (try rw [hji33] at A24);(try rw [hji33] at A27);(try rw [hji33] at A30);(try rw [hji33] at A32);have hji33_:(if x7_3 < t525 then t525 else x7_3)=ji33:=hji33;have H':=am H;clear H;obtain ⟨p518,q518⟩:=pq x36_3 t515;obtain ⟨ad518,e518,hx518_0⟩:=Kd.at_int (Kd.R_reads' HO_34.out).2.2 x36_3 p518 q518;cases e518;obtain ⟨p518,q518⟩:=eT p518 q518;try go_wp2_with (first|((with_reducible refine gc 83 ?_);refine gL (some 43) Tryz.func83 #[.slice A0 l0.length c0,.int .i64 (rd t511 x28_2)] ?_;(with_reducible refine (impl_FindPath.calls _ _ l0 (rd t511 x28_2) t519 _ ?_ ?_ A24.out).mono ?_);exact cB HR0;exact HC0.out;rintro e w34 ⟨rfl,hb⟩;refine ⟨_,rfl,?_⟩;replace HO_26:=rb HO_26 hb;replace HO_34:=rb HO_34 hb;replace HB:=bs HB hb;(try clear hb);have p520:0≤(t519:Int):=dA;have q520:t519 < (l0.length:Int):=dA;obtain ⟨ad520,e520,hx520_0,hx520_1,hx520_2,hx520_3⟩:=at_T69 HR0.out t519 p520 q520;cases e520;replace hx520_0:=hC HB hx520_0;replace hx520_1:=hC HB hx520_1;replace hx520_2:=hC HB hx520_2;replace hx520_3:=hC HB hx520_3;replace p520:=eq_true p520;replace q520:=eq_true q520)|((with_reducible refine gd 12 ?_);refine bF w 12 #[.int .i64 0,.int .i64 0,.int .i64 0,.int .i64 0] 69 ?_;rintro gb521 w35 BK521 GW521 GE521 hb hg;replace HO_26:=rb HO_26 hb;replace HO_34:=rb HO_34 hb;replace HB:=bs HB hb;clear hb hg;obtain ⟨_,_,_,_,_,_,_,_⟩:=blkc4 BK521))
          have n0_:Aside0 (Kd.R (Kd.int .i64) 3 ((((w35.setCell ⟨gb521,0,none⟩ (.int .i64 ((rd_T69 l0 t519).f0))).setCell ⟨gb521,1,none⟩ (.int .i64 ((rd_T69 l0 t519).f1))).setCell ⟨gb521,2,none⟩ (.int .i64 ((rd_T69 l0 t519).f2))).setCell ⟨gb521,3,none⟩ (.int .i64 ((rd_T69 l0 t519).f3))) w.heap.size (n1 (.slice (some ad518) t515.length co20)) (.slice (some ad514) t511.length co14) t511):=⟨rf HO_26 BK521⟩;have n1_:Aside0 (Kd.R (Kd.int .i64) 3 ((((w35.setCell ⟨gb521,0,none⟩ (.int .i64 ((rd_T69 l0 t519).f0))).setCell ⟨gb521,1,none⟩ (.int .i64 ((rd_T69 l0 t519).f1))).setCell ⟨gb521,2,none⟩ (.int .i64 ((rd_T69 l0 t519).f2))).setCell ⟨gb521,3,none⟩ (.int .i64 ((rd_T69 l0 t519).f3))) w.heap.size (n1 (.slice (some ad514) t511.length co14)) (.slice (some ad518) t515.length co20) t515):=⟨rf HO_34 BK521⟩;have n2_:Aside0 (((((w35.setCell ⟨gb521,0,none⟩ (.int .i64 ((rd_T69 l0 t519).f0))).setCell ⟨gb521,1,none⟩ (.int .i64 ((rd_T69 l0 t519).f1))).setCell ⟨gb521,2,none⟩ (.int .i64 ((rd_T69 l0 t519).f2))).setCell ⟨gb521,3,none⟩ (.int .i64 ((rd_T69 l0 t519).f3))).heap[gb521]?=some (.cells #[.int .i64 ((rd_T69 l0 t519).f0),.int .i64 ((rd_T69 l0 t519).f1),.int .i64 ((rd_T69 l0 t519).f2),.int .i64 ((rd_T69 l0 t519).f3)] 69 (0,0))):=⟨kp BK521⟩;have n3_:Aside0 (Below w.heap.size w ((((w35.setCell ⟨gb521,0,none⟩ (.int .i64 ((rd_T69 l0 t519).f0))).setCell ⟨gb521,1,none⟩ (.int .i64 ((rd_T69 l0 t519).f1))).setCell ⟨gb521,2,none⟩ (.int .i64 ((rd_T69 l0 t519).f2))).setCell ⟨gb521,3,none⟩ (.int .i64 ((rd_T69 l0 t519).f3)))):=⟨bG⟩;(try clear HO_26);(try clear HO_34);(try clear BK521);(try clear HB);generalize ((((w35.setCell ⟨gb521,0,none⟩ (.int .i64 ((rd_T69 l0 t519).f0))).setCell ⟨gb521,1,none⟩ (.int .i64 ((rd_T69 l0 t519).f1))).setCell ⟨gb521,2,none⟩ (.int .i64 ((rd_T69 l0 t519).f2))).setCell ⟨gb521,3,none⟩ (.int .i64 ((rd_T69 l0 t519).f3)))=w37 at n0_ n1_ n2_ n3_ ⊢;have HO_26:=n0_;have HO_34:=n1_;have BK521:=n2_;have HB:=n3_;clear n0_ n1_ n2_ n3_;replace HO_26:=dr HO_26;replace HO_34:=dr HO_34;replace BK521:=dk BK521;have HBo:=HB;replace HB:=db HB;obtain ⟨p523,q523⟩:=pq t522 l0;obtain ⟨ad523,e523,hx523_0,hx523_1,hx523_2,hx523_3⟩:=at_T69 HR0.out t522 p523 q523;have hw523_3:=hx523_3;have hw523_2:=hx523_2;have hw523_1:=hx523_1;have hw523_0:=hx523_0;obtain rfl:ad520=ad523:=(by injection e523);replace hx523_0:=hC HB hx523_0;replace hx523_1:=hC HB hx523_1;replace hx523_2:=hC HB hx523_2;replace hx523_3:=hC HB hx523_3;obtain ⟨p523,q523⟩:=eT p523 q523;refine sw (ds:=[]) 8 (mb 8 0) impl_ClearBetween.tab11 impl_ClearBetween.bits11 (h4c BK521 (h1c (hC HB hw523_0) (h1c (hC HB hw523_1) (h1c (hC HB hw523_2) (h1 (hC HB hw523_3)))))) (fun hHeld HT_ HW_=>?_);generalize w37.drew=w38 at HO_26 HO_34 BK521 HB hx523_0 hx523_1 hx523_2 hx523_3 hHeld ⊢;refine pz [1,2,3,0] ?_;refine oa 4 50 (mb 8 31) HT_ (fun K hK=>?_);refine gA Tryz.func83 #[.slice (some ad520) l0.length c0,.int .i64 (rd t515 x36_3)] ?_;(with_reducible refine (impl_FindPath.calls _ _ l0 (rd t515 x36_3) t522 _ ?_ ?_ A27.out).mono ?_);exact cB HR0;exact HC0.out;rintro e w39 ⟨rfl,hb⟩;refine ⟨_,rfl,?_⟩;replace HO_26:=rb HO_26 hb;replace HO_34:=rb HO_34 hb;replace BK521:=kb BK521 hb;replace HB:=bs HB hb;(try clear hb);refine hK.out _ _ (cm4 BK521 hL) (fun hHeld=>?_);clear hK K;refine nB ?_;refine pz [5,6] ?_;refine oa 7 53 (mb 8 255) HT_ (fun K hK=>?_);refine gA Tryz.func111 #[.agg #[.int .i64 ((rd_T69 l0 t519).f0),.int .i64 ((rd_T69 l0 t519).f1),.int .i64 ((rd_T69 l0 t519).f2),.int .i64 ((rd_T69 l0 t519).f3)],.agg #[.int .i64 ((rd_T69 l0 t522).f0),.int .i64 ((rd_T69 l0 t522).f1),.int .i64 ((rd_T69 l0 t522).f2),.int .i64 ((rd_T69 l0 t522).f3)]] ?_;(with_reducible refine (impl_Conflict.calls k3 ((rd_T69 l0 t519).f0) ((rd_T69 l0 t519).f1) ((rd_T69 l0 t519).f2) ((rd_T69 l0 t519).f3) ((rd_T69 l0 t522).f0) ((rd_T69 l0 t522).f1) ((rd_T69 l0 t522).f2) ((rd_T69 l0 t522).f3) true _ A30.out).mono ?_)
          rintro e w40 ⟨rfl,hb⟩;refine ⟨_,rfl,?_⟩;replace HO_26:=rb HO_26 hb;replace HO_34:=rb HO_34 hb;replace BK521:=kb BK521 hb;replace HB:=bs HB hb;(try clear hb);refine hK.out _ _ (cm4 BK521 hL) (fun hHeld=>?_);clear hK K;refine nB ?_;refine eA HT_ ?_;obtain ⟨_,_,_,_,_,_,_,_⟩:=blkc4 BK521;try go_wp2_with (first|((with_reducible refine gc 113 ?_);refine gL (some 56) Tryz.func113 #[.agg #[.int .i64 ((rd_T69 l0 t519).f0),.int .i64 ((rd_T69 l0 t519).f1),.int .i64 ((rd_T69 l0 t519).f2),.int .i64 ((rd_T69 l0 t519).f3)]] ?_;(with_reducible refine (impl_ClearOf.calls ((rd_T69 l0 t519).f0) ((rd_T69 l0 t519).f1) ((rd_T69 l0 t519).f2) ((rd_T69 l0 t519).f3) t525 _ A32.out).mono ?_);rintro e w42 ⟨rfl,hb⟩;refine ⟨_,rfl,?_⟩;replace HO_26:=rb HO_26 hb;replace HO_34:=rb HO_34 hb;replace BK521:=kb BK521 hb;replace HB:=bs HB hb;(try clear hb)))
          go_roundg k3
          case measure=>have:=HJ3.out;have:=HK2.out;have:=HK3.out;omega
          case rel=>exact ⟨(ji33),(wrap64 (x36_3 + 1)),(by first|rfl|(simp;done)|(simp only [← hji33] <;> (first|rfl|simp))|(simp [*];done)),rS,H',⟨by have:=HJ3.out;have:=HK2.out;have:=HK3.out;omega⟩,⟨rK HO_26⟩,⟨rK HO_34⟩,⟨bG⟩⟩
         replace c31:=Bool.eq_false_iff.mpr c31;subst c31;rw [if_neg Bool.false_ne_true] at H;have H':=am H;clear H;obtain ⟨p518,q518⟩:=pq x36_3 t515;obtain ⟨ad518,e518,hx518_0⟩:=Kd.at_int (Kd.R_reads' HO_34.out).2.2 x36_3 p518 q518;cases e518;obtain ⟨p518,q518⟩:=eT p518 q518;try go_wp2_with (first|((with_reducible refine gc 83 ?_);refine gL (some 43) Tryz.func83 #[.slice A0 l0.length c0,.int .i64 (rd t511 x28_2)] ?_;(with_reducible refine (impl_FindPath.calls _ _ l0 (rd t511 x28_2) t519 _ ?_ ?_ A24.out).mono ?_);exact cB HR0;exact HC0.out;rintro e w43 ⟨rfl,hb⟩;refine ⟨_,rfl,?_⟩;replace HO_26:=rb HO_26 hb;replace HO_34:=rb HO_34 hb;replace HB:=bs HB hb;(try clear hb);have p520:0≤(t519:Int):=dA;have q520:t519 < (l0.length:Int):=dA;obtain ⟨ad520,e520,hx520_0,hx520_1,hx520_2,hx520_3⟩:=at_T69 HR0.out t519 p520 q520;cases e520;replace hx520_0:=hC HB hx520_0;replace hx520_1:=hC HB hx520_1;replace hx520_2:=hC HB hx520_2;replace hx520_3:=hC HB hx520_3;replace p520:=eq_true p520;replace q520:=eq_true q520)|((with_reducible refine gd 12 ?_);refine bF w 12 #[.int .i64 0,.int .i64 0,.int .i64 0,.int .i64 0] 69 ?_;rintro gb521 w44 BK521 GW521 GE521 hb hg;replace HO_26:=rb HO_26 hb;replace HO_34:=rb HO_34 hb;replace HB:=bs HB hb;clear hb hg;obtain ⟨_,_,_,_,_,_,_,_⟩:=blkc4 BK521))
         have n0_:Aside0 (Kd.R (Kd.int .i64) 3 ((((w44.setCell ⟨gb521,0,none⟩ (.int .i64 ((rd_T69 l0 t519).f0))).setCell ⟨gb521,1,none⟩ (.int .i64 ((rd_T69 l0 t519).f1))).setCell ⟨gb521,2,none⟩ (.int .i64 ((rd_T69 l0 t519).f2))).setCell ⟨gb521,3,none⟩ (.int .i64 ((rd_T69 l0 t519).f3))) w.heap.size (n1 (.slice (some ad518) t515.length co20)) (.slice (some ad514) t511.length co14) t511):=⟨rf HO_26 BK521⟩;have n1_:Aside0 (Kd.R (Kd.int .i64) 3 ((((w44.setCell ⟨gb521,0,none⟩ (.int .i64 ((rd_T69 l0 t519).f0))).setCell ⟨gb521,1,none⟩ (.int .i64 ((rd_T69 l0 t519).f1))).setCell ⟨gb521,2,none⟩ (.int .i64 ((rd_T69 l0 t519).f2))).setCell ⟨gb521,3,none⟩ (.int .i64 ((rd_T69 l0 t519).f3))) w.heap.size (n1 (.slice (some ad514) t511.length co14)) (.slice (some ad518) t515.length co20) t515):=⟨rf HO_34 BK521⟩;have n2_:Aside0 (((((w44.setCell ⟨gb521,0,none⟩ (.int .i64 ((rd_T69 l0 t519).f0))).setCell ⟨gb521,1,none⟩ (.int .i64 ((rd_T69 l0 t519).f1))).setCell ⟨gb521,2,none⟩ (.int .i64 ((rd_T69 l0 t519).f2))).setCell ⟨gb521,3,none⟩ (.int .i64 ((rd_T69 l0 t519).f3))).heap[gb521]?=some (.cells #[.int .i64 ((rd_T69 l0 t519).f0),.int .i64 ((rd_T69 l0 t519).f1),.int .i64 ((rd_T69 l0 t519).f2),.int .i64 ((rd_T69 l0 t519).f3)] 69 (0,0))):=⟨kp BK521⟩;have n3_:Aside0 (Below w.heap.size w ((((w44.setCell ⟨gb521,0,none⟩ (.int .i64 ((rd_T69 l0 t519).f0))).setCell ⟨gb521,1,none⟩ (.int .i64 ((rd_T69 l0 t519).f1))).setCell ⟨gb521,2,none⟩ (.int .i64 ((rd_T69 l0 t519).f2))).setCell ⟨gb521,3,none⟩ (.int .i64 ((rd_T69 l0 t519).f3)))):=⟨bG⟩;(try clear HO_26);(try clear HO_34);(try clear BK521);(try clear HB);generalize ((((w44.setCell ⟨gb521,0,none⟩ (.int .i64 ((rd_T69 l0 t519).f0))).setCell ⟨gb521,1,none⟩ (.int .i64 ((rd_T69 l0 t519).f1))).setCell ⟨gb521,2,none⟩ (.int .i64 ((rd_T69 l0 t519).f2))).setCell ⟨gb521,3,none⟩ (.int .i64 ((rd_T69 l0 t519).f3)))=w46 at n0_ n1_ n2_ n3_ ⊢;have HO_26:=n0_;have HO_34:=n1_;have BK521:=n2_;have HB:=n3_;clear n0_ n1_ n2_ n3_;replace HO_26:=dr HO_26;replace HO_34:=dr HO_34;replace BK521:=dk BK521;have HBo:=HB;replace HB:=db HB;obtain ⟨p523,q523⟩:=pq t522 l0;obtain ⟨ad523,e523,hx523_0,hx523_1,hx523_2,hx523_3⟩:=at_T69 HR0.out t522 p523 q523;have hw523_3:=hx523_3;have hw523_2:=hx523_2;have hw523_1:=hx523_1;have hw523_0:=hx523_0;obtain rfl:ad520=ad523:=(by injection e523);replace hx523_0:=hC HB hx523_0;replace hx523_1:=hC HB hx523_1;replace hx523_2:=hC HB hx523_2;replace hx523_3:=hC HB hx523_3;obtain ⟨p523,q523⟩:=eT p523 q523;refine sw (ds:=[]) 8 (mb 8 0) impl_ClearBetween.tab11 impl_ClearBetween.bits11 (h4c BK521 (h1c (hC HB hw523_0) (h1c (hC HB hw523_1) (h1c (hC HB hw523_2) (h1 (hC HB hw523_3)))))) (fun hHeld HT_ HW_=>?_);generalize w46.drew=w47 at HO_26 HO_34 BK521 HB hx523_0 hx523_1 hx523_2 hx523_3 hHeld ⊢;refine pz [1,2,3,0] ?_;refine oa 4 50 (mb 8 31) HT_ (fun K hK=>?_);refine gA Tryz.func83 #[.slice (some ad520) l0.length c0,.int .i64 (rd t515 x36_3)] ?_;(with_reducible refine (impl_FindPath.calls _ _ l0 (rd t515 x36_3) t522 _ ?_ ?_ A27.out).mono ?_);exact cB HR0;exact HC0.out;rintro e w48 ⟨rfl,hb⟩;refine ⟨_,rfl,?_⟩;replace HO_26:=rb HO_26 hb;replace HO_34:=rb HO_34 hb;replace BK521:=kb BK521 hb;replace HB:=bs HB hb;(try clear hb);refine hK.out _ _ (cm4 BK521 hL) (fun hHeld=>?_);clear hK K;refine nB ?_;refine pz [5,6] ?_;refine oa 7 53 (mb 8 255) HT_ (fun K hK=>?_);refine gA Tryz.func111 #[.agg #[.int .i64 ((rd_T69 l0 t519).f0),.int .i64 ((rd_T69 l0 t519).f1),.int .i64 ((rd_T69 l0 t519).f2),.int .i64 ((rd_T69 l0 t519).f3)],.agg #[.int .i64 ((rd_T69 l0 t522).f0),.int .i64 ((rd_T69 l0 t522).f1),.int .i64 ((rd_T69 l0 t522).f2),.int .i64 ((rd_T69 l0 t522).f3)]] ?_;(with_reducible refine (impl_Conflict.calls k3 ((rd_T69 l0 t519).f0) ((rd_T69 l0 t519).f1) ((rd_T69 l0 t519).f2) ((rd_T69 l0 t519).f3) ((rd_T69 l0 t522).f0) ((rd_T69 l0 t522).f1) ((rd_T69 l0 t522).f2) ((rd_T69 l0 t522).f3) false _ A30.out).mono ?_)
         rintro e w49 ⟨rfl,hb⟩;refine ⟨_,rfl,?_⟩;replace HO_26:=rb HO_26 hb;replace HO_34:=rb HO_34 hb;replace BK521:=kb BK521 hb;replace HB:=bs HB hb;(try clear hb);refine hK.out _ _ (cm4 BK521 hL) (fun hHeld=>?_);clear hK K;refine nB ?_;refine eA HT_ ?_;try go_wp2
         go_roundg k3
         case measure=>have:=HJ3.out;have:=HK2.out;have:=HK3.out;omega
         case rel=>exact ⟨(x7_3),(wrap64 (x36_3 + 1)),rS,rS,H',⟨by have:=HJ3.out;have:=HK2.out;have:=HK3.out;omega⟩,⟨rK HO_26⟩,⟨rK HO_34⟩,⟨bG⟩⟩
        rw [if_neg c21] at H;have c21b0:=df c21;clear c21;have H':=am H;clear H;go_wp2;go_roundg k3
        case measure=>have:=HJ3.out;have:=HK2.out;have:=HK3.out;omega
        case rel=>exact ⟨(x7_3),(wrap64 (x28_2 + 1)),rS,rS,H',⟨by have:=HJ3.out;have:=HK2.out;have:=HK3.out;omega⟩,⟨rm HO_26 (fun _ hk=>trivial)⟩,⟨bA⟩⟩
     rw [if_neg c15] at H;have c15b0:=df c15;clear c15;obtain rfl:=oj H;go_wp2;go_ret;exact ⟨rA,bA⟩

/-! ### impl_IsControl: function 59 -/
def impl_IsControl.j0:Nat→List (S69)→Bool→List Int→Int→List Int→Int→Option (Bool)
 | 0,_,_,_,_,_,_=>none
 | k + 1,x0,x28,x527000,x527001,x527002,x527003=>if x28=true then (some false) else (if (x527002.length:Int)=0 then (some (x527003 == 0)) else ((impl_ClearBetween.f k x0 x527000 x527002).bind fun t530=>((impl_InRange.f x527003 1 t530).bind fun t531=>(some t531))))
def impl_IsControl.f (k:Nat) (l0:List (S69)) (l1_0:List Int) (a1_1:Int) (l1_2:List Int) (a1_3:Int):Option (Bool):=(impl_IsTogether.f k l0 l1_0).bind fun t527=>(if t527=true then ((impl_IsTogether.f k l0 l1_2).bind fun t528=>(if t528=true then (if (l1_0.length:Int)=0 then (impl_IsControl.j0 k l0 true l1_0 a1_1 l1_2 a1_3) else ((impl_InRange.f a1_1 0 1000000).bind fun t529=>(impl_IsControl.j0 k l0 (!t529) l1_0 a1_1 l1_2 a1_3))) else (impl_IsControl.j0 k l0 true l1_0 a1_1 l1_2 a1_3))) else (impl_IsControl.j0 k l0 true l1_0 a1_1 l1_2 a1_3))
theorem impl_IsControl.mono_l:∀ k,(∀ y0 y1 y2 y3 y4 y5,LeO (impl_IsControl.j0 k y0 y1 y2 y3 y4 y5) (impl_IsControl.j0 (k + 1) y0 y1 y2 y3 y4 y5))
 | 0=>fun _ _ _ _ _ _ r h=>by simp [impl_IsControl.j0] at h
 | k + 1=>by
  have ih0:=impl_IsControl.mono_l k
  ·intro y0 y1 y2 y3 y4 y5;unfold impl_IsControl.j0;exact mz3 ih0 impl_ClearBetween.mono impl_IsTogether.mono
theorem impl_IsControl.mono:∀ a0 a1 a2 a3 a4 k,LeO (impl_IsControl.f k a0 a1 a2 a3 a4) (impl_IsControl.f (k + 1) a0 a1 a2 a3 a4):=by
 intro a0 a1 a2 a3 a4 k;have ih0:=impl_IsControl.mono_l k;unfold impl_IsControl.f;exact mz3 ih0 impl_ClearBetween.mono impl_IsTogether.mono
def impl_IsControl.T5:Bool × List (List Nat × List Nat):=(true,[([],[]),([0],[0]),([],[]),([],[]),([3],[3]),([],[]),([5],[5]),([2,4,6],[2,4,6]),([1,7,7],[1,7]),([8,8,0,1,2,3,4,5,6,7,8],[8])])
def impl_IsControl.B5:List Nat:=[0,1,0,0,8,0,32,124,255,511]
theorem impl_IsControl.tab5:rtab .any (opsOf Tryz.f59 5)=impl_IsControl.T5:=by kernel_rfl
theorem impl_IsControl.bits5:waitsOk impl_IsControl.T5.2 impl_IsControl.B5=true:=by kernel_rfl
set_option maxHeartbeats 8000000 in
set_option maxRecDepth 100000 in
theorem impl_IsControl.calls (k:Nat) (A0:Option Addr) (c0:Nat) (l0:List (S69)) (A1_0:Option Addr) (c1_0:Nat) (l1_0:List Int) (a1_1:Int) (A1_2:Option Addr) (c1_2:Nat) (l1_2:List Int) (a1_3:Int) (r:Bool) (w:World) (hr0:Kd.C k69 w A0 l0.length l0) (hc0:l0.length≤c0) (hr1_0:Kd.C (Kd.int .i64) w A1_0 l1_0.length l1_0) (hc1_0:l1_0.length≤c1_0) (hr1_2:Kd.C (Kd.int .i64) w A1_2 l1_2.length l1_2) (hc1_2:l1_2.length≤c1_2) (h:impl_IsControl.f k l0 l1_0 a1_1 l1_2 a1_3=some r) :
  Calls Tryz.prog 59 #[.slice A0 l0.length c0,.agg #[.slice A1_0 l1_0.length c1_0,.int .i64 a1_1,.slice A1_2 l1_2.length c1_2,.int .i64 a1_3]] w fun e w'=>e=.returned (.bool r)∧Below w.heap.size w w':=by
 have hu50:=Tryz.underlying50;have HR0:=am hr0;have HC0:=am hc0;clear hr0 hc0;have HR1_0:=am hr1_0;have HC1_0:=am hc1_0;clear hr1_0 hc1_0;have HR1_2:=am hr1_2;have HC1_2:=am hc1_2;clear hr1_2 hc1_2;have HB:=am (Below.refl w.heap.size w);unfold impl_IsControl.f at h;have H:=h;clear h;have HC3:=am H;clear H;go_enter Tryz.func59,Tryz.ntmps59;go_upto_region 1 with (first|((with_reducible refine gd 3 ?_);(try (refine gate_guard (by rfl) ?_;dsimp only));refine bF w 3 #[.slice A1_0 l1_0.length c1_0,.int .i64 a1_1,.slice A1_2 l1_2.length c1_2,.int .i64 a1_3] 50 ?_;rintro gb526 w4 BK526 GW526 GE526 hb hg;replace HB:=bs HB hb;clear hb hg));(try simp only [Act.put,List.setIfInBounds_toArray,List.set_cons_zero,List.set_cons_succ]);go_cut [28] (fun v28 wc=>∃ (kq:Nat) (x28_2:Bool),v28=.bool x28_2∧Aside0 (impl_IsControl.j0 kq l0 x28_2 l1_0 a1_1 l1_2 a1_3=some r)∧Aside0 (kq≤k)∧Aside0 (wc.heap[gb526]?=some (.cells #[(.slice A1_0 l1_0.length c1_0),.int .i64 a1_1,(.slice A1_2 l1_2.length c1_2),.int .i64 a1_3] 50 (0,0)))∧Aside0 (Below w.heap.size w wc))
 case first =>
  have H:=HC3.out;clear HC3;obtain ⟨t527,A5,H⟩:=bindE H;try dsimp only at H
  by_cases c6:t527=true
  ·subst c6;rw [if_pos rfl] at H;obtain ⟨t528,A7,H⟩:=bindE H;try dsimp only at H
   by_cases c8:t528=true
   ·subst c8;rw [if_pos rfl] at H;by_cases c9:(l1_0.length:Int)=0
    ·rw [if_pos c9] at H;obtain ⟨c9b0,c9b1⟩:=eI c9;clear c9;(first|rw [c9b0]|(simp only [i64_w,i32_w];rw [c9b0])|skip);have H':=am H;clear H;obtain ⟨_,_,_,_,_,_,_,_⟩:=blkc4 BK526;go_wp2_with (first|((with_reducible refine gc 79 ?_);refine gL (some 8) Tryz.func79 #[.slice A0 l0.length c0,.slice A1_0 l1_0.length c1_0] ?_;(with_reducible refine (impl_IsTogether.calls k _ _ l0 _ _ l1_0 true _ ?_ ?_ ?_ ?_ A5.out).mono ?_);exact cB HR0;exact HC0.out;exact cB HR1_0;exact HC1_0.out;rintro e w11 ⟨rfl,hb⟩;refine ⟨_,rfl,?_⟩;replace BK526:=kb BK526 hb;replace HB:=bs HB hb;(try clear hb);obtain ⟨_,_,_,_,_,_,_,_⟩:=blkc4 BK526)|(go_at_call 79;(with_reducible refine (impl_IsTogether.calls k _ _ l0 _ _ l1_2 true _ ?_ ?_ ?_ ?_ A7.out).mono ?_);exact cB HR0;exact HC0.out;exact cB HR1_2;exact HC1_2.out;rintro e w13 ⟨rfl,hb⟩;replace BK526:=kb BK526 hb;replace HB:=bs HB hb;(try clear hb);obtain ⟨_,_,_,_,_,_,_,_⟩:=blkc4 BK526))
     go_meet
     case rel=>exact ⟨_,(true),rS,H',⟨oL⟩,⟨bK BK526⟩,⟨bG⟩⟩
    rw [if_neg c9] at H;obtain ⟨c9b0,c9b1⟩:=nI c9;have c9b2:¬ (l1_0=[]):=fun h_=>c9 (by rw [h_];rfl);(first|rw [c9b0]|(simp only [i64_w,i32_w];rw [c9b0])|skip);obtain ⟨t529,A15,H⟩:=bindE H;try dsimp only at H
    have H':=am H;clear H;obtain ⟨_,_,_,_,_,_,_,_⟩:=blkc4 BK526;go_wp2_with (first|((with_reducible refine gc 79 ?_);refine gL (some 8) Tryz.func79 #[.slice A0 l0.length c0,.slice A1_0 l1_0.length c1_0] ?_;(with_reducible refine (impl_IsTogether.calls k _ _ l0 _ _ l1_0 true _ ?_ ?_ ?_ ?_ A5.out).mono ?_);exact cB HR0;exact HC0.out;exact cB HR1_0;exact HC1_0.out;rintro e w17 ⟨rfl,hb⟩;refine ⟨_,rfl,?_⟩;replace BK526:=kb BK526 hb;replace HB:=bs HB hb;(try clear hb);obtain ⟨_,_,_,_,_,_,_,_⟩:=blkc4 BK526)|(go_at_call 79;(with_reducible refine (impl_IsTogether.calls k _ _ l0 _ _ l1_2 true _ ?_ ?_ ?_ ?_ A7.out).mono ?_);exact cB HR0;exact HC0.out;exact cB HR1_2;exact HC1_2.out;rintro e w19 ⟨rfl,hb⟩;replace BK526:=kb BK526 hb;replace HB:=bs HB hb;(try clear hb);obtain ⟨_,_,_,_,_,_,_,_⟩:=blkc4 BK526)|(go_at_call 80;(with_reducible refine (impl_InRange.calls a1_1 0 1000000 t529 _ A15.out).mono ?_);rintro e w' ⟨rfl,⟨nd,rfl⟩⟩))
    go_meet
    case rel=>exact ⟨_,(!t529),rS,H',⟨oL⟩,⟨bK BK526⟩,⟨bG⟩⟩
   replace c8:=Bool.eq_false_iff.mpr c8;subst c8;rw [if_neg Bool.false_ne_true] at H;have H':=am H;clear H;obtain ⟨_,_,_,_,_,_,_,_⟩:=blkc4 BK526;go_wp2_with (first|((with_reducible refine gc 79 ?_);refine gL (some 8) Tryz.func79 #[.slice A0 l0.length c0,.slice A1_0 l1_0.length c1_0] ?_;(with_reducible refine (impl_IsTogether.calls k _ _ l0 _ _ l1_0 true _ ?_ ?_ ?_ ?_ A5.out).mono ?_);exact cB HR0;exact HC0.out;exact cB HR1_0;exact HC1_0.out;rintro e w22 ⟨rfl,hb⟩;refine ⟨_,rfl,?_⟩;replace BK526:=kb BK526 hb;replace HB:=bs HB hb;(try clear hb);obtain ⟨_,_,_,_,_,_,_,_⟩:=blkc4 BK526)|(go_at_call 79;(with_reducible refine (impl_IsTogether.calls k _ _ l0 _ _ l1_2 false _ ?_ ?_ ?_ ?_ A7.out).mono ?_);exact cB HR0;exact HC0.out;exact cB HR1_2;exact HC1_2.out;rintro e w24 ⟨rfl,hb⟩;replace BK526:=kb BK526 hb;replace HB:=bs HB hb;(try clear hb)))
   go_meet
   case rel=>exact ⟨_,(true),rS,H',⟨oL⟩,⟨bK BK526⟩,⟨bG⟩⟩
  replace c6:=Bool.eq_false_iff.mpr c6;subst c6;rw [if_neg Bool.false_ne_true] at H;have H':=am H;clear H;obtain ⟨_,_,_,_,_,_,_,_⟩:=blkc4 BK526;go_wp2_with (first|((with_reducible refine gc 79 ?_);refine gL (some 8) Tryz.func79 #[.slice A0 l0.length c0,.slice A1_0 l1_0.length c1_0] ?_;(with_reducible refine (impl_IsTogether.calls k _ _ l0 _ _ l1_0 false _ ?_ ?_ ?_ ?_ A5.out).mono ?_);exact cB HR0;exact HC0.out;exact cB HR1_0;exact HC1_0.out;rintro e w26 ⟨rfl,hb⟩;refine ⟨_,rfl,?_⟩;replace BK526:=kb BK526 hb;replace HB:=bs HB hb;(try clear hb)))
  go_meet
  case rel=>exact ⟨_,(true),rS,H',⟨oL⟩,⟨bK BK526⟩,⟨bG⟩⟩
 case rest =>
  clear HC3;obtain ⟨kq,x28_2,rfl,HA,HJ2,BK526,HB⟩:=hcut
  cases kq with
  | zero=>exact absurd HA.out (by simp [impl_IsControl.j0])
  | succ kj2 =>
   have H:=HA.out;clear HA;simp only [impl_IsControl.j0] at H;by_cases c27:x28_2=true
   ·subst c27;rw [if_pos rfl] at H;obtain rfl:=oj H;go_wp2;go_ret;exact ⟨rA,bG⟩
   replace c27:=Bool.eq_false_iff.mpr c27;subst c27;rw [if_neg Bool.false_ne_true] at H;by_cases c28:(l1_2.length:Int)=0
   ·rw [if_pos c28] at H;obtain ⟨c28b0,c28b1⟩:=eI c28;clear c28;obtain rfl:=oj H;obtain ⟨_,_,_,_,_,_,_,_⟩:=blkc4 BK526;go_wp2;go_ret;exact ⟨rA,bG⟩
   rw [if_neg c28] at H;obtain ⟨c28b0,c28b1⟩:=nI c28;have c28b2:¬ (l1_2=[]):=fun h_=>c28 (by rw [h_];rfl);obtain ⟨t530,A30,H⟩:=bindE H;try dsimp only at H
   obtain ⟨t531,A31,H⟩:=bindE H;try dsimp only at H
   obtain rfl:=oj H;obtain ⟨_,_,_,_,_,_,_,_⟩:=blkc4 BK526;try go_wp2
   replace BK526:=dk BK526;have HBo:=HB;replace HB:=db HB;refine sw (ds:=[]) 10 (mb 10 0) impl_IsControl.tab5 impl_IsControl.bits5 (h4 BK526) (fun hHeld HT_ HW_=>?_);generalize wc.drew=w33 at BK526 HB hHeld ⊢;refine pz [0,2,3,5,1,4,6] ?_;refine oa 7 43 (mb 10 255) HT_ (fun K hK=>?_);refine gA Tryz.func81 #[.slice A0 l0.length c0,.slice A1_0 l1_0.length c1_0,.slice A1_2 l1_2.length c1_2] ?_;(with_reducible refine (impl_ClearBetween.calls kj2 _ _ l0 _ _ l1_0 _ _ l1_2 t530 _ ?_ ?_ ?_ ?_ ?_ ?_ A30.out).mono ?_);exact cB HR0;exact HC0.out;exact cB HR1_0;exact HC1_0.out;exact cB HR1_2;exact HC1_2.out;rintro e w34 ⟨rfl,hb⟩;refine ⟨_,rfl,?_⟩;replace BK526:=kb BK526 hb;replace HB:=bs HB hb;(try clear hb);refine hK.out _ _ (cn4 BK526) (fun hHeld=>?_);clear hK K;refine nB ?_;refine oa 8 44 (mb 10 511) HT_ (fun K hK=>?_);refine gA Tryz.func80 #[.int .i64 a1_3,.int .i64 1,.int .i64 t530] ?_;(with_reducible refine (impl_InRange.calls a1_3 1 t530 t531 _ A31.out).mono ?_);rintro e w' ⟨rfl,⟨nd,rfl⟩⟩;refine ⟨_,rfl,?_⟩;refine hK.out _ _ (cn4 BK526) (fun hHeld=>?_);clear hK K;refine nB ?_;refine pz [9] ?_;refine eA HT_ ?_;try go_wp2
   go_ret;exact ⟨rA,bG⟩

/-! ### impl_AreWants: function 60 -/
def impl_AreWants.l0:Nat→List (S69)→List (S92)→List (S92)→Int→Int→Option (Bool)
 | 0,_,_,_,_,_=>none
 | k + 1,x0,x1,x10,x11,x12=>if x12 < x11 then (if 0≤x12 then (if x12 < (x10.length:Int) then ((impl_FindPath.f x0 ((rd_T92 x10 x12).f0)).bind fun t535=>(if t535 < 0 then (some false) else ((impl_InRange.f ((rd_T92 x10 x12).f1) 0 100000).bind fun t536=>(if t536=true then (if x12 > 0 then (if 0≤(wrap64 (x12 - 1)) then (if (wrap64 (x12 - 1)) < (x1.length:Int) then (if ((rd_T92 x10 x12).f0)≤((rd_T92 x1 (wrap64 (x12 - 1))).f0) then (some false) else (impl_AreWants.l0 k x0 x1 x10 x11 (wrap64 (x12 + 1)))) else (none)) else (none)) else (impl_AreWants.l0 k x0 x1 x10 x11 (wrap64 (x12 + 1)))) else (some false))))) else (none)) else (none)) else (some true)
def impl_AreWants.f (k:Nat) (l0:List (S69)) (l1:List (S92)):Option (Bool):=(impl_ArePaths.f k l0).bind fun t532=>(if t532=true then (impl_AreWants.l0 k l0 l1 l1 (l1.length:Int) 0) else (some false))
theorem impl_AreWants.mono_l:∀ k,(∀ y0 y1 y2 y3 y4,LeO (impl_AreWants.l0 k y0 y1 y2 y3 y4) (impl_AreWants.l0 (k + 1) y0 y1 y2 y3 y4))
 | 0=>fun _ _ _ _ _ r h=>by simp [impl_AreWants.l0] at h
 | k + 1=>by
  have ih0:=impl_AreWants.mono_l k
  ·intro y0 y1 y2 y3 y4;unfold impl_AreWants.l0;exact mz2 ih0 impl_ArePaths.mono
theorem impl_AreWants.mono:∀ a0 a1 k,LeO (impl_AreWants.f k a0 a1) (impl_AreWants.f (k + 1) a0 a1):=by
 intro a0 a1 k;have ih0:=impl_AreWants.mono_l k;unfold impl_AreWants.f;exact mz2 ih0 impl_ArePaths.mono
def impl_AreWants.T6:Bool × List (List Nat × List Nat):=(true,[([],[]),([],[]),([1],[1]),([0,2],[0,2]),([3],[3]),([4,3],[4]),([5],[5]),([6,5],[5,6]),([7,5,5],[5,7]),([8,5],[5,8]),([5,9],[5,9]),([10,8],[10]),([11],[11]),([12,11],[11,12]),([13,11,11],[11,13]),([14],[14]),([15,14],[14,15]),([14],[14]),([14],[14]),([18,14],[14,18]),([17,19,14],[14,17,19]),([20,14],[14,20]),([21,14],[14,21]),([16,22,14],[14,16,22]),([14,23,11],[11,14,23]),([11,24],[11,24])])
def impl_AreWants.B6:List Nat:=[0,0,2,7,15,31,63,127,255,511,1023,2047,4095,8191,16383,32767,65535,32767,32767,294911,950271,1998847,4095999,8388607,16777215,33554431]
theorem impl_AreWants.tab6:rtab .any (opsOf Tryz.f60 6)=impl_AreWants.T6:=by kernel_rfl
theorem impl_AreWants.bits6:waitsOk impl_AreWants.T6.2 impl_AreWants.B6=true:=by kernel_rfl
set_option maxHeartbeats 8000000 in
set_option maxRecDepth 100000 in
theorem impl_AreWants.calls (k:Nat) (A0:Option Addr) (c0:Nat) (l0:List (S69)) (A1:Option Addr) (c1:Nat) (l1:List (S92)) (r:Bool) (w:World) (hr0:Kd.C k69 w A0 l0.length l0) (hc0:l0.length≤c0) (hr1:Kd.C k92 w A1 l1.length l1) (hc1:l1.length≤c1) (h:impl_AreWants.f k l0 l1=some r) :
  Calls Tryz.prog 60 #[.slice A0 l0.length c0,.slice A1 l1.length c1] w fun e w'=>e=.returned (.bool r)∧Below w.heap.size w w':=by
 have hu92:=Tryz.underlying92;have HR0:=am hr0;have HC0:=am hc0;clear hr0 hc0;have HR1:=am hr1;have HC1:=am hc1;clear hr1 hc1;have HB:=am (Below.refl w.heap.size w);unfold impl_AreWants.f at h;have H:=h;clear h;obtain ⟨t532,A3,H⟩:=bindE H;try dsimp only at H
 by_cases c4:t532=true
 ·subst c4;rw [if_pos rfl] at H;have H':=am H;clear H;go_enter Tryz.func60,Tryz.ntmps60;go_wp2_with (first|((with_reducible refine gc 82 ?_);refine gL (some 8) Tryz.func82 #[.slice A0 l0.length c0] ?_;(with_reducible refine (impl_ArePaths.calls k _ _ l0 true _ ?_ ?_ A3.out).mono ?_);exact cO HR0;exact HC0.out;rintro e w5 ⟨rfl,hb⟩;refine ⟨_,rfl,?_⟩;replace HB:=bs HB hb;(try clear hb)));go_loopg [12] k (fun kq v12 w'=>∃ (x12_1:Int),v12=.int .i64 x12_1∧Aside0 (impl_AreWants.l0 kq l0 l1 l1 (l1.length:Int) x12_1=some r)∧Aside0 (kq≤k)∧Aside0 (Below w.heap.size w w'))
  case atStart=>exact ⟨(0),rS,H',⟨Nat.le_refl _⟩,⟨bA⟩⟩
  case round =>
   clear H';obtain ⟨x12_1,rfl,HA,HK1,HB⟩:=hrel
   cases gk with
   | zero=>exact absurd HA.out (by simp [impl_AreWants.l0])
   | succ k1 =>
    have H:=HA.out;clear HA;simp only [impl_AreWants.l0] at H;by_cases c6:x12_1 < (l1.length:Int)
    ·rw [if_pos c6] at H;have c6b0:=dt c6;clear c6;have c7b0:=ifC H;replace H:=ifT H;have c8b0:=ifC H;replace H:=ifT H;obtain ⟨t535,A9,H⟩:=bindE H;try dsimp only at H
     by_cases c10:t535 < 0
     ·rw [if_pos c10] at H;have c10b0:=dt c10;clear c10;obtain rfl:=oj H;obtain ⟨p533,q533⟩:=pq x12_1 l1;obtain ⟨ad533,e533,hx533_0,hx533_1⟩:=at_T92 (Kd.C_below HR1.out HB.out) x12_1 p533 q533;cases e533;obtain ⟨p533,q533⟩:=eT p533 q533;try go_wp2_with (first|((with_reducible refine gd 6 ?_);refine bF w 6 #[.int .i64 0,.int .i64 0] 92 ?_;rintro gb534 w11 BK534 GW534 GE534 hb hg;replace HB:=bs HB hb;clear hb hg;obtain ⟨_,_,_,_⟩:=blkc2 BK534))
      have n0_:Aside0 (((w11.setCell ⟨gb534,0,none⟩ (.int .i64 ((rd_T92 l1 x12_1).f0))).setCell ⟨gb534,1,none⟩ (.int .i64 ((rd_T92 l1 x12_1).f1))).heap[gb534]?=some (.cells #[.int .i64 ((rd_T92 l1 x12_1).f0),.int .i64 ((rd_T92 l1 x12_1).f1)] 92 (0,0))):=⟨kp BK534⟩;have n1_:Aside0 (Below w.heap.size w ((w11.setCell ⟨gb534,0,none⟩ (.int .i64 ((rd_T92 l1 x12_1).f0))).setCell ⟨gb534,1,none⟩ (.int .i64 ((rd_T92 l1 x12_1).f1)))):=⟨bG⟩;(try clear BK534);(try clear HB);generalize ((w11.setCell ⟨gb534,0,none⟩ (.int .i64 ((rd_T92 l1 x12_1).f0))).setCell ⟨gb534,1,none⟩ (.int .i64 ((rd_T92 l1 x12_1).f1)))=w13 at n0_ n1_ ⊢;have BK534:=n0_;have HB:=n1_;clear n0_ n1_;replace BK534:=dk BK534;have HBo:=HB;replace HB:=db HB;refine sw (ds:=[]) 26 (mb 26 0) impl_AreWants.tab6 impl_AreWants.bits6 (h2 BK534) (fun hHeld HT_ HW_=>?_);generalize w13.drew=w14 at BK534 HB hHeld ⊢;refine pz [0,1,2] ?_;refine oa 3 20 (mb 26 15) HT_ (fun K hK=>?_);refine gA Tryz.func83 #[.slice A0 l0.length c0,.int .i64 ((rd_T92 l1 x12_1).f0)] ?_;(with_reducible refine (impl_FindPath.calls _ _ l0 ((rd_T92 l1 x12_1).f0) t535 _ ?_ ?_ A9.out).mono ?_);exact cB HR0;exact HC0.out;rintro e w15 ⟨rfl,hb⟩;refine ⟨_,rfl,?_⟩;replace BK534:=kb BK534 hb;replace HB:=bs HB hb;(try clear hb);refine hK.out _ _ (cn2 BK534) (fun hHeld=>?_);clear hK K;refine nB ?_;refine pz [4,5,6,7,8,9,10,11,12,13,14,15,16,17,18,19,20,21,22,23,24,25] ?_;refine eA HT_ ?_;try go_wp2
      go_ret;exact ⟨rA,bG⟩
     rw [if_neg c10] at H;have c10b0:=df c10;clear c10;obtain ⟨t536,A16,H⟩:=bindE H;try dsimp only at H
     by_cases c17:t536=true
     ·subst c17;rw [if_pos rfl] at H;by_cases c18:x12_1 > 0
      ·rw [if_pos c18] at H;have c18b0:=dt c18;clear c18;obtain ⟨ji19,hji19⟩:∃ j_:Int,(wrap64 (x12_1 - 1))=j_:=⟨_,rfl⟩;replace H:(if 0≤(ji19) then (if (ji19) < (l1.length:Int) then (if ((rd_T92 l1 x12_1).f0)≤((rd_T92 l1 (ji19)).f0) then (some false) else (impl_AreWants.l0 k1 l0 l1 l1 (l1.length:Int) (wrap64 (x12_1 + 1)))) else (none)) else (none))=some r:=by first|(rw [hji19] at H;exact H)|(simp only [hji19] at H ⊢;exact H)
       (try rw [hji19] at A9);(try rw [hji19] at A16);have hji19w:(IntKind.i64.wrap (x12_1 - 1))=ji19:=(i64_w _).trans hji19;have c20b0:=ifC H;replace H:=ifT H;have c21b0:=ifC H;replace H:=ifT H;by_cases c22:((rd_T92 l1 x12_1).f0)≤((rd_T92 l1 (ji19)).f0)
       ·rw [if_pos c22] at H;have c22b0:=dt c22;clear c22;obtain rfl:=oj H;obtain ⟨p533,q533⟩:=pq x12_1 l1;obtain ⟨ad533,e533,hx533_0,hx533_1⟩:=at_T92 (Kd.C_below HR1.out HB.out) x12_1 p533 q533;cases e533;obtain ⟨p533,q533⟩:=eT p533 q533;try go_wp2_with (first|((with_reducible refine gd 6 ?_);refine bF w 6 #[.int .i64 0,.int .i64 0] 92 ?_;rintro gb534 w23 BK534 GW534 GE534 hb hg;replace HB:=bs HB hb;clear hb hg;obtain ⟨_,_,_,_⟩:=blkc2 BK534))
        have n0_:Aside0 (((w23.setCell ⟨gb534,0,none⟩ (.int .i64 ((rd_T92 l1 x12_1).f0))).setCell ⟨gb534,1,none⟩ (.int .i64 ((rd_T92 l1 x12_1).f1))).heap[gb534]?=some (.cells #[.int .i64 ((rd_T92 l1 x12_1).f0),.int .i64 ((rd_T92 l1 x12_1).f1)] 92 (0,0))):=⟨kp BK534⟩;have n1_:Aside0 (Below w.heap.size w ((w23.setCell ⟨gb534,0,none⟩ (.int .i64 ((rd_T92 l1 x12_1).f0))).setCell ⟨gb534,1,none⟩ (.int .i64 ((rd_T92 l1 x12_1).f1)))):=⟨bG⟩;(try clear BK534);(try clear HB);generalize ((w23.setCell ⟨gb534,0,none⟩ (.int .i64 ((rd_T92 l1 x12_1).f0))).setCell ⟨gb534,1,none⟩ (.int .i64 ((rd_T92 l1 x12_1).f1)))=w25 at n0_ n1_ ⊢;have BK534:=n0_;have HB:=n1_;clear n0_ n1_;replace BK534:=dk BK534;have HBo:=HB;replace HB:=db HB;obtain ⟨p537,q537⟩:=pq (ji19) l1;obtain ⟨ad537,e537,hx537_0,hx537_1⟩:=at_T92 HR1.out (ji19) p537 q537;have hw537_1:=hx537_1;have hw537_0:=hx537_0;obtain rfl:ad533=ad537:=(by injection e537);replace hx537_0:=hC HB hx537_0;replace hx537_1:=hC HB hx537_1;obtain ⟨p537,q537⟩:=eT p537 q537;refine sw (ds:=[]) 26 (mb 26 0) impl_AreWants.tab6 impl_AreWants.bits6 (h2c BK534 (h1c (hC HB hw537_0) (h1 (hC HB hw537_1)))) (fun hHeld HT_ HW_=>?_);generalize w25.drew=w26 at BK534 HB hx537_0 hx537_1 hHeld ⊢;refine pz [0,1,2] ?_;refine oa 3 20 (mb 26 15) HT_ (fun K hK=>?_);refine gA Tryz.func83 #[.slice A0 l0.length c0,.int .i64 ((rd_T92 l1 x12_1).f0)] ?_;(with_reducible refine (impl_FindPath.calls _ _ l0 ((rd_T92 l1 x12_1).f0) t535 _ ?_ ?_ A9.out).mono ?_);exact cB HR0;exact HC0.out;rintro e w27 ⟨rfl,hb⟩;refine ⟨_,rfl,?_⟩;replace BK534:=kb BK534 hb;replace HB:=bs HB hb;(try clear hb);refine hK.out _ _ (cm2 BK534 hL) (fun hHeld=>?_);clear hK K;refine nB ?_;refine pz [4,5,6,7] ?_;refine oa 8 25 (mb 26 511) HT_ (fun K hK=>?_);refine gA Tryz.func80 #[.int .i64 ((rd_T92 l1 x12_1).f1),.int .i64 0,.int .i64 100000] ?_;(with_reducible refine (impl_InRange.calls ((rd_T92 l1 x12_1).f1) 0 100000 true _ A16.out).mono ?_);rintro e w' ⟨rfl,⟨nd,rfl⟩⟩;refine ⟨_,rfl,?_⟩;refine hK.out _ _ (cm2 BK534 hL) (fun hHeld=>?_);clear hK K;refine nB ?_;refine pz [9,10,11,12,13,14,15,17,18,19,20,21,16,22,23,24,25] ?_;refine eA HT_ ?_;try go_wp2
        go_ret;exact ⟨by first|rfl|(simp [errW_none,errW_some] <;> rfl)|(simp only [← hji19];first|rfl|(simp [errW_none,errW_some] <;> rfl))|(simp [*,errW_none,errW_some] <;> rfl),bG⟩
       rw [if_neg c22] at H;have c22b0:=df c22;clear c22;have H':=am H;clear H;obtain ⟨p533,q533⟩:=pq x12_1 l1;obtain ⟨ad533,e533,hx533_0,hx533_1⟩:=at_T92 (Kd.C_below HR1.out HB.out) x12_1 p533 q533;cases e533;obtain ⟨p533,q533⟩:=eT p533 q533;try go_wp2_with (first|((with_reducible refine gd 6 ?_);refine bF w 6 #[.int .i64 0,.int .i64 0] 92 ?_;rintro gb534 w28 BK534 GW534 GE534 hb hg;replace HB:=bs HB hb;clear hb hg;obtain ⟨_,_,_,_⟩:=blkc2 BK534))
       have n0_:Aside0 (((w28.setCell ⟨gb534,0,none⟩ (.int .i64 ((rd_T92 l1 x12_1).f0))).setCell ⟨gb534,1,none⟩ (.int .i64 ((rd_T92 l1 x12_1).f1))).heap[gb534]?=some (.cells #[.int .i64 ((rd_T92 l1 x12_1).f0),.int .i64 ((rd_T92 l1 x12_1).f1)] 92 (0,0))):=⟨kp BK534⟩;have n1_:Aside0 (Below w.heap.size w ((w28.setCell ⟨gb534,0,none⟩ (.int .i64 ((rd_T92 l1 x12_1).f0))).setCell ⟨gb534,1,none⟩ (.int .i64 ((rd_T92 l1 x12_1).f1)))):=⟨bG⟩;(try clear BK534);(try clear HB);generalize ((w28.setCell ⟨gb534,0,none⟩ (.int .i64 ((rd_T92 l1 x12_1).f0))).setCell ⟨gb534,1,none⟩ (.int .i64 ((rd_T92 l1 x12_1).f1)))=w30 at n0_ n1_ ⊢;have BK534:=n0_;have HB:=n1_;clear n0_ n1_;replace BK534:=dk BK534;have HBo:=HB;replace HB:=db HB;obtain ⟨p537,q537⟩:=pq (ji19) l1;obtain ⟨ad537,e537,hx537_0,hx537_1⟩:=at_T92 HR1.out (ji19) p537 q537;have hw537_1:=hx537_1;have hw537_0:=hx537_0;obtain rfl:ad533=ad537:=(by injection e537);replace hx537_0:=hC HB hx537_0;replace hx537_1:=hC HB hx537_1;obtain ⟨p537,q537⟩:=eT p537 q537;refine sw (ds:=[]) 26 (mb 26 0) impl_AreWants.tab6 impl_AreWants.bits6 (h2c BK534 (h1c (hC HB hw537_0) (h1 (hC HB hw537_1)))) (fun hHeld HT_ HW_=>?_);generalize w30.drew=w31 at BK534 HB hx537_0 hx537_1 hHeld ⊢;refine pz [0,1,2] ?_;refine oa 3 20 (mb 26 15) HT_ (fun K hK=>?_);refine gA Tryz.func83 #[.slice A0 l0.length c0,.int .i64 ((rd_T92 l1 x12_1).f0)] ?_;(with_reducible refine (impl_FindPath.calls _ _ l0 ((rd_T92 l1 x12_1).f0) t535 _ ?_ ?_ A9.out).mono ?_);exact cB HR0;exact HC0.out;rintro e w32 ⟨rfl,hb⟩;refine ⟨_,rfl,?_⟩;replace BK534:=kb BK534 hb;replace HB:=bs HB hb;(try clear hb);refine hK.out _ _ (cm2 BK534 hL) (fun hHeld=>?_);clear hK K;refine nB ?_;refine pz [4,5,6,7] ?_;refine oa 8 25 (mb 26 511) HT_ (fun K hK=>?_);refine gA Tryz.func80 #[.int .i64 ((rd_T92 l1 x12_1).f1),.int .i64 0,.int .i64 100000] ?_;(with_reducible refine (impl_InRange.calls ((rd_T92 l1 x12_1).f1) 0 100000 true _ A16.out).mono ?_);rintro e w' ⟨rfl,⟨nd,rfl⟩⟩;refine ⟨_,rfl,?_⟩;refine hK.out _ _ (cm2 BK534 hL) (fun hHeld=>?_);clear hK K;refine nB ?_;refine pz [9,10,11,12,13,14,15,17,18,19,20,21,16,22,23,24,25] ?_;refine eA HT_ ?_;try go_wp2
       go_roundg k1
       case measure=>have:=HK1.out;omega
       case rel=>exact ⟨(wrap64 (x12_1 + 1)),rS,H',⟨by have:=HK1.out;omega⟩,⟨bG⟩⟩
      rw [if_neg c18] at H;have c18b0:=df c18;clear c18;have H':=am H;clear H;obtain ⟨p533,q533⟩:=pq x12_1 l1;obtain ⟨ad533,e533,hx533_0,hx533_1⟩:=at_T92 (Kd.C_below HR1.out HB.out) x12_1 p533 q533;cases e533;obtain ⟨p533,q533⟩:=eT p533 q533;try go_wp2_with (first|((with_reducible refine gd 6 ?_);refine bF w 6 #[.int .i64 0,.int .i64 0] 92 ?_;rintro gb534 w33 BK534 GW534 GE534 hb hg;replace HB:=bs HB hb;clear hb hg;obtain ⟨_,_,_,_⟩:=blkc2 BK534))
      have n0_:Aside0 (((w33.setCell ⟨gb534,0,none⟩ (.int .i64 ((rd_T92 l1 x12_1).f0))).setCell ⟨gb534,1,none⟩ (.int .i64 ((rd_T92 l1 x12_1).f1))).heap[gb534]?=some (.cells #[.int .i64 ((rd_T92 l1 x12_1).f0),.int .i64 ((rd_T92 l1 x12_1).f1)] 92 (0,0))):=⟨kp BK534⟩;have n1_:Aside0 (Below w.heap.size w ((w33.setCell ⟨gb534,0,none⟩ (.int .i64 ((rd_T92 l1 x12_1).f0))).setCell ⟨gb534,1,none⟩ (.int .i64 ((rd_T92 l1 x12_1).f1)))):=⟨bG⟩;(try clear BK534);(try clear HB);generalize ((w33.setCell ⟨gb534,0,none⟩ (.int .i64 ((rd_T92 l1 x12_1).f0))).setCell ⟨gb534,1,none⟩ (.int .i64 ((rd_T92 l1 x12_1).f1)))=w35 at n0_ n1_ ⊢;have BK534:=n0_;have HB:=n1_;clear n0_ n1_;replace BK534:=dk BK534;have HBo:=HB;replace HB:=db HB;refine sw (ds:=[]) 26 (mb 26 0) impl_AreWants.tab6 impl_AreWants.bits6 (h2 BK534) (fun hHeld HT_ HW_=>?_);generalize w35.drew=w36 at BK534 HB hHeld ⊢;refine pz [0,1,2] ?_;refine oa 3 20 (mb 26 15) HT_ (fun K hK=>?_);refine gA Tryz.func83 #[.slice A0 l0.length c0,.int .i64 ((rd_T92 l1 x12_1).f0)] ?_;(with_reducible refine (impl_FindPath.calls _ _ l0 ((rd_T92 l1 x12_1).f0) t535 _ ?_ ?_ A9.out).mono ?_);exact cB HR0;exact HC0.out;rintro e w37 ⟨rfl,hb⟩;refine ⟨_,rfl,?_⟩;replace BK534:=kb BK534 hb;replace HB:=bs HB hb;(try clear hb);refine hK.out _ _ (cn2 BK534) (fun hHeld=>?_);clear hK K;refine nB ?_;refine pz [4,5,6,7] ?_;refine oa 8 25 (mb 26 511) HT_ (fun K hK=>?_);refine gA Tryz.func80 #[.int .i64 ((rd_T92 l1 x12_1).f1),.int .i64 0,.int .i64 100000] ?_;(with_reducible refine (impl_InRange.calls ((rd_T92 l1 x12_1).f1) 0 100000 true _ A16.out).mono ?_);rintro e w' ⟨rfl,⟨nd,rfl⟩⟩;refine ⟨_,rfl,?_⟩;refine hK.out _ _ (cn2 BK534) (fun hHeld=>?_);clear hK K;refine nB ?_;refine pz [9,10,11,12,13,14,15,16,17,18,19,20,21,22,23,24,25] ?_;refine eA HT_ ?_;try go_wp2
      go_roundg k1
      case measure=>have:=HK1.out;omega
      case rel=>exact ⟨(wrap64 (x12_1 + 1)),rS,H',⟨by have:=HK1.out;omega⟩,⟨bG⟩⟩
     replace c17:=Bool.eq_false_iff.mpr c17;subst c17;rw [if_neg Bool.false_ne_true] at H;obtain rfl:=oj H;obtain ⟨p533,q533⟩:=pq x12_1 l1;obtain ⟨ad533,e533,hx533_0,hx533_1⟩:=at_T92 (Kd.C_below HR1.out HB.out) x12_1 p533 q533;cases e533;obtain ⟨p533,q533⟩:=eT p533 q533;try go_wp2_with (first|((with_reducible refine gd 6 ?_);refine bF w 6 #[.int .i64 0,.int .i64 0] 92 ?_;rintro gb534 w38 BK534 GW534 GE534 hb hg;replace HB:=bs HB hb;clear hb hg;obtain ⟨_,_,_,_⟩:=blkc2 BK534))
     have n0_:Aside0 (((w38.setCell ⟨gb534,0,none⟩ (.int .i64 ((rd_T92 l1 x12_1).f0))).setCell ⟨gb534,1,none⟩ (.int .i64 ((rd_T92 l1 x12_1).f1))).heap[gb534]?=some (.cells #[.int .i64 ((rd_T92 l1 x12_1).f0),.int .i64 ((rd_T92 l1 x12_1).f1)] 92 (0,0))):=⟨kp BK534⟩;have n1_:Aside0 (Below w.heap.size w ((w38.setCell ⟨gb534,0,none⟩ (.int .i64 ((rd_T92 l1 x12_1).f0))).setCell ⟨gb534,1,none⟩ (.int .i64 ((rd_T92 l1 x12_1).f1)))):=⟨bG⟩;(try clear BK534);(try clear HB);generalize ((w38.setCell ⟨gb534,0,none⟩ (.int .i64 ((rd_T92 l1 x12_1).f0))).setCell ⟨gb534,1,none⟩ (.int .i64 ((rd_T92 l1 x12_1).f1)))=w40 at n0_ n1_ ⊢;have BK534:=n0_;have HB:=n1_;clear n0_ n1_;replace BK534:=dk BK534;have HBo:=HB;replace HB:=db HB;refine sw (ds:=[]) 26 (mb 26 0) impl_AreWants.tab6 impl_AreWants.bits6 (h2 BK534) (fun hHeld HT_ HW_=>?_);generalize w40.drew=w41 at BK534 HB hHeld ⊢;refine pz [0,1,2] ?_;refine oa 3 20 (mb 26 15) HT_ (fun K hK=>?_);refine gA Tryz.func83 #[.slice A0 l0.length c0,.int .i64 ((rd_T92 l1 x12_1).f0)] ?_;(with_reducible refine (impl_FindPath.calls _ _ l0 ((rd_T92 l1 x12_1).f0) t535 _ ?_ ?_ A9.out).mono ?_);exact cB HR0;exact HC0.out;rintro e w42 ⟨rfl,hb⟩;refine ⟨_,rfl,?_⟩;replace BK534:=kb BK534 hb;replace HB:=bs HB hb;(try clear hb);refine hK.out _ _ (cn2 BK534) (fun hHeld=>?_);clear hK K;refine nB ?_;refine pz [4,5,6,7] ?_;refine oa 8 25 (mb 26 511) HT_ (fun K hK=>?_);refine gA Tryz.func80 #[.int .i64 ((rd_T92 l1 x12_1).f1),.int .i64 0,.int .i64 100000] ?_;(with_reducible refine (impl_InRange.calls ((rd_T92 l1 x12_1).f1) 0 100000 false _ A16.out).mono ?_);rintro e w' ⟨rfl,⟨nd,rfl⟩⟩;refine ⟨_,rfl,?_⟩;refine hK.out _ _ (cn2 BK534) (fun hHeld=>?_);clear hK K;refine nB ?_;refine pz [9,10,11,12,13,14,15,16,17,18,19,20,21,22,23,24,25] ?_;refine eA HT_ ?_;try go_wp2
     go_ret;exact ⟨rA,bG⟩
    rw [if_neg c6] at H;have c6b0:=df c6;clear c6;obtain rfl:=oj H;go_wp2;go_ret;exact ⟨rA,bA⟩
 replace c4:=Bool.eq_false_iff.mpr c4;subst c4;rw [if_neg Bool.false_ne_true] at H;obtain rfl:=oj H;go_enter Tryz.func60,Tryz.ntmps60;go_wp2_with (first|((with_reducible refine gc 82 ?_);refine gL (some 8) Tryz.func82 #[.slice A0 l0.length c0] ?_;(with_reducible refine (impl_ArePaths.calls k _ _ l0 false _ ?_ ?_ A3.out).mono ?_);exact cO HR0;exact HC0.out;rintro e w43 ⟨rfl,hb⟩;refine ⟨_,rfl,?_⟩;replace HB:=bs HB hb;(try clear hb)));go_ret;exact ⟨rA,bA⟩

/-! ### slices_Clone_int_int: function 84 -/
def slices_Clone_int_int.f (l0:List Int):Option (List Int):=if l0.length < 17592186044416 then some l0 else none
theorem slices_Clone_int_int.eq0 {P:Program} (w:World) (d:Nat) (t e:TypeId) (a:Option Addr) (n c n' c':Nat) (h:P.underlying t=some (.slice e)):(Op.equalIn (d + 1) t (.slice a n c) (.slice none n' c')).run P w=.ok a.isNone w:=by
 cases a <;> simp [Op.equalIn,run_underlying h]
theorem slices_Clone_int_int.eq1 {P:Program} (w:World) (t e:TypeId) (a:Option Addr) (n c n' c':Nat) (h:P.underlying t=some (.slice e)):(binOp .eql t (.slice a n c) (.slice none n' c')).run P w=.ok (.bool a.isNone) w:=by
 simp only [binOp]
 simp [Op.equal,Op.maxDepth,slices_Clone_int_int.eq0 w 9999 t e a n c n' c' h]
set_option maxHeartbeats 4000000 in
set_option maxRecDepth 100000 in
theorem slices_Clone_int_int.calls (A0:Option Addr) (c0:Nat) (l0:List Int) (r:List Int) (w:World) (hr0:Kd.C (Kd.int .i64) w A0 l0.length l0) (hc0:l0.length≤c0) (h:slices_Clone_int_int.f l0=some r) :
  Calls Tryz.prog 84 #[.slice A0 l0.length c0] w fun e w'=>∃ v0_:Value,e=.returned (v0_)∧Kd.R (Kd.int .i64) 3 w' w.heap.size (fun _=>True) v0_ r∧Below w.heap.size w w':=by
 unfold slices_Clone_int_int.f at h
 have hlim:=ifN h
 replace h:=ifT h
 obtain rfl:=Option.some.inj h
 have HL:=Aside0.mk hlim
 have HR0:=Aside0.mk hr0
 have HC0:=Aside0.mk hc0
 clear hr0 hc0 h hlim
 have q_:∀ (w:World) (a:Option Addr) (n c n' c':Nat),(binOp .eql 28 (.slice a n c) (.slice none n' c')).run Tryz.prog w=.ok (.bool a.isNone) w:=fun w a n c n' c'=>slices_Clone_int_int.eq1 w _ _ a n c n' c' Tryz.underlying28
 cases A0 with
 | none =>
  have hl0:l0=[]:=by
   rcases Nat.eq_zero_or_pos l0.length with h0|h0
   ·
    exact List.eq_nil_of_length_eq_zero h0
   ·
    obtain ⟨ad,ha,_⟩:=HR0.out.2.2 h0
    cases ha
  subst hl0
  go_enter Tryz.func84,Tryz.ntmps84
  go_wp2
  go_ret
  exact ⟨_,rfl,Kd.R_nil _ _ _ _ _,Below.refl _ _⟩
 | some ad =>
  go_enter Tryz.func84,Tryz.ntmps84
  go_wp2_with (first
   | ((with_reducible refine gate_dst (N:=5) rfl ?_);refine Kd.R_lit (Kd.int .i64) _ 3 ?hg (N:=5) ?hd (xs:=([]:List Int)) (inner:=[]) (ok:=fun _=>True) (okp:=fun _=>True) ?hr ?hp (fun _ hk=>hk) trivial (Below.refl w.heap.size w) (Nat.le_refl _) (by simp) ?_;(case hd=>rfl);(case hg=>rfl);(case hr=>first|(go_simp;done)|(go_simp;rfl));(case hp=>exact (Reps.none _ _));intro v304 w3 ho4 hb hg_ hnew_;have HO:=Aside0.mk ho4;have HB:=Aside0.mk hb;clear ho4 hb hg_ hnew_)
   | ((with_reducible refine gate_builtin (b:=.append) (xs:=#[.tmp 5,.tmp 6]) rfl ?_);at_builtin;refine Kd.R_append_rows (Kd.int .i64) (w0:=w) w.heap.size rfl (.tmp 5) (.tmp 6) 28 3 (.int .i64 0) 8 rfl Tryz.underlying28 info3 rfl (by decide) (by omega) v304 ([]:List Int) l0 _ _ _ (fun _=>True) (fun _=>False) rfl rfl ?aO ?aR (fun _ _ h=>h) (fun _ h=>h.elim) ?aF ?aB ?aS ?aL ?_;(case aR=>exact Kd.C_below HR0.out HB.out);(case aB=>exact HB.out);(case aF=>exact (fun _ _=>trivial));(case aO=>exact HO.out);(case aS=>exact HB.out.size);(case aL=>have:=HL.out;simp;omega);intro v1 w9 ho hb hg hat;rw [List.nil_append] at ho;have HO1:=Aside0.mk ho;have HB1:=Aside0.mk hb;clear ho hb hg hat))
  go_ret
  exact ⟨_,rfl,HO1.out,HB1.out⟩

/-! ### impl_cloneControl: function 61 -/
def impl_cloneControl.f (l0_0:List Int) (a0_1:Int) (l0_2:List Int) (a0_3:Int):Option (List Int × Int × List Int × Int):=(slices_Clone_int_int.f l0_0).bind fun t540=>((slices_Clone_int_int.f l0_2).bind fun t543=>(some (t540,a0_1,t543,a0_3)))
def impl_cloneControl.T1:Bool × List (List Nat × List Nat):=(true,[([],[]),([0],[0]),([1],[1]),([],[]),([3],[3]),([4,2],[4]),([0,1,2,3,4],[]),([6,2,5,0,1,2,3,4],[2,6]),([0,1,2,3,4,5,6,7],[]),([8,5,7,0,1,2,3,4,5,6,7],[5,8])])
def impl_cloneControl.B1:List Nat:=[0,1,3,0,8,31,31,127,255,511]
theorem impl_cloneControl.tab1:rtab .any (opsOf Tryz.f61 1)=impl_cloneControl.T1:=by kernel_rfl
theorem impl_cloneControl.bits1:waitsOk impl_cloneControl.T1.2 impl_cloneControl.B1=true:=by kernel_rfl
set_option maxHeartbeats 8000000 in
set_option maxRecDepth 100000 in
theorem impl_cloneControl.calls (A0_0:Option Addr) (c0_0:Nat) (l0_0:List Int) (a0_1:Int) (A0_2:Option Addr) (c0_2:Nat) (l0_2:List Int) (a0_3:Int) (r1:List Int) (r2:Int) (r3:List Int) (r4:Int) (w:World) (hr0_0:Kd.C (Kd.int .i64) w A0_0 l0_0.length l0_0) (hc0_0:l0_0.length≤c0_0) (hr0_2:Kd.C (Kd.int .i64) w A0_2 l0_2.length l0_2) (hc0_2:l0_2.length≤c0_2) (h:impl_cloneControl.f l0_0 a0_1 l0_2 a0_3=some (r1,r2,r3,r4)) :
  Calls Tryz.prog 61 #[.agg #[.slice A0_0 l0_0.length c0_0,.int .i64 a0_1,.slice A0_2 l0_2.length c0_2,.int .i64 a0_3]] w fun e w'=>∃ v0_ v2_:Value,e=.returned (.agg #[v0_,.int .i64 r2,v2_,.int .i64 r4])∧Kd.R (Kd.int .i64) 3 w' w.heap.size (n1 v2_) v0_ r1∧Kd.R (Kd.int .i64) 3 w' w.heap.size (n1 v0_) v2_ r3∧Below w.heap.size w w':=by
 have hu50:=Tryz.underlying50;have HR0_0:=am hr0_0;have HC0_0:=am hc0_0;clear hr0_0 hc0_0;have HR0_2:=am hr0_2;have HC0_2:=am hc0_2;clear hr0_2 hc0_2;have HB:=am (Below.refl w.heap.size w);unfold impl_cloneControl.f at h;have H:=h;clear h;obtain ⟨t540,A2,H⟩:=bindE H;try dsimp only at H
 obtain ⟨t543,A3,H⟩:=bindE H;try dsimp only at H
 simp only [Option.some.injEq,Prod.mk.injEq] at H;obtain ⟨rfl,rfl,rfl,rfl⟩:=H;go_enter Tryz.func61,Tryz.ntmps61;try go_wp2_with (first|((with_reducible refine gd 1 ?_);refine bF w 1 #[.slice A0_0 l0_0.length c0_0,.int .i64 a0_1,.slice A0_2 l0_2.length c0_2,.int .i64 a0_3] 50 ?_;rintro gb538 w4 BK538 GW538 GE538 hb hg;replace HB:=bs HB hb;clear hb hg)|((with_reducible refine gd 2 ?_);refine bF w 2 #[.slice none 0 0,.int .i64 0,.slice none 0 0,.int .i64 0] 50 ?_;rintro gb539 w5 BK539 GW539 GE539 hb hg;replace HB:=bs HB hb;have NB538_539:=nl BK538 hg;have NB539_538:=nr BK538 hg;replace BK538:=kb BK538 hb;clear hb hg))
 replace BK538:=dk BK538;replace BK539:=dk BK539;have HBo:=HB;replace HB:=db HB;refine sw (ds:=[7,9]) 10 (mb 10 0) impl_cloneControl.tab1 impl_cloneControl.bits1 (h4 BK538) (fun hHeld HT_ HW_=>?_);generalize w5.drew=w6 at BK538 BK539 HB hHeld ⊢;refine pz [0,3,1,4] ?_;refine oa 2 5 (mb 10 31) HT_ (fun K hK=>?_);refine gA Tryz.func84 #[.slice A0_0 l0_0.length c0_0] ?_;(with_reducible refine (slices_Clone_int_int.calls _ _ l0_0 t540 _ ?_ ?_ A2.out).mono ?_);exact cB HR0_0;exact HC0_0.out;rintro e w7 ⟨v541,rfl,ho0,hb⟩;refine ⟨_,rfl,?_⟩;have HO542:=rl w ho0;replace BK538:=kb BK538 hb;replace BK539:=kb BK539 hb;replace HB:=bs HB hb;(try clear hb);(try clear ho0);refine hK.out _ _ (cn4 BK538) (fun hHeld=>?_);clear hK K;refine nB ?_;refine pz [6] ?_;refine oa 5 8 (mb 10 127) HT_ (fun K hK=>?_);refine gA Tryz.func84 #[.slice A0_2 l0_2.length c0_2] ?_;(with_reducible refine (slices_Clone_int_int.calls _ _ l0_2 t543 _ ?_ ?_ A3.out).mono ?_);exact cB HR0_2;exact HC0_2.out;rintro e w8 ⟨v544,rfl,ho0,hb⟩;refine ⟨_,rfl,?_⟩;have HO545:=rl w (rn ho0 HO542);replace HO542:=re HO542 ho0 hb;replace BK538:=kb BK538 hb;replace BK539:=kb BK539 hb;replace HB:=bs HB hb;(try clear hb);(try clear ho0);obtain ⟨Ao9,co9,eo9⟩:=Kd.R_slice HO542.out;(first|subst eo9|(injection eo9 with f1_ f2_ f3_;have f4_:=f1_.symm;have f5_:=f3_.symm;clear f1_ f2_ f3_;subst f4_;subst f5_));obtain ⟨Ao11,co11,eo11⟩:=Kd.R_slice HO545.out;(first|subst eo11|(injection eo11 with f1_ f2_ f3_;have f4_:=f1_.symm;have f5_:=f3_.symm;clear f1_ f2_ f3_;subst f4_;subst f5_));refine hK.out _ _ (cn4 BK538) (fun hHeld=>?_);clear hK K;refine nB ?_;refine last_ (i:=7) (N:=none) (mb 10 255) rfl rfl (one_of HT_.out (by kernel_rfl)) (by decide) (fun K hK=>?_);have hs10:w8.cell? ⟨gb538,0,none⟩=some (.slice A0_0 l0_0.length c0_0):=bC BK538 0;have hfs10:=blk_frozen BK538.out 0;have hns10_1:=NB539_538.out;have hms10_1:=NB538_539.out;refine skip_ (w1:=?_) (by rfl) rfl ?_ ?_;rotate_left
 ·go_simp
  rfl
 refine hK.out _ _ ?_;clear hK K;refine pz [8] ?_;refine last_ (i:=9) (N:=none) (mb 10 1023) rfl rfl (one_of HT_.out (by kernel_rfl)) (by decide) (fun K hK=>?_);have hs12:w8.cell? ⟨gb538,2,none⟩=some (.slice A0_2 l0_2.length c0_2):=bC BK538 2;have hfs12:=blk_frozen BK538.out 2;have hns12_1:=NB539_538.out;have hms12_1:=NB538_539.out;refine skip_ (w1:=?_) (by rfl) rfl ?_ ?_;rotate_left
 ·go_simp
  rfl
 refine hK.out _ _ ?_;clear hK K;refine eA HT_ ?_;have hnb13:=NB538_539.out;have hnc13:=NB539_538.out;obtain ⟨_,_,_,_,_,_,_,_⟩:=blkc4 BK538;obtain ⟨_,_,_,_,_,_,_,_⟩:=blkc4 BK539;try go_wp2
 refine bodyPost_ret (results_cell_row rfl _ _ gb539 50 #[.slice Ao9 t540.length co9,.int .i64 a0_1,.slice Ao11 t543.length co11,.int .i64 a0_3] (0,0) _ rfl (kP BK539 NB539_538) Tryz.underlying50 rfl (by kernel_rfl)) rfl ?_;exact ⟨_,_,rA,by (with_reducible repeat (first|apply Kd.R_alloc|apply Kd.R_drewN|apply Kd.R_drew));exact Kd.R_mono (Kd.R_far (p:=⟨gb539,3,none⟩) (Kd.R_far (p:=⟨gb539,2,none⟩) (Kd.R_far (p:=⟨gb539,1,none⟩) (Kd.R_far (p:=⟨gb539,0,none⟩) (Kd.R_far (p:=⟨gb538,2,none⟩) (Kd.R_far (p:=⟨gb538,0,none⟩) (Kd.R_types (Kd.R_types HO542.out BK538.out (by decide)) BK539.out (by decide)) (fun _ hk=>hk.1.2) (.slice Ao9 t540.length co9)) (fun _ hk=>hk.1.2) (.slice Ao11 t543.length co11)) (fun _ hk=>hk.2) (.slice Ao9 t540.length co9)) (fun _ hk=>hk.2) (.int .i64 a0_1)) (fun _ hk=>hk.2) (.slice Ao11 t543.length co11)) (fun _ hk=>hk.2) (.int .i64 a0_3)) (fun _ hk=>hk.1.1.2),by (with_reducible repeat (first|apply Kd.R_alloc|apply Kd.R_drewN|apply Kd.R_drew));exact Kd.R_mono (Kd.R_far (p:=⟨gb539,3,none⟩) (Kd.R_far (p:=⟨gb539,2,none⟩) (Kd.R_far (p:=⟨gb539,1,none⟩) (Kd.R_far (p:=⟨gb539,0,none⟩) (Kd.R_far (p:=⟨gb538,2,none⟩) (Kd.R_far (p:=⟨gb538,0,none⟩) (Kd.R_types (Kd.R_types HO545.out BK538.out (by decide)) BK539.out (by decide)) (fun _ hk=>hk.1.2) (.slice Ao9 t540.length co9)) (fun _ hk=>hk.1.2) (.slice Ao11 t543.length co11)) (fun _ hk=>hk.2) (.slice Ao9 t540.length co9)) (fun _ hk=>hk.2) (.int .i64 a0_1)) (fun _ hk=>hk.2) (.slice Ao11 t543.length co11)) (fun _ hk=>hk.2) (.int .i64 a0_3)) (fun _ hk=>hk.1.1.2),bG⟩

/-! ### impl_Want_62: function 62 -/
def impl_Want_62.f (l0:List S92):Option (List S92):=if l0.length < 8796093022208 then some l0 else none
theorem impl_Want_62.eq0 {P:Program} (w:World) (d:Nat) (t e:TypeId) (a:Option Addr) (n c n' c':Nat) (h:P.underlying t=some (.slice e)):(Op.equalIn (d + 1) t (.slice a n c) (.slice none n' c')).run P w=.ok a.isNone w:=by
 cases a <;> simp [Op.equalIn,run_underlying h]
theorem impl_Want_62.eq1 {P:Program} (w:World) (t e:TypeId) (a:Option Addr) (n c n' c':Nat) (h:P.underlying t=some (.slice e)):(binOp .eql t (.slice a n c) (.slice none n' c')).run P w=.ok (.bool a.isNone) w:=by
 simp only [binOp]
 simp [Op.equal,Op.maxDepth,impl_Want_62.eq0 w 9999 t e a n c n' c' h]
set_option maxHeartbeats 4000000 in
set_option maxRecDepth 100000 in
theorem impl_Want_62.calls (A0:Option Addr) (c0:Nat) (l0:List S92) (r:List S92) (w:World) (hr0:Kd.C k92 w A0 l0.length l0) (hc0:l0.length≤c0) (h:impl_Want_62.f l0=some r) :
  Calls Tryz.prog 62 #[.slice A0 l0.length c0] w fun e w'=>∃ v0_:Value,e=.returned (v0_)∧Kd.R k92 92 w' w.heap.size (fun _=>True) v0_ r∧Below w.heap.size w w':=by
 unfold impl_Want_62.f at h
 have hlim:=ifN h
 replace h:=ifT h
 obtain rfl:=Option.some.inj h
 have HL:=Aside0.mk hlim
 have HR0:=Aside0.mk hr0
 have HC0:=Aside0.mk hc0
 clear hr0 hc0 h hlim
 have q_:∀ (w:World) (a:Option Addr) (n c n' c':Nat),(binOp .eql 51 (.slice a n c) (.slice none n' c')).run Tryz.prog w=.ok (.bool a.isNone) w:=fun w a n c n' c'=>impl_Want_62.eq1 w _ _ a n c n' c' Tryz.underlying51
 cases A0 with
 | none =>
  have hl0:l0=[]:=by
   rcases Nat.eq_zero_or_pos l0.length with h0|h0
   ·
    exact List.eq_nil_of_length_eq_zero h0
   ·
    obtain ⟨ad,ha,_⟩:=HR0.out.2.2 h0
    cases ha
  subst hl0
  go_enter Tryz.func62,Tryz.ntmps62
  go_wp2
  go_ret
  exact ⟨_,rfl,Kd.R_nil _ _ _ _ _,Below.refl _ _⟩
 | some ad =>
  go_enter Tryz.func62,Tryz.ntmps62
  go_wp2_with (first
   | ((with_reducible refine gate_dst (N:=5) rfl ?_);refine Kd.R_lit k92 _ 92 ?hg (N:=5) ?hd (xs:=([]:List S92)) (inner:=[]) (ok:=fun _=>True) (okp:=fun _=>True) ?hr ?hp (fun _ hk=>hk) trivial (Below.refl w.heap.size w) (Nat.le_refl _) (by simp) ?_;(case hd=>rfl);(case hg=>rfl);(case hr=>first|(go_simp;done)|(go_simp;rfl));(case hp=>exact (Reps.none _ _));intro v304 w3 ho4 hb hg_ hnew_;have HO:=Aside0.mk ho4;have HB:=Aside0.mk hb;clear ho4 hb hg_ hnew_)
   | ((with_reducible refine gate_builtin (b:=.append) (xs:=#[.tmp 5,.tmp 6]) rfl ?_);at_builtin;refine Kd.R_append_rows k92 (w0:=w) w.heap.size rfl (.tmp 5) (.tmp 6) 51 92 (.agg #[(.int .i64 0),(.int .i64 0)]) 16 rfl Tryz.underlying51 info92 rfl (by decide) (by omega) v304 ([]:List S92) l0 _ _ _ (fun _=>True) (fun _=>False) rfl rfl ?aO ?aR (fun _ _ h=>h) (fun _ h=>h.elim) ?aF ?aB ?aS ?aL ?_;(case aR=>exact Kd.C_below HR0.out HB.out);(case aB=>exact HB.out);(case aF=>exact (fun _ _=>trivial));(case aO=>exact HO.out);(case aS=>exact HB.out.size);(case aL=>have:=HL.out;simp;omega);intro v1 w9 ho hb hg hat;rw [List.nil_append] at ho;have HO1:=Aside0.mk ho;have HB1:=Aside0.mk hb;clear ho hb hg hat))
  go_ret
  exact ⟨_,rfl,HO1.out,HB1.out⟩

/-! ### impl_LongestWant: function 122 -/
def impl_LongestWant.l0:Nat→List Int→Bool→List (S92)→Int→Int→Int→Int→Option (Int)
 | 0,_,_,_,_,_,_,_=>none
 | k + 1,x1,x6,x10,x11,x12,x547000,x547001=>if x12 < x11 then (if 0≤x12 then (if x12 < (x10.length:Int) then ((slices_Contains_int_int.f k x1 ((rd_T92 x10 x12).f0)).bind fun t549=>(if t549=true then (impl_LongestWant.l0 k x1 x6 x10 x11 (wrap64 (x12 + 1)) x547000 x547001) else (if x6=true then (if ((rd_T92 x10 x12).f1) > x547001 then (impl_LongestWant.l0 k x1 true x10 x11 (wrap64 (x12 + 1)) ((rd_T92 x10 x12).f0) ((rd_T92 x10 x12).f1)) else (impl_LongestWant.l0 k x1 x6 x10 x11 (wrap64 (x12 + 1)) x547000 x547001)) else (impl_LongestWant.l0 k x1 true x10 x11 (wrap64 (x12 + 1)) ((rd_T92 x10 x12).f0) ((rd_T92 x10 x12).f1))))) else (none)) else (none)) else (some x547000)
def impl_LongestWant.f (k:Nat) (l0:List (S92)) (l1:List Int):Option (Int):=impl_LongestWant.l0 k l1 false l0 (l0.length:Int) 0 0 0
theorem impl_LongestWant.mono_l:∀ k,(∀ y0 y1 y2 y3 y4 y5 y6,LeO (impl_LongestWant.l0 k y0 y1 y2 y3 y4 y5 y6) (impl_LongestWant.l0 (k + 1) y0 y1 y2 y3 y4 y5 y6))
 | 0=>fun _ _ _ _ _ _ _ r h=>by simp [impl_LongestWant.l0] at h
 | k + 1=>by
  have ih0:=impl_LongestWant.mono_l k
  ·intro y0 y1 y2 y3 y4 y5 y6;unfold impl_LongestWant.l0;exact mz2 ih0 slices_Contains_int_int.mono
theorem impl_LongestWant.mono:∀ a0 a1 k,LeO (impl_LongestWant.f k a0 a1) (impl_LongestWant.f (k + 1) a0 a1):=by
 intro a0 a1 k;have ih0:=impl_LongestWant.mono_l k;unfold impl_LongestWant.f;exact mz2 ih0 slices_Contains_int_int.mono
set_option maxHeartbeats 8000000 in
set_option maxRecDepth 100000 in
theorem impl_LongestWant.calls (k:Nat) (A0:Option Addr) (c0:Nat) (l0:List (S92)) (A1:Option Addr) (c1:Nat) (l1:List Int) (r:Int) (w:World) (hr0:Kd.C k92 w A0 l0.length l0) (hc0:l0.length≤c0) (hr1:Kd.C (Kd.int .i64) w A1 l1.length l1) (hc1:l1.length≤c1) (h:impl_LongestWant.f k l0 l1=some r) :
  Calls Tryz.prog 122 #[.slice A0 l0.length c0,.slice A1 l1.length c1] w fun e w'=>e=.returned (.int .i64 r)∧Below w.heap.size w w':=by
 have hu92:=Tryz.underlying92;have HR0:=am hr0;have HC0:=am hc0;clear hr0 hc0;have HR1:=am hr1;have HC1:=am hc1;clear hr1 hc1;have HB:=am (Below.refl w.heap.size w);unfold impl_LongestWant.f at h;have H:=h;clear h;have H':=am H;clear H;go_enter Tryz.func122,Tryz.ntmps122;go_wp2_with (first|((with_reducible refine gd 5 ?_);refine bF w 5 #[.int .i64 0,.int .i64 0] 92 ?_;rintro gb546 w3 BK546 GW546 GE546 hb hg;replace HB:=bs HB hb;clear hb hg;obtain ⟨_,_,_,_⟩:=blkc2 BK546));go_loopg [6,12] k (fun kq v6 v12 w'=>∃ (x6_1:Bool) (x12_1:Int) (x547000_1:Int) (x547001_1:Int),v6=.bool x6_1∧v12=.int .i64 x12_1∧Aside0 (impl_LongestWant.l0 kq l1 x6_1 l0 (l0.length:Int) x12_1 x547000_1 x547001_1=some r)∧Aside0 (kq≤k)∧Aside0 (w'.heap[gb546]?=some (.cells #[.int .i64 x547000_1,.int .i64 x547001_1] 92 (0,0)))∧Aside0 (Below w.heap.size w w'))
 case atStart=>exact ⟨(false),(0),(0),(0),rS,rS,H',⟨Nat.le_refl _⟩,⟨kp BK546⟩,⟨bG⟩⟩
 case round =>
  clear H';obtain ⟨x6_1,x12_1,x547000_1,x547001_1,rfl,rfl,HA,HK1,BK546,HB⟩:=hrel
  cases gk with
  | zero=>exact absurd HA.out (by simp [impl_LongestWant.l0])
  | succ k1 =>
   have H:=HA.out;clear HA;simp only [impl_LongestWant.l0] at H;by_cases c5:x12_1 < (l0.length:Int)
   ·rw [if_pos c5] at H;have c5b0:=dt c5;clear c5;have c6b0:=ifC H;replace H:=ifT H;have c7b0:=ifC H;replace H:=ifT H;obtain ⟨t549,A8,H⟩:=bindE H;try dsimp only at H
    by_cases c9:t549=true
    ·subst c9;rw [if_pos rfl] at H;have H':=am H;clear H;obtain ⟨p547,q547⟩:=pq x12_1 l0;obtain ⟨ad547,e547,hx547_0,hx547_1⟩:=at_T92 (Kd.C_below HR0.out HB.out) x12_1 p547 q547;cases e547;obtain ⟨p547,q547⟩:=eT p547 q547;go_wp2_with (first|((with_reducible refine gd 8 ?_);refine bF w 8 #[.int .i64 0,.int .i64 0] 92 ?_;rintro gb548 w10 BK548 GW548 GE548 hb hg;replace HB:=bs HB hb;have NB546_548:=nl BK546 hg;have NB548_546:=nr BK546 hg;replace BK546:=kb BK546 hb;clear hb hg;have hnb11:=NB548_546.out;have hnc11:=NB546_548.out;obtain ⟨_,_,_,_⟩:=blkc2 BK548)|((with_reducible refine gc 120 ?_);refine gL (some 19) Tryz.func120 #[.slice A1 l1.length c1,.int .i64 ((rd_T92 l0 x12_1).f0)] ?_;(with_reducible refine (slices_Contains_int_int.calls k1 _ _ l1 ((rd_T92 l0 x12_1).f0) true _ ?_ ?_ A8.out).mono ?_);exact Kd.C_below HR1.out bG;exact HC1.out;rintro e w' ⟨rfl,⟨nd,rfl⟩⟩;refine ⟨_,rfl,?_⟩));go_roundg k1
     case measure=>have:=HK1.out;omega
     case rel=>exact ⟨(x6_1),(wrap64 (x12_1 + 1)),(x547000_1),(x547001_1),rS,rS,H',⟨by have:=HK1.out;omega⟩,⟨kf BK546 NB546_548⟩,⟨bG⟩⟩
    replace c9:=Bool.eq_false_iff.mpr c9;subst c9;rw [if_neg Bool.false_ne_true] at H;by_cases c13:x6_1=true
    ·subst c13;rw [if_pos rfl] at H;by_cases c14:((rd_T92 l0 x12_1).f1) > x547001_1
     ·rw [if_pos c14] at H;have c14b0:=dt c14;clear c14;have H':=am H;clear H;obtain ⟨p547,q547⟩:=pq x12_1 l0;obtain ⟨ad547,e547,hx547_0,hx547_1⟩:=at_T92 (Kd.C_below HR0.out HB.out) x12_1 p547 q547;cases e547;obtain ⟨p547,q547⟩:=eT p547 q547;go_wp2_with (first|((with_reducible refine gd 8 ?_);refine bF w 8 #[.int .i64 0,.int .i64 0] 92 ?_;rintro gb548 w15 BK548 GW548 GE548 hb hg;replace HB:=bs HB hb;have NB546_548:=nl BK546 hg;have NB548_546:=nr BK546 hg;replace BK546:=kb BK546 hb;clear hb hg;have hnb16:=NB548_546.out;have hnc16:=NB546_548.out;obtain ⟨_,_,_,_⟩:=blkc2 BK548)|((with_reducible refine gc 120 ?_);refine gL (some 19) Tryz.func120 #[.slice A1 l1.length c1,.int .i64 ((rd_T92 l0 x12_1).f0)] ?_;(with_reducible refine (slices_Contains_int_int.calls k1 _ _ l1 ((rd_T92 l0 x12_1).f0) false _ ?_ ?_ A8.out).mono ?_);exact Kd.C_below HR1.out bG;exact HC1.out;rintro e w' ⟨rfl,⟨nd,rfl⟩⟩;refine ⟨_,rfl,?_⟩;obtain ⟨_,_,_,_⟩:=blkc2 BK546));go_roundg k1
      case measure=>have:=HK1.out;omega
      case rel=>exact ⟨(true),(wrap64 (x12_1 + 1)),((rd_T92 l0 x12_1).f0),((rd_T92 l0 x12_1).f1),rS,rS,H',⟨by have:=HK1.out;omega⟩,⟨kP BK546 NB546_548⟩,⟨bG⟩⟩
     rw [if_neg c14] at H;have c14b0:=df c14;clear c14;have H':=am H;clear H;obtain ⟨p547,q547⟩:=pq x12_1 l0;obtain ⟨ad547,e547,hx547_0,hx547_1⟩:=at_T92 (Kd.C_below HR0.out HB.out) x12_1 p547 q547;cases e547;obtain ⟨p547,q547⟩:=eT p547 q547;go_wp2_with (first|((with_reducible refine gd 8 ?_);refine bF w 8 #[.int .i64 0,.int .i64 0] 92 ?_;rintro gb548 w19 BK548 GW548 GE548 hb hg;replace HB:=bs HB hb;have NB546_548:=nl BK546 hg;have NB548_546:=nr BK546 hg;replace BK546:=kb BK546 hb;clear hb hg;have hnb20:=NB548_546.out;have hnc20:=NB546_548.out;obtain ⟨_,_,_,_⟩:=blkc2 BK548)|((with_reducible refine gc 120 ?_);refine gL (some 19) Tryz.func120 #[.slice A1 l1.length c1,.int .i64 ((rd_T92 l0 x12_1).f0)] ?_;(with_reducible refine (slices_Contains_int_int.calls k1 _ _ l1 ((rd_T92 l0 x12_1).f0) false _ ?_ ?_ A8.out).mono ?_);exact Kd.C_below HR1.out bG;exact HC1.out;rintro e w' ⟨rfl,⟨nd,rfl⟩⟩;refine ⟨_,rfl,?_⟩;obtain ⟨_,_,_,_⟩:=blkc2 BK546));go_roundg k1
     case measure=>have:=HK1.out;omega
     case rel=>exact ⟨(true),(wrap64 (x12_1 + 1)),(x547000_1),(x547001_1),rS,rS,H',⟨by have:=HK1.out;omega⟩,⟨kf BK546 NB546_548⟩,⟨bG⟩⟩
    replace c13:=Bool.eq_false_iff.mpr c13;subst c13;rw [if_neg Bool.false_ne_true] at H;have H':=am H;clear H;obtain ⟨p547,q547⟩:=pq x12_1 l0;obtain ⟨ad547,e547,hx547_0,hx547_1⟩:=at_T92 (Kd.C_below HR0.out HB.out) x12_1 p547 q547;cases e547;obtain ⟨p547,q547⟩:=eT p547 q547;go_wp2_with (first|((with_reducible refine gd 8 ?_);refine bF w 8 #[.int .i64 0,.int .i64 0] 92 ?_;rintro gb548 w23 BK548 GW548 GE548 hb hg;replace HB:=bs HB hb;have NB546_548:=nl BK546 hg;have NB548_546:=nr BK546 hg;replace BK546:=kb BK546 hb;clear hb hg;have hnb24:=NB548_546.out;have hnc24:=NB546_548.out;obtain ⟨_,_,_,_⟩:=blkc2 BK548)|((with_reducible refine gc 120 ?_);refine gL (some 19) Tryz.func120 #[.slice A1 l1.length c1,.int .i64 ((rd_T92 l0 x12_1).f0)] ?_;(with_reducible refine (slices_Contains_int_int.calls k1 _ _ l1 ((rd_T92 l0 x12_1).f0) false _ ?_ ?_ A8.out).mono ?_);exact Kd.C_below HR1.out bG;exact HC1.out;rintro e w' ⟨rfl,⟨nd,rfl⟩⟩;refine ⟨_,rfl,?_⟩;obtain ⟨_,_,_,_⟩:=blkc2 BK546));go_roundg k1
    case measure=>have:=HK1.out;omega
    case rel=>exact ⟨(true),(wrap64 (x12_1 + 1)),((rd_T92 l0 x12_1).f0),((rd_T92 l0 x12_1).f1),rS,rS,H',⟨by have:=HK1.out;omega⟩,⟨kP BK546 NB546_548⟩,⟨bG⟩⟩
   rw [if_neg c5] at H;have c5b0:=df c5;clear c5;obtain rfl:=oj H;obtain ⟨_,_,_,_⟩:=blkc2 BK546;go_wp2;go_ret;exact ⟨rA,bG⟩

/-! ### cmp_isNaN_int: function 133 -/
def cmp_isNaN_int.f (a0:Int):Option (Bool):=some (a0 != a0)
set_option maxHeartbeats 8000000 in
set_option maxRecDepth 100000 in
theorem cmp_isNaN_int.calls (a0:Int) (r:Bool) (w:World) (h:cmp_isNaN_int.f a0=some r) :
  Calls Tryz.prog 133 #[.int .i64 a0] w fun e w'=>e=.returned (.bool r)∧Drawn0 w w':=by
 unfold cmp_isNaN_int.f at h;have H:=h;clear h;obtain rfl:=oj H;go_enter Tryz.func133,Tryz.ntmps133;go_wp2;go_ret;exact ⟨rS,dD⟩

/-! ### cmp_Less_int: function 100 -/
def cmp_Less_int.f (a0:Int) (a1:Int):Option (Bool):=(cmp_isNaN_int.f a0).bind fun t550=>(if t550=true then ((cmp_isNaN_int.f a1).bind fun t551=>(if t551=true then (some (decide (a0 < a1))) else (some true))) else (some (decide (a0 < a1))))
set_option maxHeartbeats 8000000 in
set_option maxRecDepth 100000 in
theorem cmp_Less_int.calls (a0:Int) (a1:Int) (r:Bool) (w:World) (h:cmp_Less_int.f a0 a1=some r) :
  Calls Tryz.prog 100 #[.int .i64 a0,.int .i64 a1] w fun e w'=>e=.returned (.bool r)∧Drawn0 w w':=by
 unfold cmp_Less_int.f at h;have H:=h;clear h;obtain ⟨t550,A3,H⟩:=bindE H;try dsimp only at H
 by_cases c4:t550=true
 ·subst c4;rw [if_pos rfl] at H;obtain ⟨t551,A5,H⟩:=bindE H;try dsimp only at H
  by_cases c6:t551=true
  ·subst c6;rw [if_pos rfl] at H;obtain rfl:=oj H;go_enter Tryz.func100,Tryz.ntmps100;go_wp2_with (first|((with_reducible refine gc 133 ?_);refine gL (some 6) Tryz.func133 #[.int .i64 a0] ?_;(with_reducible refine (cmp_isNaN_int.calls a0 true _ A3.out).mono ?_);rintro e w' ⟨rfl,⟨nd,rfl⟩⟩;refine ⟨_,rfl,?_⟩)|(go_at_call 133;(with_reducible refine (cmp_isNaN_int.calls a1 true _ A5.out).mono ?_);rintro e w' ⟨rfl,⟨nd,rfl⟩⟩));go_ret;exact ⟨rS,dD⟩
  replace c6:=Bool.eq_false_iff.mpr c6;subst c6;rw [if_neg Bool.false_ne_true] at H;obtain rfl:=oj H;go_enter Tryz.func100,Tryz.ntmps100;go_wp2_with (first|((with_reducible refine gc 133 ?_);refine gL (some 6) Tryz.func133 #[.int .i64 a0] ?_;(with_reducible refine (cmp_isNaN_int.calls a0 true _ A3.out).mono ?_);rintro e w' ⟨rfl,⟨nd,rfl⟩⟩;refine ⟨_,rfl,?_⟩)|(go_at_call 133;(with_reducible refine (cmp_isNaN_int.calls a1 false _ A5.out).mono ?_);rintro e w' ⟨rfl,⟨nd,rfl⟩⟩));go_ret;exact ⟨rS,dD⟩
 replace c4:=Bool.eq_false_iff.mpr c4;subst c4;rw [if_neg Bool.false_ne_true] at H;obtain rfl:=oj H;go_enter Tryz.func100,Tryz.ntmps100;go_wp2_with (first|((with_reducible refine gc 133 ?_);refine gL (some 6) Tryz.func133 #[.int .i64 a0] ?_;(with_reducible refine (cmp_isNaN_int.calls a0 false _ A3.out).mono ?_);rintro e w' ⟨rfl,⟨nd,rfl⟩⟩;refine ⟨_,rfl,?_⟩));go_ret;exact ⟨rS,dD⟩

/-! ### slices_isNaN_int: function 154 -/
def slices_isNaN_int.f (a0:Int):Option (Bool):=some (a0 != a0)
set_option maxHeartbeats 8000000 in
set_option maxRecDepth 100000 in
theorem slices_isNaN_int.calls (a0:Int) (r:Bool) (w:World) (h:slices_isNaN_int.f a0=some r) :
  Calls Tryz.prog 154 #[.int .i64 a0] w fun e w'=>e=.returned (.bool r)∧Drawn0 w w':=by
 unfold slices_isNaN_int.f at h;have H:=h;clear h;obtain rfl:=oj H;go_enter Tryz.func154,Tryz.ntmps154;go_wp2;go_ret;exact ⟨rS,dD⟩

/-! ### slices_BinarySearch_int_int: function 149 -/
def slices_BinarySearch_int_int.l0:Nat→List Int→Int→Int→Int→Int→Option (Int × Bool)
 | 0,_,_,_,_,_=>none
 | k + 1,x0,x1,x6,x7,x8=>if x7 < x8 then (if 0≤(wrap64 ((IntKind.u64.wrap (wrap64 (x7 + x8))) / 2)) then (if (wrap64 ((IntKind.u64.wrap (wrap64 (x7 + x8))) / 2)) < (x0.length:Int) then ((cmp_Less_int.f (rd x0 (wrap64 ((IntKind.u64.wrap (wrap64 (x7 + x8))) / 2))) x1).bind fun t553=>(if t553=true then (slices_BinarySearch_int_int.l0 k x0 x1 x6 (wrap64 ((wrap64 ((IntKind.u64.wrap (wrap64 (x7 + x8))) / 2)) + 1)) x8) else (slices_BinarySearch_int_int.l0 k x0 x1 x6 x7 (wrap64 ((IntKind.u64.wrap (wrap64 (x7 + x8))) / 2))))) else (none)) else (none)) else (if x7 < x6 then (if 0≤x7 then (if x7 < (x0.length:Int) then (if (rd x0 x7)=x1 then (some (x7,true)) else ((slices_isNaN_int.f (rd x0 x7)).bind fun t556=>(if t556=true then ((slices_isNaN_int.f x1).bind fun t557=>(some (x7,t557))) else (some (x7,false))))) else (none)) else (none)) else (some (x7,false)))
def slices_BinarySearch_int_int.f (k:Nat) (l0:List Int) (a1:Int):Option (Int × Bool):=slices_BinarySearch_int_int.l0 k l0 a1 (l0.length:Int) 0 (l0.length:Int)
theorem slices_BinarySearch_int_int.mono_l:∀ k,(∀ y0 y1 y2 y3 y4,LeO (slices_BinarySearch_int_int.l0 k y0 y1 y2 y3 y4) (slices_BinarySearch_int_int.l0 (k + 1) y0 y1 y2 y3 y4))
 | 0=>fun _ _ _ _ _ r h=>by simp [slices_BinarySearch_int_int.l0] at h
 | k + 1=>by
  have ih0:=slices_BinarySearch_int_int.mono_l k
  ·intro y0 y1 y2 y3 y4;unfold slices_BinarySearch_int_int.l0;exact mz1 ih0
theorem slices_BinarySearch_int_int.mono:∀ a0 a1 k,LeO (slices_BinarySearch_int_int.f k a0 a1) (slices_BinarySearch_int_int.f (k + 1) a0 a1):=by
 intro a0 a1 k;have ih0:=slices_BinarySearch_int_int.mono_l k;unfold slices_BinarySearch_int_int.f;exact mz1 ih0
set_option maxHeartbeats 8000000 in
set_option maxRecDepth 100000 in
theorem slices_BinarySearch_int_int.calls (k:Nat) (A0:Option Addr) (c0:Nat) (l0:List Int) (a1:Int) (r1:Int) (r2:Bool) (w:World) (hr0:Kd.C (Kd.int .i64) w A0 l0.length l0) (hc0:l0.length≤c0) (h:slices_BinarySearch_int_int.f k l0 a1=some (r1,r2)) :
  Calls Tryz.prog 149 #[.slice A0 l0.length c0,.int .i64 a1] w fun e w'=>e=.returned (.tuple #[.int .i64 r1,.bool r2])∧Drawn0 w w':=by
 have HR0:=am hr0;have HC0:=am hc0;clear hr0 hc0;unfold slices_BinarySearch_int_int.f at h;have H:=h;clear h;have H':=am H;clear H;go_enter Tryz.func149,Tryz.ntmps149;go_wp2;go_loopg [7,8] k (fun kq v7 v8 w'=>∃ (x7_1:Int) (x8_1:Int),v7=.int .i64 x7_1∧v8=.int .i64 x8_1∧Aside0 (slices_BinarySearch_int_int.l0 kq l0 a1 (l0.length:Int) x7_1 x8_1=some (r1,r2))∧Aside0 (kq≤k)∧Drawn0 w w')
 case atStart=>exact ⟨(0),((l0.length:Int)),rS,rS,H',⟨Nat.le_refl _⟩,by repeat (first|exact Drawn0.refl _|apply Drawn0.step)⟩
 case round =>
  clear H';obtain ⟨x7_1,x8_1,rfl,rfl,HA,HK1,⟨m1,rfl⟩⟩:=hrel
  cases gk with
  | zero=>exact absurd HA.out (by simp [slices_BinarySearch_int_int.l0])
  | succ k1 =>
   have H:=HA.out;clear HA;simp only [slices_BinarySearch_int_int.l0] at H;by_cases c3:x7_1 < x8_1
   ·rw [if_pos c3] at H;have c3b0:=dt c3;clear c3;obtain ⟨ji4,hji4⟩:∃ j_:Int,(wrap64 ((IntKind.u64.wrap (wrap64 (x7_1 + x8_1))) / 2))=j_:=⟨_,rfl⟩;replace H:(if 0≤(ji4) then (if (ji4) < (l0.length:Int) then ((cmp_Less_int.f (rd l0 (ji4)) a1).bind fun t553=>(if t553=true then (slices_BinarySearch_int_int.l0 k1 l0 a1 (l0.length:Int) (wrap64 ((ji4) + 1)) x8_1) else (slices_BinarySearch_int_int.l0 k1 l0 a1 (l0.length:Int) x7_1 ji4))) else (none)) else (none))=some (r1,r2):=by first|(rw [hji4] at H;exact H)|(simp only [hji4] at H ⊢;exact H)
    have hji4w:(IntKind.i64.wrap ((IntKind.u64.wrap (wrap64 (x7_1 + x8_1))) / 2))=ji4:=(i64_w _).trans hji4;have c5b0:=ifC H;replace H:=ifT H;have c6b0:=ifC H;replace H:=ifT H;obtain ⟨t553,A7,H⟩:=bindE H;try dsimp only at H
    by_cases c8:t553=true
    ·subst c8;rw [if_pos rfl] at H;have H':=am H;clear H;obtain ⟨p552,q552⟩:=pq (ji4) l0;obtain ⟨ad552,e552,hx552_0⟩:=Kd.at_int HR0.out (ji4) p552 q552;cases e552;obtain ⟨p552,q552⟩:=eT p552 q552;go_wp2_with (first|((with_reducible refine gc 100 ?_);refine goesL_ (some 27) rfl rfl Tryz.func100 (by kernel_rfl) rfl #[.int .i64 (rd l0 (ji4)),.int .i64 a1] rfl (by (try simp only [List.map_toArray,List.map_cons,List.map_nil]);first|done|(simp only [hji4];rfl)|rfl|(simp only [List.length_drop,List.length_take];rfl)) ?_;(with_reducible refine (cmp_Less_int.calls (rd l0 (ji4)) a1 true _ A7.out).mono ?_);rintro e w' ⟨rfl,⟨nd,rfl⟩⟩;refine ⟨_,rfl,?_⟩));go_roundg k1
     case measure=>have:=HK1.out;omega
     case rel=>exact ⟨(wrap64 ((ji4) + 1)),(x8_1),(by first|rfl|(simp;done)|(simp only [← hji4] <;> (first|rfl|simp))|(simp [*];done)),rS,H',⟨by have:=HK1.out;omega⟩,by repeat (first|exact Drawn0.refl _|apply Drawn0.step)⟩
    replace c8:=Bool.eq_false_iff.mpr c8;subst c8;rw [if_neg Bool.false_ne_true] at H;have H':=am H;clear H;obtain ⟨p552,q552⟩:=pq (ji4) l0;obtain ⟨ad552,e552,hx552_0⟩:=Kd.at_int HR0.out (ji4) p552 q552;cases e552;obtain ⟨p552,q552⟩:=eT p552 q552;go_wp2_with (first|((with_reducible refine gc 100 ?_);refine goesL_ (some 27) rfl rfl Tryz.func100 (by kernel_rfl) rfl #[.int .i64 (rd l0 (ji4)),.int .i64 a1] rfl (by (try simp only [List.map_toArray,List.map_cons,List.map_nil]);first|done|(simp only [hji4];rfl)|rfl|(simp only [List.length_drop,List.length_take];rfl)) ?_;(with_reducible refine (cmp_Less_int.calls (rd l0 (ji4)) a1 false _ A7.out).mono ?_);rintro e w' ⟨rfl,⟨nd,rfl⟩⟩;refine ⟨_,rfl,?_⟩));go_roundg k1
    case measure=>have:=HK1.out;omega
    case rel=>exact ⟨(x7_1),(ji4),rS,(by first|rfl|(simp;done)|(simp only [← hji4] <;> (first|rfl|simp))|(simp [*];done)),H',⟨by have:=HK1.out;omega⟩,by repeat (first|exact Drawn0.refl _|apply Drawn0.step)⟩
   rw [if_neg c3] at H;have c3b0:=df c3;clear c3;by_cases c9:x7_1 < (l0.length:Int)
   ·rw [if_pos c9] at H;have c9b0:=dt c9;clear c9;have c10b0:=ifC H;replace H:=ifT H;have c11b0:=ifC H;replace H:=ifT H;by_cases c12:(rd l0 x7_1)=a1
    ·rw [if_pos c12] at H;obtain ⟨c12b0,c12b1⟩:=eI c12;clear c12;simp only [Option.some.injEq,Prod.mk.injEq] at H;obtain ⟨rfl,rfl⟩:=H;obtain ⟨p554,q554⟩:=pq x7_1 l0;obtain ⟨ad554,e554,hx554_0⟩:=Kd.at_int HR0.out x7_1 p554 q554;cases e554;obtain ⟨p554,q554⟩:=eT p554 q554;go_wp2;go_ret2;exact ⟨rS,dD⟩
    rw [if_neg c12] at H;obtain ⟨c12b0,c12b1⟩:=nI c12;obtain ⟨t556,A13,H⟩:=bindE H;try dsimp only at H
    by_cases c14:t556=true
    ·subst c14;rw [if_pos rfl] at H;obtain ⟨t557,A15,H⟩:=bindE H;try dsimp only at H
     simp only [Option.some.injEq,Prod.mk.injEq] at H;obtain ⟨rfl,rfl⟩:=H;obtain ⟨p554,q554⟩:=pq x7_1 l0;obtain ⟨ad554,e554,hx554_0⟩:=Kd.at_int HR0.out x7_1 p554 q554;cases e554;obtain ⟨p554,q554⟩:=eT p554 q554;obtain ⟨p555,q555⟩:=pq x7_1 l0;obtain ⟨ad555,e555,hx555_0⟩:=Kd.at_int HR0.out x7_1 p555 q555;obtain rfl:ad554=ad555:=(by injection e555);obtain ⟨p555,q555⟩:=eT p555 q555;go_wp2_with (first|(go_at_call 154;(with_reducible refine (slices_isNaN_int.calls (rd l0 x7_1) true _ A13.out).mono ?_);rintro e w' ⟨rfl,⟨nd,rfl⟩⟩)|(go_at_call 154;(with_reducible refine (slices_isNaN_int.calls a1 t557 _ A15.out).mono ?_);rintro e w' ⟨rfl,⟨nd,rfl⟩⟩));go_ret2;exact ⟨rS,dD⟩
    replace c14:=Bool.eq_false_iff.mpr c14;subst c14;rw [if_neg Bool.false_ne_true] at H;simp only [Option.some.injEq,Prod.mk.injEq] at H;obtain ⟨rfl,rfl⟩:=H;obtain ⟨p554,q554⟩:=pq x7_1 l0;obtain ⟨ad554,e554,hx554_0⟩:=Kd.at_int HR0.out x7_1 p554 q554;cases e554;obtain ⟨p554,q554⟩:=eT p554 q554;obtain ⟨p555,q555⟩:=pq x7_1 l0;obtain ⟨ad555,e555,hx555_0⟩:=Kd.at_int HR0.out x7_1 p555 q555;obtain rfl:ad554=ad555:=(by injection e555);obtain ⟨p555,q555⟩:=eT p555 q555;go_wp2_with (first|(go_at_call 154;(with_reducible refine (slices_isNaN_int.calls (rd l0 x7_1) false _ A13.out).mono ?_);rintro e w' ⟨rfl,⟨nd,rfl⟩⟩));go_ret2;exact ⟨rS,dD⟩
   rw [if_neg c9] at H;have c9b0:=df c9;clear c9;simp only [Option.some.injEq,Prod.mk.injEq] at H;obtain ⟨rfl,rfl⟩:=H;go_wp2;go_ret2;exact ⟨rS,dD⟩

/-! ### impl_inserted: function 144 -/
theorem impl_inserted.one {α:Type} {R:α→List Value→Prop} {size:Nat} {ps:List α} {cs:List Value} (h:Reps R size ps cs) (hs:0 < size) (hR:∀ p c,R p c→∀ u∈c,u.oneCell'=true):∀ u∈cs,u.oneCell'=true:=by
 intro u hu
 obtain ⟨q,hq,rfl⟩:=List.mem_iff_getElem.1 hu
 have hj:q / size < ps.length:=by
  rw [Nat.div_lt_iff_lt_mul hs,← h.1]
  exact hq
 refine hR _ _ (h.2 (q / size) _ (List.getElem?_eq_getElem hj)) _ (List.mem_iff_getElem?.2 ⟨q % size,?_⟩)
 rw [List.getElem?_take,if_pos (Nat.mod_lt _ hs),List.getElem?_drop,Nat.mul_comm,Nat.div_add_mod,List.getElem?_eq_getElem hq]
theorem impl_inserted.cp {P:Program} (w:World) (t ty e:TypeId) (sz b o dLen dCap:Nat) (a:Addr) (sLen sCap q:Nat) (cs:List Value)
  (hu:P.underlying t=some (.slice e)) (hs:(P.info? e).map (·.size)=some sz) (hq:Nat.min sLen dLen=q) (hn:cs.length=q * sz)
  (hsrc:∀ j v,cs[j]?=some v→w.cell? (a.add j)=some v) (hc:∀ j,j < cs.length→(w.cell? ⟨b,o + j,none⟩).isSome=true) (hf:∀ j,j < cs.length→w.frozen? ⟨b,o + j,none⟩=false) (h1:∀ v∈cs,v.oneCell'=true) :
  (Builtin.copy_ #[t,t] ty #[.slice (some ⟨b,o,none⟩) dLen dCap,.slice (some a) sLen sCap]).run P w=.ok (goInt q) (w.setCells b o cs):=by
 have hst:=run_storeCells_cells (P:=P) b o cs 0 w (by simpa using hc) (by simpa using hf) h1
 simp only [Nat.add_zero] at hst
 cases hi:P.info? e with
 | none=>simp [hi] at hs
 | some i =>
  have hz:i.size=sz:=by simpa [hi] using hs
  subst hz
  have hfc:=run_firstCells_some (P:=P) w i.size q a sLen sCap cs hn hsrc
  simp [Builtin.copy_,run_underlying hu,Builtin.lenOf,sizeOf,typeInfo,hi,hq,hfc,hst]
theorem impl_inserted.az {P:Program} (w:World) (t ti ty e:TypeId) (i:TypeInfo) (z:Value) (size bytes:Nat) (ht:P.underlying t=some (.slice e)) {k:IntKind} (hti:P.underlying ti=some (.int k)) (hi:P.info? e=some i) (hz:i.zero=some z)
  (hsize:i.size=size) (hby:i.bytes=bytes) (hzs:z.cells.size=size) (hsz:0 < size) (hb0:0 < bytes)
  (A:Addr) (n cap:Nat) (xs:List Value) (hxl:xs.length=n * size) (hxc:∀ j u,xs[j]?=some u→w.cell? (A.add j)=some u) (kx:IntKind) (m:Nat) (hm:¬ m=0) (hcap:cap < n + m)
  (hbytes:(n + m) * bytes≤140737488355328) :
  ∃ C cells,(Builtin.append_ #[t,ti] ty #[.slice (some A) n cap,.int kx m]).run P w=.ok (.slice (some ⟨w.heap.size,0,none⟩) (n + m) C) (w.drew.alloc (.cells cells e))∧n + m≤C∧C≤maxLen∧cells.size=C * size∧cells.toList.take (n * size)=xs:=by
 subst hsize
 subst hby
 have hle:n + m≤140737488355328:=Nat.le_trans (Nat.le_mul_of_pos_right _ hb0) hbytes
 have h63:n + m≤maxLen:=by simp only [maxLen];omega
 have hw:IntKind.i64.wrap (m:Int)=m:=by rw [IntKind.wrap_i64];omega
 have hneg:¬ ((m:Int) < 0):=by omega
 have hmb:m * i.bytes≤140737488355328:=Nat.le_trans (Nat.mul_le_mul_right _ (Nat.le_add_left m n)) hbytes
 have hbig:¬ (281474976710656 < (m:Int) * (i.bytes:Int)):=by
  rw [← Int.natCast_mul]
  omega
 have hsn:i.size≠0:=by omega
 obtain ⟨news,hnews⟩:∃ news,news=(Builtin.zeroCells z.cells m).toList:=⟨_,rfl⟩
 have hl:news.length=m * i.size:=by rw [hnews,Array.length_toList,size_zeroCells,hzs]
 have hna:Builtin.zeroCells z.cells m=news.toArray:=by rw [hnews]
 have hge:=grownCap_ge w (n + m) cap e
 have hcm:grownCap w (n + m) cap e≤maxLen:=grownCap_le_maxLen w (n + m) cap e h63
 have hfo:(Builtin.firstCells i.size n (.slice (some A) n cap)).run P w.drew=.ok xs.toArray w.drew:=run_firstCells_some (P:=P) w.drew i.size n _ n cap xs hxl (by simpa using hxc)
 have runs:(Builtin.append_ #[t,ti] ty #[.slice (some A) n cap,.int kx m]).run P w =
   .ok (.slice (some ⟨w.heap.size,0,none⟩) (n + m) (grownCap w (n + m) cap e)) (w.drew.alloc (.cells (xs.toArray ++ news.toArray ++ Builtin.zeroCells z.cells (grownCap w (n + m) cap e - (n + m))) e)):=by
  have hn:¬ (n + m≤cap):=by omega
  have h63':¬ (9223372036854775807 < ((n:Int) + (m:Int))):=by omega
  have hfit:=growslice_fits hcap hbytes
  have h48':¬ (281474976710656 < Builtin.nextslicecap (n + m) cap * i.bytes):=by omega
  have hmz:¬ (m * i.size=0):=Nat.mul_ne_zero hm hsn
  simp [Builtin.append_,run_underlying ht,run_underlying hti,sizeOf,typeInfo,zeroValue,hi,hz,asInt,asIntOf,hw,hneg,hbig,hn,h63',h48',Question.forced,hfo,newRow,grownCap,hmz,hna]
  congr 2
  apply Array.ext'
  simp [List.append_assoc]
 refine ⟨_,_,runs,hge,hcm,?_,?_⟩
 ·
  simp only [Array.size_append,List.size_toArray,size_zeroCells,hzs,hxl,hl,← Nat.add_mul]
  congr 1
  omega
 ·
  simp only [Array.toList_append,List.append_assoc]
  rw [← hxl]
  exact List.take_left
theorem impl_inserted.two {e g:Nat} (w w1:World) (cur:Array Value) (cs rest:List Value) (o:Nat) (h:w.heap[g]?=some (.cells cur e (0,0))) (hw1:w1.heap[g]?=(w.setCells g o cs).heap[g]?) (hl:o + cs.length + rest.length≤cur.size) :
  ∃ cur',(w1.setCells g (o + cs.length) rest).heap[g]?=some (.cells cur' e (0,0))∧cur'.size=cur.size∧cur'.toList.take (o + cs.length + rest.length)=cur.toList.take o ++ cs ++ rest:=by
 obtain ⟨c1,h1,h2,h3⟩:=setCells_row cs o w cur h (by omega)
 obtain ⟨c2,h4,h5,h6⟩:=setCells_row rest (o + cs.length) w1 c1 (hw1.trans h1) (by omega)
 have hlen:(cur.toList.take o).length=o:=by rw [List.length_take,Array.length_toList];omega
 refine ⟨c2,h4,by omega,?_⟩
 rw [h6,h3]
 have ha:(cur.toList.take o ++ cs ++ cur.toList.drop (o + cs.length)).take (o + cs.length)=cur.toList.take o ++ cs:=List.take_left' (by rw [List.length_append,hlen])
 rw [ha]
 exact List.take_left' (by rw [List.length_append,List.length_append,hlen])
theorem impl_inserted.two' {e g:Nat} (w:World) (cur:Array Value) (cs rest:List Value) (o:Nat) (h:w.heap[g]?=some (.cells cur e (0,0))) (hl:o + cs.length + rest.length≤cur.size) :
  ∃ cur',((w.setCells g (o + cs.length) rest).setCells g o cs).heap[g]?=some (.cells cur' e (0,0))∧cur'.size=cur.size∧cur'.toList.take (o + cs.length + rest.length)=cur.toList.take o ++ cs ++ rest:=by
 obtain ⟨c1,h1,h2,h3⟩:=setCells_row rest (o + cs.length) w cur h (by omega)
 obtain ⟨c2,h4,h5,h6⟩:=setCells_row cs o (w.setCells g (o + cs.length) rest) c1 h1 (by omega)
 have hlen:(cur.toList.take o).length=o:=by rw [List.length_take,Array.length_toList];omega
 have hlen2:(cur.toList.take (o + cs.length)).length=o + cs.length:=by rw [List.length_take,show cur.toList.length=cur.size from Array.length_toList];omega
 refine ⟨c2,h4,by omega,?_⟩
 rw [h6,h3]
 have ha:(cur.toList.take (o + cs.length) ++ rest ++ cur.toList.drop (o + cs.length + rest.length)).take o=cur.toList.take o:=by
  rw [List.append_assoc,List.take_append_of_le_length (by omega),List.take_take,Nat.min_eq_left (by omega)]
 have hb:(cur.toList.take (o + cs.length) ++ rest ++ cur.toList.drop (o + cs.length + rest.length)).drop (o + cs.length)=rest ++ cur.toList.drop (o + cs.length + rest.length):=by
  rw [List.append_assoc]
  exact List.drop_left' hlen2
 rw [ha,hb,← List.append_assoc]
 exact List.take_left' (by rw [List.length_append,List.length_append,hlen])
theorem impl_inserted.mk {α:Type} (d:Kd α) (e:Nat) (w':World) (base g C k:Nat) (cur:Array Value) (xs:List α) (x:α) (inner cs:List Value)
  (hr:Reps (d.M w' base (fun k=>True∧some k≠some g)) d.sz xs inner) (hx:d.M w' base (fun k=>True∧some k≠some g) x cs) (hk:k≤xs.length) (hb:base≤g) (hg:w'.heap[g]?=some (.cells cur e (0,0)))
  (hC:xs.length + 1≤C) (hCm:C≤maxLen) (hcs:cur.size=C * d.sz) (ht:cur.toList.take ((xs.length + 1) * d.sz)=inner.take (k * d.sz) ++ cs ++ inner.drop (k * d.sz)) :
  d.R e w' base (fun _=>True) (.slice (some ⟨g,0,none⟩) (xs.length + 1) C) (xs.take k ++ [x] ++ xs.drop k):=by
 have hl:(xs.take k ++ [x] ++ xs.drop k).length=xs.length + 1:=by simp;omega
 have hcl:cs.length=d.sz:=d.K_len (d.K_of_M hx)
 have h1:Reps (d.M w' base (fun k=>True∧some k≠some g)) d.sz (xs.take k ++ [x] ++ xs.drop k) (inner.take (k * d.sz) ++ cs ++ inner.drop (k * d.sz)) :=
  Kd.reps_append (Reps.snoc (Kd.reps_take hr hk) hx hcl) (Kd.reps_drop hr)
 exact ⟨fun _ _=>trivial,_,⟨h1.1,.inr ⟨g,C,cur,by rw [hl],hb,hg,by rw [hl];exact hC,hCm,hcs,by rw [hl];exact ht⟩⟩,h1⟩
theorem impl_inserted.wcopy {P:Program} (w:World) {ops:Array Oper} {rest:List Oper} {o:Oper} {a:Act} {Q:Exit→Act→World→Prop} (hgd:o.guard=none) (d s:Operand) (t t':TypeId)
  (ho:o.op=.call { callee:=.builtin .copy,args:=#[d,s],argTypes:=#[t,t'] }) (v u:Value) (hd:a.eval d=v) (hs:a.eval s=u) {v':Value} {w':World}
  (hr:(Builtin.copy_ #[t,t'] o.type #[v,u]).run P w=.ok v' w') (h:wpList P ops Q rest (a.put o.dst v') w'):wpList P ops Q (o::rest) a w :=
 wpList_plain hgd fun K hK=>by
  unfold Oper.wp execOp
  simp only [ho,resolve,invoke,builtin,Sem.run_bind,Sem.run_pure,Result.andThen_ok,List.map_toArray,List.map_cons,List.map_nil,hd,hs,hr]
  exact hK _ _ h
theorem impl_inserted.wapp {P:Program} (w:World) {ops:Array Oper} {rest:List Oper} {o:Oper} {a:Act} {Q:Exit→Act→World→Prop} (hgd:o.guard=none) (d s:Operand) (t t':TypeId)
  (ho:o.op=.call { callee:=.builtin .append,args:=#[d,s],argTypes:=#[t,t'] }) (v u:Value) (hd:a.eval d=v) (hs:a.eval s=u) {v':Value} {w':World}
  (hr:(Builtin.append_ #[t,t'] o.type #[v,u]).run P w=.ok v' w') (h:wpList P ops Q rest (a.put o.dst v') w'):wpList P ops Q (o::rest) a w :=
 wpList_plain hgd fun K hK=>by
  unfold Oper.wp execOp
  simp only [ho,resolve,invoke,builtin,Sem.run_bind,Sem.run_pure,Result.andThen_ok,List.map_toArray,List.map_cons,List.map_nil,hd,hs,hr]
  exact hK _ _ h
theorem impl_inserted.scopy {P:Program} {ops:Array Oper} {o:Oper} {a:Act} {w:World} {K:Act→World→Prop} {Q:Exit→Act→World→Prop} {E:Prop}
  (hg:o.guard=none) (d x:Operand) (dT sT:TypeId) (hop:o.op=Op.call { callee:=Callee.builtin Builtin.copy,args:=#[d,x],argTypes:=#[dT,sT] })
  (v u:Value) (hd:a.eval d=v) (hx:a.eval x=u) {v':Value} {w':World} (hr:(Builtin.copy_ #[dT,sT] o.type #[v,u]).run P w=.ok v' w') (hK:K (a.put o.dst v') w') :
  if Region.wanted o (yielded ops a.tmps)=true then Oper.wp P o a w K Q else E:=by
 have hw:Region.wanted o (yielded ops a.tmps)=true:=by simp [Region.wanted,hg]
 rw [if_pos hw]
 unfold Oper.wp
 simp [execOp,hop,resolve,invoke,builtin,hd,hx,hr,Result.andThen]
 exact hK
theorem impl_inserted.flat {w w':World} {base base':Nat} {ok ok':Nat→Prop} {p:Int} {cs:List Value} (h:((Kd.int .i64)).M w base ok p cs):((Kd.int .i64)).M w' base' ok' p cs:=h
theorem impl_inserted.end_fact (base c gv cv:Nat) (l0:List Int) (x:Int) (ok okv:Nat→Prop) (w0 w:World) (hlim:l0.length < 8796093022208) (A:Option Addr)
  (HO:Kd.R (Kd.int .i64) 3 w base ok (.slice A l0.length c) l0) (HV:Kd.R (Kd.int .i64) 3 w base okv (.slice (some ⟨gv,0,none⟩) 1 cv) [x]) (hb:Below base w0 w) (hbase:base≤w.heap.size) :
  ∃ v1 w1,(Builtin.append_ #[28,28] 28 #[.slice A l0.length c,.slice (some ⟨gv,0,none⟩) 1 cv]).run Tryz.prog w=.ok v1 w1∧Kd.R (Kd.int .i64) 3 w1 base (fun _=>True) v1 (l0 ++ [x])∧Below base w0 w1:=by
 obtain ⟨_,inner,hown,hr⟩:=HO
 obtain ⟨_,innv,hownv,hrv⟩:=HV
 obtain ⟨i0,hi0,hz0,hz1,hz2⟩:∃ i,Tryz.prog.info? 3=some i∧i.zero=some (.int .i64 0)∧i.size=1∧i.bytes=8:=by
  have h:=info3
  cases hq:Tryz.prog.info? 3 with
  | none=>rw [hq] at h;simp at h
  | some i=>rw [hq] at h;simp at h;exact ⟨i,rfl,h.1,h.2.1,h.2.2⟩
 obtain ⟨v1,w1,hrun,h2,hg,_,hat⟩:=run_append_own_at (P:=Tryz.prog) w base 28 28 3 i0 (.int .i64 0) 1 8 Tryz.underlying28 hi0 hz0 hz1 hz2 rfl (by decide) (.slice A l0.length c) l0.length inner hown ⟨gv,0,none⟩ 1 cv innv (by rw [hrv.1];rfl) (hownv.cells (g:=gv) rfl) (impl_inserted.one hrv (by decide) (fun _ _ hp=>((Kd.int .i64)).K_one (((Kd.int .i64)).K_of_M hp))) (by simp only [maxLen];omega) (by omega) hbase
 refine ⟨v1,w1,hrun,⟨fun _ _=>trivial,inner ++ innv,by rw [List.length_append];exact h2,Kd.reps_append (hr.imp_ (fun _ _ hp=>impl_inserted.flat hp)) (hrv.imp_ (fun _ _ hp=>impl_inserted.flat hp))⟩,hb.grown hg hbase (own_base hown)⟩
set_option maxHeartbeats 4000000 in
set_option maxRecDepth 100000 in
theorem impl_inserted.at_end (base c gv cv:Nat) (l0:List Int) (x:Int) (ok okv:Nat→Prop) (w0 w:World) (hlim:l0.length < 8796093022208) (A:Option Addr)
  (HO:Kd.R (Kd.int .i64) 3 w base ok (.slice A l0.length c) l0) (HV:Kd.R (Kd.int .i64) 3 w base okv (.slice (some ⟨gv,0,none⟩) 1 cv) [x]) (hb:Below base w0 w) (hbase:base≤w.heap.size) :
  Calls Tryz.prog 150 #[.slice A l0.length c,.int .i64 (l0.length:Int),.slice (some ⟨gv,0,none⟩) 1 cv] w fun e w'=>∃ v0_:Value,e=.returned v0_∧Kd.R (Kd.int .i64) 3 w' base (fun _=>True) v0_ (l0 ++ [x])∧Below base w0 w':=by
 obtain ⟨v1,w1,hap,ho1,hb1⟩:=impl_inserted.end_fact base c gv cv l0 x ok okv w0 w hlim A HO HV hb hbase
 have HO1:=Aside0.mk ho1
 have HB1:=Aside0.mk hb1
 have HO0:=Aside0.mk HO
 have HV0:=Aside0.mk HV
 have HL:=Aside0.mk hlim
 have HB:=Aside0.mk hb
 have HS:=Aside0.mk hbase
 clear HO HV hlim hb hbase ho1 hb1
 go_enter Tryz.func150,Tryz.ntmps150
 go_wp2_with (at_builtin;refine impl_inserted.wapp _ rfl _ _ _ _ rfl _ _ rfl rfl hap ?_)
 all_goals
  go_ret
  exact ⟨_,rfl,HO1.out,HB1.out⟩
set_option maxHeartbeats 4000000 in
set_option maxRecDepth 100000 in
theorem impl_inserted.grow_facts (base g gv cv k:Nat) (l0:List Int) (x:Int) (ok okv:Nat→Prop) (w0 w:World) (hlim:l0.length < 4398046511104) (hk:k < l0.length) (hne:gv≠g)
  (HO:Kd.R (Kd.int .i64) 3 w base ok (.slice (some ⟨g,0,none⟩) l0.length l0.length) l0) (HV:Kd.R (Kd.int .i64) 3 w base okv (.slice (some ⟨gv,0,none⟩) 1 cv) [x]) (hb:Below base w0 w) (hbase:base≤w.heap.size) :
  ∃ (C:Nat) (W1 W2 W3:World),l0.length + 1≤C ∧
   (Builtin.append_ #[28,3] 28 #[.slice (some ⟨g,0,none⟩) k l0.length,.int .i64 ((l0.length:Int) + 1 - (k:Int))]).run Tryz.prog w=.ok (.slice (some ⟨w.heap.size,0,none⟩) (l0.length + 1) C) W1 ∧
   (∀ ty dc,(Builtin.copy_ #[28,28] ty #[.slice (some ⟨w.heap.size,k * 1,none⟩) (l0.length + 1 - k) dc,.slice (some ⟨gv,0,none⟩) 1 cv]).run Tryz.prog W1=.ok (goInt ((1:Nat):Int)) W2) ∧
   (∀ ty dc sc,(Builtin.copy_ #[28,28] ty #[.slice (some ⟨w.heap.size,(k + 1) * 1,none⟩) (l0.length - k) dc,.slice (some ⟨g,k * 1,none⟩) (l0.length - k) sc]).run Tryz.prog W2.drew=.ok (goInt ((l0.length - k:Nat):Int)) W3) ∧
   Kd.R (Kd.int .i64) 3 W3 base (fun _=>True) (.slice (some ⟨w.heap.size,0,none⟩) (l0.length + 1) C) (l0.take k ++ [x] ++ l0.drop k)∧Below base w0 W3:=by
 obtain ⟨_,inner,hown,hr⟩:=HO
 obtain ⟨_,innv,hownv,hrv⟩:=HV
 rcases hown.2 with ⟨hv,_⟩|⟨g',c',cur,hv,hbg,hh,_,hcm,hcs,htake⟩
 ·
  cases hv
 injection hv with ha _ hcc
 injection ha with ha
 injection ha with hgg
 subst hgg;subst hcc
 rcases hownv.2 with ⟨hv,_⟩|⟨g',c',curv,hv,hbgv,hhv,hv1,hcmv,hcsv,htakev⟩
 ·
  cases hv
 injection hv with ha _ hcc
 injection ha with ha
 injection ha with hgg
 subst hgg;subst hcc
 have hil:inner.length=l0.length * 1:=hr.1
 have hivl:innv.length=1:=by rw [hrv.1];rfl
 have hx0:=hrv.2 0 x rfl
 have hx1:(innv.drop (0 * ((Kd.int .i64)).sz)).take ((Kd.int .i64)).sz=innv:=by rw [Nat.zero_mul,List.drop_zero];exact List.take_of_length_le (Nat.le_of_eq hivl)
 rw [hx1] at hx0
 have hsz:(Tryz.prog.info? 3).map (·.size)=some 1:=by
  have h:=info3
  cases hq:Tryz.prog.info? 3 with
  | none=>rw [hq] at h;simp at h
  | some i=>rw [hq] at h;simp at h;simp [h]
 have h1i:∀ u∈inner,u.oneCell'=true:=impl_inserted.one hr (by decide) (fun _ _ hp=>((Kd.int .i64)).K_one (((Kd.int .i64)).K_of_M hp))
 have h1v:∀ u∈innv,u.oneCell'=true:=((Kd.int .i64)).K_one (((Kd.int .i64)).K_of_M hx0)
 have hsc:cur.size=l0.length * 1:=hcs
 have hscv:curv.size=cv * 1:=hcsv
 have hcur:∀ q,q < l0.length * 1→cur.toList[q]?=inner[q]?:=by
  intro q hq
  rw [← (show cur.toList.take (l0.length * 1)=inner from htake),List.getElem?_take,if_pos hq]
 have hcv:∀ (W:World),W.heap[gv]?=some (.cells curv 3 (0,0))→∀ j v,innv[j]?=some v→W.cell? ((⟨gv,0,none⟩:Addr).add j)=some v:=by
  intro W hW j v hj
  have hlt:j < innv.length:=(List.getElem?_eq_some_iff.1 hj).1
  rw [add_plain,cell_of_row W gv _ curv 3 (0,0) hW,← Array.getElem?_toList]
  rw [← (show curv.toList.take ([x].length * 1)=innv from htakev),List.getElem?_take] at hj
  rw [if_pos (by simp;omega)] at hj
  exact hj
 have hdl:(inner.drop (k * 1)).length=(l0.length - k) * 1:=by rw [List.length_drop,hil];omega
 have htl:(inner.take (k * 1)).length=k * 1:=by rw [List.length_take,hil];omega
 have hgl:g < w.heap.size:=blk_lt hh
 have hgvl:gv < w.heap.size:=blk_lt hhv
 obtain ⟨i0,hi0,hz0,hz1,hz2⟩:∃ i,Tryz.prog.info? 3=some i∧i.zero=some (.int .i64 0)∧i.size=1∧i.bytes=8:=by
  have h:=info3
  cases hq:Tryz.prog.info? 3 with
  | none=>rw [hq] at h;simp at h
  | some i=>rw [hq] at h;simp at h;exact ⟨i,rfl,h.1,h.2.1,h.2.2⟩
 obtain ⟨C,cells,hap,hC,hCm,hCs,hCt⟩:=impl_inserted.az (P:=Tryz.prog) w 28 3 28 3 i0 (.int .i64 0) 1 8 Tryz.underlying28 Tryz.underlying3 hi0 hz0 hz1 hz2 rfl (by decide) (by decide) ⟨g,0,none⟩ k l0.length (inner.take (k * 1)) htl
  (fun j u hu=>by
   have hlt:j < (inner.take (k * 1)).length:=(List.getElem?_eq_some_iff.1 hu).1
   rw [add_plain,cell_of_row w g _ cur 3 (0,0) hh,← Array.getElem?_toList,hcur _ (by omega)]
   rw [List.getElem?_take,if_pos (by omega)] at hu
   exact hu) .i64 (l0.length + 1 - k) (by omega) (by omega) (by omega)
 have hkn:k + (l0.length + 1 - k)=l0.length + 1:=by omega
 have hcast:((l0.length + 1 - k:Nat):Int)=(l0.length:Int) + 1 - (k:Int):=by omega
 rw [hkn,hcast] at hap
 rw [hkn] at hC
 obtain ⟨W1,hW1⟩:∃ W1,W1=w.drew.alloc (.cells cells 3):=⟨_,rfl⟩
 have hG:W1.heap[w.heap.size]?=some (.cells cells 3 (0,0)):=by rw [hW1];exact heap_alloc_new w.drew _
 have hold:∀ q,q < w.heap.size→W1.heap[q]?=w.heap[q]?:=fun q hq=>by rw [hW1];exact heap_alloc_old w.drew _ hq
 have hgr1:w.grownBy W1 none:=by rw [hW1];exact ⟨rfl,rfl,rfl,by simp,fun q hq _=>heap_alloc_old w.drew _ hq⟩
 rw [← hW1] at hap
 have hcp2:∀ ty dc,(Builtin.copy_ #[28,28] ty #[.slice (some ⟨w.heap.size,k * 1,none⟩) (l0.length + 1 - k) dc,.slice (some ⟨gv,0,none⟩) 1 cv]).run Tryz.prog W1=.ok (goInt ((1:Nat):Int)) (W1.setCells w.heap.size (k * 1) innv):=fun ty dc =>
  impl_inserted.cp W1 28 ty 3 1 w.heap.size (k * 1) (l0.length + 1 - k) dc ⟨gv,0,none⟩ 1 cv 1 innv Tryz.underlying28 hsz (by simp only [Nat.min_def];split <;> omega) (by rw [hivl])
   (hcv W1 ((hold gv hgvl).trans hhv))
   (fun j hj=>by rw [cell_of_row W1 w.heap.size _ cells 3 (0,0) hG];simp;omega) (fun j _=>blk_frozen (w:=W1) hG _) h1v
 obtain ⟨W2,hW2⟩:∃ W2,W2=W1.setCells w.heap.size (k * 1) innv:=⟨_,rfl⟩
 obtain ⟨c1,hd1,hd2,hd3⟩:=setCells_row innv (k * 1) W1 cells hG (by omega)
 rw [← hW2] at hcp2 hd1
 have hg2:W2.drew.heap[g]?=some (.cells cur 3 (0,0)):=by
  show W2.heap[g]?=_
  rw [hW2,setCells_far _ _ g (by omega),hold g hgl,hh]
 have hcp1:∀ ty dc sc,(Builtin.copy_ #[28,28] ty #[.slice (some ⟨w.heap.size,(k + 1) * 1,none⟩) (l0.length - k) dc,.slice (some ⟨g,k * 1,none⟩) (l0.length - k) sc]).run Tryz.prog W2.drew=.ok (goInt ((l0.length - k:Nat):Int)) (W2.drew.setCells w.heap.size ((k + 1) * 1) (inner.drop (k * 1))):=fun ty dc sc =>
  impl_inserted.cp W2.drew 28 ty 3 1 w.heap.size ((k + 1) * 1) (l0.length - k) dc ⟨g,k * 1,none⟩ (l0.length - k) sc (l0.length - k) (inner.drop (k * 1)) Tryz.underlying28 hsz (by simp only [Nat.min_def];split <;> omega) hdl
   (fun j v hj=>by
    have hlt:j < (inner.drop (k * 1)).length:=(List.getElem?_eq_some_iff.1 hj).1
    rw [add_at,cell_of_row W2.drew g _ cur 3 (0,0) hg2,← Array.getElem?_toList,hcur _ (by omega)]
    rwa [List.getElem?_drop] at hj)
   (fun j hj=>by rw [cell_of_row W2.drew w.heap.size _ c1 3 (0,0) hd1];simp;omega) (fun j _=>blk_frozen (w:=W2.drew) hd1 _) (fun v hv=>h1i v (List.mem_of_mem_drop hv))
 have hin2:k * 1 + innv.length=(k + 1) * 1:=by omega
 obtain ⟨c2,he1,he2,he3⟩:=impl_inserted.two (e:=3) (g:=w.heap.size) W1 W2.drew cells innv (inner.drop (k * 1)) (k * 1) hG (by rw [hW2];rfl) (by omega)
 rw [hin2] at he1
 obtain ⟨W3,hW3⟩:∃ W3,W3=W2.drew.setCells w.heap.size ((k + 1) * 1) (inner.drop (k * 1)):=⟨_,rfl⟩
 rw [← hW3] at hcp1 he1
 have hB3:Below base w0 W3:=by
  refine Below.grown hb ?_ hbase (row:=none) (fun q hq=>by cases hq)
  obtain ⟨s1,s2,s3,s4⟩:=setCells_same w.heap.size (inner.drop (k * 1)) ((k + 1) * 1) W2.drew
  obtain ⟨t1,t2,t3,t4⟩:=setCells_same w.heap.size innv (k * 1) W1
  rw [hW3]
  refine ⟨s1.trans ?_,s2.trans ?_,s3.trans ?_,?_,fun q hql _=>?_⟩
  ·
   show W2.os=_;rw [hW2];exact t1.trans hgr1.os
  ·
   show W2.tape=_;rw [hW2];exact t2.trans hgr1.tape
  ·
   show W2.output=_;rw [hW2];exact t3.trans hgr1.output
  ·
   rw [s4];show _≤W2.heap.size;rw [hW2,t4];exact hgr1.size
  ·
   rw [setCells_far _ _ q (by omega)];show W2.heap[q]?=_;rw [hW2,setCells_far _ _ q (by omega)];exact hold q hql
 have hR3:Kd.R (Kd.int .i64) 3 W3 base (fun _=>True) (.slice (some ⟨w.heap.size,0,none⟩) (l0.length + 1) C) (l0.take k ++ [x] ++ l0.drop k) :=
  impl_inserted.mk (Kd.int .i64) 3 W3 base w.heap.size C k c2 l0 x inner innv (hr.imp_ (fun _ _ hp=>impl_inserted.flat hp)) (impl_inserted.flat hx0) (by omega) hbase he1 hC hCm (by rw [he2];exact hCs) (by
   have h6:k * 1 + innv.length + (inner.drop (k * 1)).length=(l0.length + 1) * 1:=by omega
   rw [h6,hCt] at he3
   exact he3)
 exact ⟨C,W1,W2,W3,hC,hap,hcp2,hcp1,hR3,hB3⟩
set_option maxHeartbeats 4000000 in
set_option maxRecDepth 100000 in
theorem impl_inserted.at_grow (base g gv cv k:Nat) (l0:List Int) (x:Int) (ok okv:Nat→Prop) (w0 w:World) (hlim:l0.length < 4398046511104) (hk:k < l0.length) (hne:gv≠g)
  (HO:Kd.R (Kd.int .i64) 3 w base ok (.slice (some ⟨g,0,none⟩) l0.length l0.length) l0) (HV:Kd.R (Kd.int .i64) 3 w base okv (.slice (some ⟨gv,0,none⟩) 1 cv) [x]) (hb:Below base w0 w) (hbase:base≤w.heap.size) :
  Calls Tryz.prog 150 #[.slice (some ⟨g,0,none⟩) l0.length l0.length,.int .i64 (k:Int),.slice (some ⟨gv,0,none⟩) 1 cv] w fun e w'=>∃ v0_:Value,e=.returned v0_∧Kd.R (Kd.int .i64) 3 w' base (fun _=>True) v0_ (l0.take k ++ [x] ++ l0.drop k)∧Below base w0 w':=by
 obtain ⟨C,W1,W2,W3,hC,hap,hcp2,hcp1,hR3,hB3⟩:=impl_inserted.grow_facts base g gv cv k l0 x ok okv w0 w hlim hk hne HO HV hb hbase
 have HR3:=Aside0.mk hR3
 have HB3:=Aside0.mk hB3
 simp only [Nat.mul_one] at hcp1 hcp2
 have hlen:l0.length≤9223372036854775807:=by omega
 have n1:(l0.length=k)=False:=eq_false (by omega)
 have n1b:(C=k)=False:=eq_false (by omega)
 have n1c:(C=k + 1)=False:=eq_false (by omega)
 have n2:(k=l0.length)=False:=eq_false (by omega)
 have n3:((k:Int) == (l0.length:Int))=false:=by simp;omega
 have n4:IntKind.i64.wrap ((l0.length:Int) + 1)=(l0.length:Int) + 1:=by rw [IntKind.wrap_i64];omega
 have n5:IntKind.i64.wrap ((l0.length:Int) + 1 - (k:Int))=(l0.length:Int) + 1 - (k:Int):=by rw [IntKind.wrap_i64];omega
 have n6:IntKind.i64.wrap ((k:Int) + 1)=(k:Int) + 1:=by rw [IntKind.wrap_i64];omega
 have n7:k≤l0.length:=by omega
 have n8:decide ((l0.length:Int) < (l0.length:Int) + 1)=true:=decide_eq_true (by omega)
 have n9:(0:Int)≤(l0.length:Int) + 1:=by omega
 have n12:((k:Int) + 1).toNat=k + 1:=by omega
 have n13:(0:Int)≤(k:Int) + 1:=by omega
 have n14:(k:Int)≤(l0.length:Int) + 1:=by omega
 have n15:k≤l0.length + 1:=by omega
 have mixed:Tryz.prog.follows Departure.mixedOrders=true:=by kernel_rfl
 clear hR3 hB3 HO HV hb hbase hne hk hlim hC
 go_enter Tryz.func150,Tryz.ntmps150
 go_wp2_with (first
  | (at_builtin;refine impl_inserted.wapp _ rfl _ _ _ _ rfl _ _ rfl rfl hap ?_)
  | (at_builtin;refine impl_inserted.wcopy _ rfl _ _ 28 28 rfl _ _ rfl rfl (hcp2 _ _) ?_))
 go_region_law_o (refine impl_inserted.scopy rfl _ _ 28 28 rfl _ _ (by simp [Act.eval,Act.put]) (by simp [Act.eval,Act.put]) (hcp1 _ _ _) ?_)
 go_wp2
 go_ret
 exact ⟨_,rfl,HR3.out,HB3.out⟩
set_option maxHeartbeats 4000000 in
set_option maxRecDepth 100000 in
theorem impl_inserted.room_facts (base g c gv cv k:Nat) (l0:List Int) (x:Int) (ok okv:Nat→Prop) (w0 w:World) (hlim:l0.length < 8796093022208) (hk:k < l0.length) (hc:l0.length < c) (hne:gv≠g)
  (HO:Kd.R (Kd.int .i64) 3 w base ok (.slice (some ⟨g,0,none⟩) l0.length c) l0) (HV:Kd.R (Kd.int .i64) 3 w base okv (.slice (some ⟨gv,0,none⟩) 1 cv) [x]) (hb:Below base w0 w) (hbase:base≤w.heap.size) :
  ∃ W1 W2:World,(∀ ty dc sc,(Builtin.copy_ #[28,28] ty #[.slice (some ⟨g,(k + 1) * 1,none⟩) (l0.length - k) dc,.slice (some ⟨g,k * 1,none⟩) (l0.length + 1 - k) sc]).run Tryz.prog w.drew=.ok (goInt ((l0.length - k:Nat):Int)) W1) ∧
   (∀ ty dc,(Builtin.copy_ #[28,28] ty #[.slice (some ⟨g,k * 1,none⟩) (l0.length + 1 - k) dc,.slice (some ⟨gv,0,none⟩) 1 cv]).run Tryz.prog W1=.ok (goInt ((1:Nat):Int)) W2) ∧
   Kd.R (Kd.int .i64) 3 W2 base (fun _=>True) (.slice (some ⟨g,0,none⟩) (l0.length + 1) c) (l0.take k ++ [x] ++ l0.drop k)∧Below base w0 W2 ∧
   (∀ lb cb,(callFunc 155 #[.slice (some ⟨gv,0,none⟩) 1 cv,.slice (some ⟨g,(k + 1) * 1,none⟩) lb cb]).run Tryz.prog w=.ok (.value (.bool false)) w):=by
 obtain ⟨_,inner,hown,hr⟩:=HO
 obtain ⟨_,innv,hownv,hrv⟩:=HV
 rcases hown.2 with ⟨hv,_⟩|⟨g',c',cur,hv,hbg,hh,_,hcm,hcs,htake⟩
 ·
  cases hv
 injection hv with ha _ hcc
 injection ha with ha
 injection ha with hgg
 subst hgg;subst hcc
 rcases hownv.2 with ⟨hv,_⟩|⟨g',c',curv,hv,hbgv,hhv,hv1,hcmv,hcsv,htakev⟩
 ·
  cases hv
 injection hv with ha _ hcc
 injection ha with ha
 injection ha with hgg
 subst hgg;subst hcc
 have hil:inner.length=l0.length * 1:=hr.1
 have hivl:innv.length=1:=by rw [hrv.1];rfl
 have hx0:=hrv.2 0 x rfl
 have hx1:(innv.drop (0 * ((Kd.int .i64)).sz)).take ((Kd.int .i64)).sz=innv:=by rw [Nat.zero_mul,List.drop_zero];exact List.take_of_length_le (Nat.le_of_eq hivl)
 rw [hx1] at hx0
 have hsz:(Tryz.prog.info? 3).map (·.size)=some 1:=by
  have h:=info3
  cases hq:Tryz.prog.info? 3 with
  | none=>rw [hq] at h;simp at h
  | some i=>rw [hq] at h;simp at h;simp [h]
 have h1i:∀ u∈inner,u.oneCell'=true:=impl_inserted.one hr (by decide) (fun _ _ hp=>((Kd.int .i64)).K_one (((Kd.int .i64)).K_of_M hp))
 have h1v:∀ u∈innv,u.oneCell'=true:=((Kd.int .i64)).K_one (((Kd.int .i64)).K_of_M hx0)
 have hsc:cur.size=c * 1:=hcs
 have hscv:curv.size=cv * 1:=hcsv
 have hcur:∀ q,q < l0.length * 1→cur.toList[q]?=inner[q]?:=by
  intro q hq
  rw [← (show cur.toList.take (l0.length * 1)=inner from htake),List.getElem?_take,if_pos hq]
 have hcv:∀ (W:World),W.heap[gv]?=some (.cells curv 3 (0,0))→∀ j v,innv[j]?=some v→W.cell? ((⟨gv,0,none⟩:Addr).add j)=some v:=by
  intro W hW j v hj
  have hlt:j < innv.length:=(List.getElem?_eq_some_iff.1 hj).1
  rw [add_plain,cell_of_row W gv _ curv 3 (0,0) hW,← Array.getElem?_toList]
  rw [← (show curv.toList.take ([x].length * 1)=innv from htakev),List.getElem?_take] at hj
  rw [if_pos (by simp;omega)] at hj
  exact hj
 have hdl:(inner.drop (k * 1)).length=(l0.length - k) * 1:=by rw [List.length_drop,hil];omega
 have hcp1:∀ ty dc sc,(Builtin.copy_ #[28,28] ty #[.slice (some ⟨g,(k + 1) * 1,none⟩) (l0.length - k) dc,.slice (some ⟨g,k * 1,none⟩) (l0.length + 1 - k) sc]).run Tryz.prog w.drew=.ok (goInt ((l0.length - k:Nat):Int)) (w.drew.setCells g ((k + 1) * 1) (inner.drop (k * 1))):=fun ty dc sc =>
  impl_inserted.cp w.drew 28 ty 3 1 g ((k + 1) * 1) (l0.length - k) dc ⟨g,k * 1,none⟩ (l0.length + 1 - k) sc (l0.length - k) (inner.drop (k * 1)) Tryz.underlying28 hsz (by simp only [Nat.min_def];split <;> omega) hdl
   (fun j v hj=>by
    have hlt:j < (inner.drop (k * 1)).length:=(List.getElem?_eq_some_iff.1 hj).1
    rw [add_at,cell_of_row w.drew g _ cur 3 (0,0) hh,← Array.getElem?_toList,hcur _ (by omega)]
    rwa [List.getElem?_drop] at hj)
   (fun j hj=>by rw [cell_of_row w.drew g _ cur 3 (0,0) hh];simp;omega) (fun j _=>blk_frozen (w:=w.drew) hh _) (fun v hv=>h1i v (List.mem_of_mem_drop hv))
 obtain ⟨c1,hd1,hd2,hd3⟩:=setCells_row (inner.drop (k * 1)) ((k + 1) * 1) w.drew cur hh (by omega)
 have hfv:(w.drew.setCells g ((k + 1) * 1) (inner.drop (k * 1))).heap[gv]?=some (.cells curv 3 (0,0)):=(setCells_far _ _ gv hne).trans hhv
 obtain ⟨W1,hW1⟩:∃ W1,W1=w.drew.setCells g ((k + 1) * 1) (inner.drop (k * 1)):=⟨_,rfl⟩
 rw [← hW1] at hcp1 hd1 hfv
 have hcp2:∀ ty dc,(Builtin.copy_ #[28,28] ty #[.slice (some ⟨g,k * 1,none⟩) (l0.length + 1 - k) dc,.slice (some ⟨gv,0,none⟩) 1 cv]).run Tryz.prog W1=.ok (goInt ((1:Nat):Int)) (W1.setCells g (k * 1) innv):=fun ty dc =>
  impl_inserted.cp W1 28 ty 3 1 g (k * 1) (l0.length + 1 - k) dc ⟨gv,0,none⟩ 1 cv 1 innv Tryz.underlying28 hsz (by simp only [Nat.min_def];split <;> omega) (by rw [hivl])
   (hcv W1 hfv)
   (fun j hj=>by rw [cell_of_row W1 g _ c1 3 (0,0) hd1];simp;omega) (fun j _=>blk_frozen (w:=W1) hd1 _) h1v
 have hin2:k * 1 + innv.length=(k + 1) * 1:=by omega
 obtain ⟨c2,he1,he2,he3⟩:=impl_inserted.two' (e:=3) (g:=g) w.drew cur innv (inner.drop (k * 1)) (k * 1) hh (by omega)
 rw [hin2,← hW1] at he1
 obtain ⟨W2,hW2⟩:∃ W2,W2=W1.setCells g (k * 1) innv:=⟨_,rfl⟩
 rw [← hW2] at hcp2 he1
 have hB2:Below base w0 W2:=by
  refine Below.grown hb ?_ hbase (row:=some g) (fun q hq=>by injection hq with hq;omega)
  obtain ⟨s1,s2,s3,s4⟩:=setCells_same g innv (k * 1) W1
  obtain ⟨t1,t2,t3,t4⟩:=setCells_same g (inner.drop (k * 1)) ((k + 1) * 1) w.drew
  rw [hW2]
  refine ⟨s1.trans (by rw [hW1];exact t1),s2.trans (by rw [hW1];exact t2),s3.trans (by rw [hW1];exact t3),by rw [s4,hW1,t4];exact Nat.le_refl _,fun q _ hq=>?_⟩
  rw [setCells_far _ _ q (fun he=>hq (by rw [he])),hW1,setCells_far _ _ q (fun he=>hq (by rw [he]))]
  rfl
 have hR2:Kd.R (Kd.int .i64) 3 W2 base (fun _=>True) (.slice (some ⟨g,0,none⟩) (l0.length + 1) c) (l0.take k ++ [x] ++ l0.drop k) :=
  impl_inserted.mk (Kd.int .i64) 3 W2 base g c k c2 l0 x inner innv (hr.imp_ (fun _ _ hp=>impl_inserted.flat hp)) (impl_inserted.flat hx0) (by omega) hbg he1 (by omega) hcm (by rw [he2,hcs]) (by
   have h5:cur.toList.take (k * 1)=inner.take (k * 1):=by
    rw [← (show cur.toList.take (l0.length * 1)=inner from htake),List.take_take,Nat.min_eq_left (by omega)]
   have h6:k * 1 + innv.length + (inner.drop (k * 1)).length=(l0.length + 1) * 1:=by omega
   rw [h6,h5] at he3
   exact he3)
 have hov:∀ lb cb,(callFunc 155 #[.slice (some ⟨gv,0,none⟩) 1 cv,.slice (some ⟨g,(k + 1) * 1,none⟩) lb cb]).run Tryz.prog w=.ok (.value (.bool false)) w:=fun lb cb=>by
  rw [run_callFunc_extern Tryz.func155 (by kernel_rfl) (by kernel_rfl) (by kernel_rfl) (e:=Extern.SlicesOverlaps.overlaps #[28,28] #[4]) (by kernel_rfl),
   Lib.run_overlaps_apart w 28 4 3 Tryz.underlying28 1 Tryz.sizeOf3 ⟨gv,0,none⟩ ⟨g,(k + 1) * 1,none⟩ 1 cv lb cb hne 3 3 curv.size cur.size (by simp [World.shape?,hhv]) (by simp [World.shape?,hh]) (by omega) (blk_frozen hhv _) (blk_frozen hhv _)]
  rfl
 exact ⟨W1,W2,hcp1,hcp2,hR2,hB2,hov⟩
set_option maxHeartbeats 4000000 in
set_option maxRecDepth 100000 in
theorem impl_inserted.at_room (base g c gv cv k:Nat) (l0:List Int) (x:Int) (ok okv:Nat→Prop) (w0 w:World) (hlim:l0.length < 8796093022208) (hk:k < l0.length) (hc:l0.length < c) (hne:gv≠g)
  (HO:Kd.R (Kd.int .i64) 3 w base ok (.slice (some ⟨g,0,none⟩) l0.length c) l0) (HV:Kd.R (Kd.int .i64) 3 w base okv (.slice (some ⟨gv,0,none⟩) 1 cv) [x]) (hb:Below base w0 w) (hbase:base≤w.heap.size) :
  Calls Tryz.prog 150 #[.slice (some ⟨g,0,none⟩) l0.length c,.int .i64 (k:Int),.slice (some ⟨gv,0,none⟩) 1 cv] w fun e w'=>∃ v0_:Value,e=.returned v0_∧Kd.R (Kd.int .i64) 3 w' base (fun _=>True) v0_ (l0.take k ++ [x] ++ l0.drop k)∧Below base w0 w':=by
 obtain ⟨W1,W2,hcp1,hcp2,hR2,hB2,hov⟩:=impl_inserted.room_facts base g c gv cv k l0 x ok okv w0 w hlim hk hc hne HO HV hb hbase
 have HR2:=Aside0.mk hR2
 have HB2:=Aside0.mk hB2
 have HK:=Aside0.mk hk
 simp only [Nat.mul_one] at hcp1 hcp2 hov
 have hlen:l0.length≤9223372036854775807:=by omega
 have n1:(c=k)=False:=eq_false (by omega)
 have n1b:(c=k + 1)=False:=eq_false (by omega)
 have n2:(k=l0.length)=False:=eq_false (by omega)
 have n3:((k:Int) == (l0.length:Int))=false:=by simp;omega
 have n4:IntKind.i64.wrap ((l0.length:Int) + 1)=(l0.length:Int) + 1:=by rw [IntKind.wrap_i64];omega
 have n6:IntKind.i64.wrap ((k:Int) + 1)=(k:Int) + 1:=by rw [IntKind.wrap_i64];omega
 have n7:k≤l0.length:=by omega
 have n8:decide ((c:Int) < (l0.length:Int) + 1)=false:=decide_eq_false (by omega)
 have n9:(0:Int)≤(l0.length:Int) + 1:=by omega
 have n10:(l0.length:Int) + 1≤(c:Int):=by omega
 have n11:((l0.length:Int) + 1).toNat=l0.length + 1:=by omega
 have n12:((k:Int) + 1).toNat=k + 1:=by omega
 have n13:(0:Int)≤(k:Int) + 1:=by omega
 have n14:(k:Int)≤(l0.length:Int) + 1:=by omega
 have n15:k≤l0.length + 1:=by omega
 have n16:l0.length + 1≤c:=by omega
 have mixed:Tryz.prog.follows Departure.mixedOrders=true:=by kernel_rfl
 clear hR2 hB2 HO HV hb hbase hne hk hc hlim
 go_enter Tryz.func150,Tryz.ntmps150
 go_wp2_with (simp only [hov])
 go_region_law_o (refine impl_inserted.scopy rfl _ _ 28 28 rfl _ _ (by simp [Act.eval,Act.put]) (by simp [Act.eval,Act.put]) (hcp1 _ _ _) ?_)
 go_wp2_with (at_builtin;refine impl_inserted.wcopy _ rfl _ _ 28 28 rfl _ _ rfl rfl (hcp2 _ _) ?_)
 go_ret
 exact ⟨_,rfl,HR2.out,HB2.out⟩
set_option maxHeartbeats 4000000 in
theorem impl_inserted.ins (base c gv cv k:Nat) (l0:List Int) (x:Int) (ok okv:Nat→Prop) (w0 w:World) (hlim:l0.length < 4398046511104) (A:Option Addr) (hk:k≤l0.length) (hne:∀ q,(Value.slice A l0.length c).ownBlock=some q→gv≠q)
  (HO:Kd.R (Kd.int .i64) 3 w base ok (.slice A l0.length c) l0) (HV:Kd.R (Kd.int .i64) 3 w base okv (.slice (some ⟨gv,0,none⟩) 1 cv) [x]) (hb:Below base w0 w) (hbase:base≤w.heap.size) :
  Calls Tryz.prog 150 #[.slice A l0.length c,.int .i64 (k:Int),.slice (some ⟨gv,0,none⟩) 1 cv] w fun e w'=>∃ v0_:Value,e=.returned v0_∧Kd.R (Kd.int .i64) 3 w' base (fun _=>True) v0_ (l0.take k ++ [x] ++ l0.drop k)∧Below base w0 w':=by
 by_cases hkl:k=l0.length
 ·
  subst hkl
  rw [List.take_length,List.drop_length,List.append_nil]
  exact impl_inserted.at_end base c gv cv l0 x ok okv w0 w (by omega) A HO HV hb hbase
 ·
  obtain ⟨g,cap,he,_,_,_⟩:=Kd.R_form HO (by omega)
  injection he with ha _ hcc
  subst ha;subst hcc
  have hg:=hne g (by simp [Value.ownBlock])
  have hc:=(Kd.R_reads' HO).2.1
  by_cases hcl:c=l0.length
  ·
   subst hcl
   exact impl_inserted.at_grow base g gv cv k l0 x ok okv w0 w hlim (by omega) hg HO HV hb hbase
  ·
   exact impl_inserted.at_room base g c gv cv k l0 x ok okv w0 w (by omega) (by omega) (by omega) hg HO HV hb hbase
def impl_inserted.f (k:Nat) (l0:List Int) (a1:Int):Option (List Int) :=
 if l0.length < 4398046511104 then ((slices_BinarySearch_int_int.f k l0 a1).bind fun r=>if 0≤r.1∧r.1.toNat≤l0.length then some (l0.take r.1.toNat ++ [a1] ++ l0.drop r.1.toNat) else none) else none
theorem impl_inserted.mono:∀ a0 a1 k,LeO (impl_inserted.f k a0 a1) (impl_inserted.f (k + 1) a0 a1):=by
 intro a0 a1 k
 unfold impl_inserted.f
 exact LeO.ite (LeO.bind (slices_BinarySearch_int_int.mono _ _ _) (fun _=>LeO.refl _)) (LeO.none _)
set_option maxHeartbeats 4000000 in
set_option maxRecDepth 100000 in
theorem impl_inserted.calls (k:Nat) (A0:Option Addr) (c0:Nat) (l0:List Int) (a1:Int) (r:List Int) (w:World) (hr0:Kd.C (Kd.int .i64) w A0 l0.length l0) (hc0:l0.length≤c0) (h:impl_inserted.f k l0 a1=some r) :
  Calls Tryz.prog 144 #[.slice A0 l0.length c0,.int .i64 a1] w fun e w'=>∃ v0_:Value,e=.returned (v0_)∧Kd.R (Kd.int .i64) 3 w' w.heap.size (fun _=>True) v0_ r∧Below w.heap.size w w':=by
 have HR0:=Aside0.mk hr0
 have HC0:=Aside0.mk hc0
 have hlen:l0.length≤9223372036854775807:=hr0.2.1
 have mixed:Tryz.prog.follows Departure.mixedOrders=true:=by kernel_rfl
 clear hr0 hc0
 unfold impl_inserted.f at h
 have hlim:=ifN h
 replace h:=ifT h
 obtain ⟨⟨p,b⟩,hbs,h⟩:=Option.bind_eq_some_iff.1 h
 have hp:0≤p∧p.toNat≤l0.length:=ifN h
 replace h:=ifT h
 obtain ⟨kk,rfl⟩:=Int.eq_ofNat_of_zero_le hp.1
 replace hp:kk≤l0.length:=hp.2
 replace h:=Option.some.inj h
 rw [show (((kk:Nat):Int),b).1.toNat=kk from rfl] at h
 have HE:=Aside0.mk h
 have HL:=Aside0.mk hlim
 have HK:=Aside0.mk hp
 have HBS:=Aside0.mk hbs
 have hcl:slices_Clone_int_int.f l0=some l0:=by
  unfold slices_Clone_int_int.f
  exact if_pos (by omega)
 have HCL:=Aside0.mk hcl
 clear h hlim hp hbs hcl
 go_enter Tryz.func144,Tryz.ntmps144
 go_wp2_with (first
  | (go_at_call 149;refine (slices_BinarySearch_int_int.calls k A0 c0 l0 a1 kk b _ HR0.out HC0.out HBS.out).mono ?_;rintro e w1 ⟨rfl,hb1⟩;have B1:=Aside0.mk (show Below w.heap.size w w1 from hb1.below);clear hb1)
  | (go_at_call 84;refine (slices_Clone_int_int.calls A0 c0 l0 l0 _ ?s1 HC0.out HCL.out).mono ?_;(case s1=>exact Kd.C_below HR0.out B1.out);rintro e w2 ⟨v2,rfl,ho2,hb2⟩;obtain ⟨Ao,co,eo⟩:=Kd.R_slice ho2;subst eo;have B2:=Aside0.mk (below_step B1.out hb2);have O2:=Aside0.mk (Kd.R_lower ho2 B1.out.size);have V2:=Aside0.mk (show Kd.R (Kd.int .i64) 3 (w2.alloc (.cells #[.int .i64 a1] 3)) w.heap.size (fun _=>True) (.slice (some ⟨w2.heap.size,0,none⟩) 1 1) [a1] from ⟨fun _ _=>trivial,[.int .i64 a1],World.ownsRow_lit w2 _ 1 B2.out.size (by decide) rfl,Reps.front rfl rfl (Reps.none _ _) rfl⟩);clear ho2 hb2)
  | (go_at_call 150;refine (impl_inserted.ins w.heap.size co w2.heap.size 1 kk l0 a1 (fun _=>True) (fun _=>True) w _ HL.out Ao HK.out ?t2 ?t3 ?t4 ?t5 ?t6).mono ?_;(case t2=>(intro q hq he;have h1:=Kd.R_lt O2.out q hq;omega));(case t3=>exact Kd.R_alloc O2.out _);(case t4=>exact V2.out);(case t5=>exact below_alloc B2.out _);(case t6=>exact (below_alloc B2.out _).size);rintro e w5 ⟨v5,rfl,ho5,hb5⟩;rw [HE.out] at ho5;have O5:=Aside0.mk ho5;have B5:=Aside0.mk hb5;clear ho5 hb5))
 go_ret
 exact ⟨_,rfl,O5.out,B5.out⟩

/-! ### impl_AddToStage: function 123 -/
def impl_AddToStage.l0:Nat→List (S69)→List Int→List (S69)→Int→Int→Option (List Int)
 | 0,_,_,_,_,_=>none
 | k + 1,x0,x5,x16,x17,x18=>if x18 < x17 then (if 0≤x18 then (if x18 < (x16.length:Int) then ((slices_Contains_int_int.f k x5 ((rd_T69 x16 x18).f0)).bind fun t579=>(if t579=true then (impl_AddToStage.l0 k x0 x5 x16 x17 (wrap64 (x18 + 1))) else ((impl_inserted.f k x5 ((rd_T69 x16 x18).f0)).bind fun t580=>((impl_IsTogether.f k x0 t580).bind fun t583=>(if t583=true then (impl_AddToStage.l0 k x0 t580 x16 x17 (wrap64 (x18 + 1))) else (impl_AddToStage.l0 k x0 x5 x16 x17 (wrap64 (x18 + 1)))))))) else (none)) else (none)) else (some x5)
def impl_AddToStage.f (k:Nat) (l0:List (S69)) (l1:List Int):Option (List Int):=(slices_Clone_int_int.f l1).bind fun t573=>((impl_IsTogether.f k l0 l1).bind fun t576=>(if t576=true then (impl_AddToStage.l0 k l0 t573 l0 (l0.length:Int) 0) else (some t573)))
theorem impl_AddToStage.mono_l:∀ k,(∀ y0 y1 y2 y3 y4,LeO (impl_AddToStage.l0 k y0 y1 y2 y3 y4) (impl_AddToStage.l0 (k + 1) y0 y1 y2 y3 y4))
 | 0=>fun _ _ _ _ _ r h=>by simp [impl_AddToStage.l0] at h
 | k + 1=>by
  have ih0:=impl_AddToStage.mono_l k
  ·intro y0 y1 y2 y3 y4;unfold impl_AddToStage.l0;exact mz4 ih0 impl_IsTogether.mono impl_inserted.mono slices_Contains_int_int.mono
theorem impl_AddToStage.mono:∀ a0 a1 k,LeO (impl_AddToStage.f k a0 a1) (impl_AddToStage.f (k + 1) a0 a1):=by
 intro a0 a1 k;have ih0:=impl_AddToStage.mono_l k;unfold impl_AddToStage.f;exact mz4 ih0 impl_IsTogether.mono impl_inserted.mono slices_Contains_int_int.mono
set_option maxHeartbeats 8000000 in
set_option maxRecDepth 100000 in
theorem impl_AddToStage.calls (k:Nat) (A0:Option Addr) (c0:Nat) (l0:List (S69)) (A1:Option Addr) (c1:Nat) (l1:List Int) (r:List Int) (w:World) (hr0:Kd.C k69 w A0 l0.length l0) (hc0:l0.length≤c0) (hr1:Kd.C (Kd.int .i64) w A1 l1.length l1) (hc1:l1.length≤c1) (h:impl_AddToStage.f k l0 l1=some r) :
  Calls Tryz.prog 123 #[.slice A0 l0.length c0,.slice A1 l1.length c1] w fun e w'=>∃ v0_:Value,e=.returned (v0_)∧Kd.R (Kd.int .i64) 3 w' w.heap.size (fun _=>True) v0_ r∧Below w.heap.size w w':=by
 have hu69:=Tryz.underlying69;have HR0:=am hr0;have HC0:=am hc0;clear hr0 hc0;have HR1:=am hr1;have HC1:=am hc1;clear hr1 hc1;have HB:=am (Below.refl w.heap.size w);unfold impl_AddToStage.f at h;have H:=h;clear h;obtain ⟨t573,A3,H⟩:=bindE H;try dsimp only at H
 obtain ⟨t576,A4,H⟩:=bindE H;try dsimp only at H
 by_cases c5:t576=true
 ·subst c5;rw [if_pos rfl] at H;have H':=am H;clear H;go_enter Tryz.func123,Tryz.ntmps123;go_wp2_with (first|((with_reducible refine gc 84 ?_);refine gL (some 10) Tryz.func84 #[.slice A1 l1.length c1] ?_;(with_reducible refine (slices_Clone_int_int.calls _ _ l1 t573 _ ?_ ?_ A3.out).mono ?_);exact cO HR1;exact HC1.out;rintro e w6 ⟨v574,rfl,ho0,hb⟩;refine ⟨_,rfl,?_⟩;have HO575:=rl w ho0;replace HB:=bs HB hb;(try clear hb);(try clear ho0))|((with_reducible refine gc 79 ?_);refine gL (some 13) Tryz.func79 #[.slice A0 l0.length c0,.slice A1 l1.length c1] ?_;(with_reducible refine (impl_IsTogether.calls k _ _ l0 _ _ l1 true _ ?_ ?_ ?_ ?_ A4.out).mono ?_);exact cB HR0;exact HC0.out;exact cB HR1;exact HC1.out;rintro e w7 ⟨rfl,hb⟩;refine ⟨_,rfl,?_⟩;replace HO575:=rb HO575 hb;replace HB:=bs HB hb;(try clear hb)));go_loopg [5,18] k (fun kq v5 v18 w'=>∃ (x5_1:List Int) (x18_1:Int),v18=.int .i64 x18_1∧Aside0 (impl_AddToStage.l0 kq l0 x5_1 l0 (l0.length:Int) x18_1=some r)∧Aside0 (kq≤k)∧Aside0 (Kd.R (Kd.int .i64) 3 w' w.heap.size (fun _=>True) v5 x5_1)∧Aside0 (Below w.heap.size w w'))
  case atStart=>exact ⟨(t573),(0),rS,H',⟨Nat.le_refl _⟩,⟨rK HO575⟩,⟨bA⟩⟩
  case round =>
   clear H';obtain ⟨x5_1,x18_1,rfl,HA,HK1,HO_5,HB⟩:=hrel
   cases gk with
   | zero=>exact absurd HA.out (by simp [impl_AddToStage.l0])
   | succ k1 =>
    have H:=HA.out;clear HA;simp only [impl_AddToStage.l0] at H;by_cases c8:x18_1 < (l0.length:Int)
    ·rw [if_pos c8] at H;have c8b0:=dt c8;clear c8;have c9b0:=ifC H;replace H:=ifT H;have c10b0:=ifC H;replace H:=ifT H;obtain ⟨t579,A11,H⟩:=bindE H;try dsimp only at H
     by_cases c12:t579=true
     ·subst c12;rw [if_pos rfl] at H;have H':=am H;clear H;obtain ⟨p577,q577⟩:=pq x18_1 l0;obtain ⟨ad577,e577,hx577_0,hx577_1,hx577_2,hx577_3⟩:=at_T69 (Kd.C_below HR0.out HB.out) x18_1 p577 q577;cases e577;obtain ⟨p577,q577⟩:=eT p577 q577;go_wp2_with (first|((with_reducible refine gd 7 ?_);refine bF w 7 #[.int .i64 0,.int .i64 0,.int .i64 0,.int .i64 0] 69 ?_;rintro gb578 w13 BK578 GW578 GE578 hb hg;replace HO_5:=rb HO_5 hb;replace HB:=bs HB hb;clear hb hg;obtain ⟨_,_,_,_,_,_,_,_⟩:=blkc4 BK578;obtain ⟨Ao15,co15,eo15⟩:=Kd.R_slice HO_5.out;subst eo15)|((with_reducible refine gc 120 ?_);refine gL (some 25) Tryz.func120 #[.slice Ao15 x5_1.length co15,.int .i64 ((rd_T69 l0 x18_1).f0)] ?_;(with_reducible refine (slices_Contains_int_int.calls k1 _ _ x5_1 ((rd_T69 l0 x18_1).f0) true _ ?_ ?_ A11.out).mono ?_);(focus refine (Kd.R_reads' (e:=3) (base:=w.heap.size) (ok:=fun k_=>True) (n:=x5_1.length) (c:=co15) ?_).2.2;exact (rf HO_5 BK578));exact (Kd.R_reads' HO_5.out).2.1;rintro e w' ⟨rfl,⟨nd,rfl⟩⟩;refine ⟨_,rfl,?_⟩));go_roundg k1
      case measure=>have:=HK1.out;omega
      case rel=>exact ⟨(x5_1),(wrap64 (x18_1 + 1)),rS,H',⟨by have:=HK1.out;omega⟩,⟨Kd.R_mono (rf HO_5 BK578) (fun _ hk=>trivial)⟩,⟨bG⟩⟩
     replace c12:=Bool.eq_false_iff.mpr c12;subst c12;rw [if_neg Bool.false_ne_true] at H;obtain ⟨t580,A16,H⟩:=bindE H;try dsimp only at H
     obtain ⟨t583,A17,H⟩:=bindE H;try dsimp only at H
     by_cases c18:t583=true
     ·subst c18;rw [if_pos rfl] at H;have H':=am H;clear H;obtain ⟨p577,q577⟩:=pq x18_1 l0;obtain ⟨ad577,e577,hx577_0,hx577_1,hx577_2,hx577_3⟩:=at_T69 (Kd.C_below HR0.out HB.out) x18_1 p577 q577;cases e577;obtain ⟨p577,q577⟩:=eT p577 q577;go_wp2_with (first|((with_reducible refine gd 7 ?_);refine bF w 7 #[.int .i64 0,.int .i64 0,.int .i64 0,.int .i64 0] 69 ?_;rintro gb578 w19 BK578 GW578 GE578 hb hg;replace HO_5:=rb HO_5 hb;replace HB:=bs HB hb;clear hb hg;obtain ⟨_,_,_,_,_,_,_,_⟩:=blkc4 BK578;obtain ⟨Ao21,co21,eo21⟩:=Kd.R_slice HO_5.out;subst eo21)|((with_reducible refine gc 120 ?_);refine gL (some 25) Tryz.func120 #[.slice Ao21 x5_1.length co21,.int .i64 ((rd_T69 l0 x18_1).f0)] ?_;(with_reducible refine (slices_Contains_int_int.calls k1 _ _ x5_1 ((rd_T69 l0 x18_1).f0) false _ ?_ ?_ A11.out).mono ?_);(focus refine (Kd.R_reads' (e:=3) (base:=w.heap.size) (ok:=fun k_=>True) (n:=x5_1.length) (c:=co21) ?_).2.2;exact (rf HO_5 BK578));exact (Kd.R_reads' HO_5.out).2.1;rintro e w' ⟨rfl,⟨nd,rfl⟩⟩;refine ⟨_,rfl,?_⟩)|((with_reducible refine gc 144 ?_);refine gL (some 29) Tryz.func144 #[.slice Ao21 x5_1.length co21,.int .i64 ((rd_T69 l0 x18_1).f0)] ?_;(with_reducible refine (impl_inserted.calls k1 _ _ x5_1 ((rd_T69 l0 x18_1).f0) t580 _ ?_ ?_ A16.out).mono ?_);(focus refine (Kd.R_reads' (e:=3) (base:=w.heap.size) (ok:=fun k_=>True) (n:=x5_1.length) (c:=co21) ?_).2.2;exact (rf HO_5 BK578));exact (Kd.R_reads' HO_5.out).2.1;rintro e w22 ⟨v581,rfl,ho0,hb⟩;refine ⟨_,rfl,?_⟩;have HO582:=rl w (Kd.R_new' ho0 (Kd.R_lt (rf HO_5 BK578)));replace HO_5:=am (Kd.R_elder' (rf HO_5 BK578) (Kd.R_base ho0) hb);replace BK578:=kc (o:=.cells #[.int .i64 ((rd_T69 l0 x18_1).f0),.int .i64 ((rd_T69 l0 x18_1).f1),.int .i64 ((rd_T69 l0 x18_1).f2),.int .i64 ((rd_T69 l0 x18_1).f3)] 69 (0,0)) (kp BK578) hb;replace HB:=bs HB hb;(try clear hb);(try clear ho0);obtain ⟨Ao23,co23,eo23⟩:=Kd.R_slice HO582.out;subst eo23)|((with_reducible refine gc 79 ?_);refine gL (some 32) Tryz.func79 #[.slice (some ad577) l0.length c0,.slice Ao23 t580.length co23] ?_;(with_reducible refine (impl_IsTogether.calls k1 _ _ l0 _ _ t580 true _ ?_ ?_ ?_ ?_ A17.out).mono ?_);exact cB HR0;exact HC0.out;exact cO ⟨(Kd.R_reads' HO582.out).2.2⟩;exact (Kd.R_reads' HO582.out).2.1;rintro e w24 ⟨rfl,hb⟩;refine ⟨_,rfl,?_⟩;replace HO_5:=rb HO_5 hb;replace HO582:=rb HO582 hb;replace BK578:=kb BK578 hb;replace HB:=bs HB hb;(try clear hb)));go_roundg k1
      case measure=>have:=HK1.out;omega
      case rel=>exact ⟨(t580),(wrap64 (x18_1 + 1)),rS,H',⟨by have:=HK1.out;omega⟩,⟨rm HO582 (fun _ hk=>trivial)⟩,⟨bG⟩⟩
     replace c18:=Bool.eq_false_iff.mpr c18;subst c18;rw [if_neg Bool.false_ne_true] at H;have H':=am H;clear H;obtain ⟨p577,q577⟩:=pq x18_1 l0;obtain ⟨ad577,e577,hx577_0,hx577_1,hx577_2,hx577_3⟩:=at_T69 (Kd.C_below HR0.out HB.out) x18_1 p577 q577;cases e577;obtain ⟨p577,q577⟩:=eT p577 q577;go_wp2_with (first|((with_reducible refine gd 7 ?_);refine bF w 7 #[.int .i64 0,.int .i64 0,.int .i64 0,.int .i64 0] 69 ?_;rintro gb578 w25 BK578 GW578 GE578 hb hg;replace HO_5:=rb HO_5 hb;replace HB:=bs HB hb;clear hb hg;obtain ⟨_,_,_,_,_,_,_,_⟩:=blkc4 BK578;obtain ⟨Ao27,co27,eo27⟩:=Kd.R_slice HO_5.out;subst eo27)|((with_reducible refine gc 120 ?_);refine gL (some 25) Tryz.func120 #[.slice Ao27 x5_1.length co27,.int .i64 ((rd_T69 l0 x18_1).f0)] ?_;(with_reducible refine (slices_Contains_int_int.calls k1 _ _ x5_1 ((rd_T69 l0 x18_1).f0) false _ ?_ ?_ A11.out).mono ?_);(focus refine (Kd.R_reads' (e:=3) (base:=w.heap.size) (ok:=fun k_=>True) (n:=x5_1.length) (c:=co27) ?_).2.2;exact (rf HO_5 BK578));exact (Kd.R_reads' HO_5.out).2.1;rintro e w' ⟨rfl,⟨nd,rfl⟩⟩;refine ⟨_,rfl,?_⟩)|((with_reducible refine gc 144 ?_);refine gL (some 29) Tryz.func144 #[.slice Ao27 x5_1.length co27,.int .i64 ((rd_T69 l0 x18_1).f0)] ?_;(with_reducible refine (impl_inserted.calls k1 _ _ x5_1 ((rd_T69 l0 x18_1).f0) t580 _ ?_ ?_ A16.out).mono ?_);(focus refine (Kd.R_reads' (e:=3) (base:=w.heap.size) (ok:=fun k_=>True) (n:=x5_1.length) (c:=co27) ?_).2.2;exact (rf HO_5 BK578));exact (Kd.R_reads' HO_5.out).2.1;rintro e w28 ⟨v581,rfl,ho0,hb⟩;refine ⟨_,rfl,?_⟩;have HO582:=rl w (Kd.R_new' ho0 (Kd.R_lt (rf HO_5 BK578)));replace HO_5:=am (Kd.R_elder' (rf HO_5 BK578) (Kd.R_base ho0) hb);replace BK578:=kc (o:=.cells #[.int .i64 ((rd_T69 l0 x18_1).f0),.int .i64 ((rd_T69 l0 x18_1).f1),.int .i64 ((rd_T69 l0 x18_1).f2),.int .i64 ((rd_T69 l0 x18_1).f3)] 69 (0,0)) (kp BK578) hb;replace HB:=bs HB hb;(try clear hb);(try clear ho0);obtain ⟨Ao29,co29,eo29⟩:=Kd.R_slice HO582.out;subst eo29)|((with_reducible refine gc 79 ?_);refine gL (some 32) Tryz.func79 #[.slice (some ad577) l0.length c0,.slice Ao29 t580.length co29] ?_;(with_reducible refine (impl_IsTogether.calls k1 _ _ l0 _ _ t580 false _ ?_ ?_ ?_ ?_ A17.out).mono ?_);exact cB HR0;exact HC0.out;exact cO ⟨(Kd.R_reads' HO582.out).2.2⟩;exact (Kd.R_reads' HO582.out).2.1;rintro e w30 ⟨rfl,hb⟩;refine ⟨_,rfl,?_⟩;replace HO_5:=rb HO_5 hb;replace HO582:=rb HO582 hb;replace BK578:=kb BK578 hb;replace HB:=bs HB hb;(try clear hb)));go_roundg k1
     case measure=>have:=HK1.out;omega
     case rel=>exact ⟨(x5_1),(wrap64 (x18_1 + 1)),rS,H',⟨by have:=HK1.out;omega⟩,⟨rm HO_5 (fun _ hk=>trivial)⟩,⟨bG⟩⟩
    rw [if_neg c8] at H;have c8b0:=df c8;clear c8;obtain rfl:=oj H;go_wp2;go_ret;exact ⟨_,rA,rK HO_5,bA⟩
 replace c5:=Bool.eq_false_iff.mpr c5;subst c5;rw [if_neg Bool.false_ne_true] at H;obtain rfl:=oj H;go_enter Tryz.func123,Tryz.ntmps123;go_wp2_with (first|((with_reducible refine gc 84 ?_);refine gL (some 10) Tryz.func84 #[.slice A1 l1.length c1] ?_;(with_reducible refine (slices_Clone_int_int.calls _ _ l1 t573 _ ?_ ?_ A3.out).mono ?_);exact cO HR1;exact HC1.out;rintro e w31 ⟨v574,rfl,ho0,hb⟩;refine ⟨_,rfl,?_⟩;have HO575:=rl w ho0;replace HB:=bs HB hb;(try clear hb);(try clear ho0))|((with_reducible refine gc 79 ?_);refine gL (some 13) Tryz.func79 #[.slice A0 l0.length c0,.slice A1 l1.length c1] ?_;(with_reducible refine (impl_IsTogether.calls k _ _ l0 _ _ l1 false _ ?_ ?_ ?_ ?_ A4.out).mono ?_);exact cB HR0;exact HC0.out;exact cB HR1;exact HC1.out;rintro e w32 ⟨rfl,hb⟩;refine ⟨_,rfl,?_⟩;replace HO575:=rb HO575 hb;replace HB:=bs HB hb;(try clear hb)));go_ret;exact ⟨_,rA,rK HO575,bA⟩

/-! ### impl_NextStage: function 87 -/
def impl_NextStage.f (k:Nat) (l0:List (S69)) (l1_0:List Int) (a1_1:Int) (l1_2:List Int) (a1_3:Int) (l2:List (S92)):Option (List Int):=(impl_LongestWant.f k l2 l1_0).bind fun t585=>(if t585=0 then (some (([]:List Int))) else ((impl_IsControl.f k l0 l1_0 a1_1 l1_2 a1_3).bind fun t589=>(if t589=true then ((impl_AreWants.f k l0 l2).bind fun t590=>(if t590=true then ((impl_AddToStage.f k l0 (([t585]:List Int))).bind fun t594=>(some t594)) else (some (([]:List Int))))) else (some (([]:List Int))))))
theorem impl_NextStage.mono:∀ a0 a1 a2 a3 a4 a5 k,LeO (impl_NextStage.f k a0 a1 a2 a3 a4 a5) (impl_NextStage.f (k + 1) a0 a1 a2 a3 a4 a5):=by
 intro a0 a1 a2 a3 a4 a5 k;unfold impl_NextStage.f;exact mz4 impl_AddToStage.mono impl_AreWants.mono impl_IsControl.mono impl_LongestWant.mono
set_option maxHeartbeats 8000000 in
set_option maxRecDepth 100000 in
theorem impl_NextStage.calls (k:Nat) (A0:Option Addr) (c0:Nat) (l0:List (S69)) (A1_0:Option Addr) (c1_0:Nat) (l1_0:List Int) (a1_1:Int) (A1_2:Option Addr) (c1_2:Nat) (l1_2:List Int) (a1_3:Int) (A2:Option Addr) (c2:Nat) (l2:List (S92)) (r:List Int) (w:World) (hr0:Kd.C k69 w A0 l0.length l0) (hc0:l0.length≤c0) (hr1_0:Kd.C (Kd.int .i64) w A1_0 l1_0.length l1_0) (hc1_0:l1_0.length≤c1_0) (hr1_2:Kd.C (Kd.int .i64) w A1_2 l1_2.length l1_2) (hc1_2:l1_2.length≤c1_2) (hr2:Kd.C k92 w A2 l2.length l2) (hc2:l2.length≤c2) (h:impl_NextStage.f k l0 l1_0 a1_1 l1_2 a1_3 l2=some r) :
  Calls Tryz.prog 87 #[.slice A0 l0.length c0,.agg #[.slice A1_0 l1_0.length c1_0,.int .i64 a1_1,.slice A1_2 l1_2.length c1_2,.int .i64 a1_3],.slice A2 l2.length c2] w fun e w'=>∃ v0_:Value,e=.returned (v0_)∧Kd.R (Kd.int .i64) 3 w' w.heap.size (fun _=>True) v0_ r∧Below w.heap.size w w':=by
 have hu50:=Tryz.underlying50;have HR0:=am hr0;have HC0:=am hc0;clear hr0 hc0;have HR1_0:=am hr1_0;have HC1_0:=am hc1_0;clear hr1_0 hc1_0;have HR1_2:=am hr1_2;have HC1_2:=am hc1_2;clear hr1_2 hc1_2;have HR2:=am hr2;have HC2:=am hc2;clear hr2 hc2;have HB:=am (Below.refl w.heap.size w);unfold impl_NextStage.f at h;have H:=h;clear h;obtain ⟨t585,A4,H⟩:=bindE H;try dsimp only at H
 by_cases c5:t585=0
 ·rw [if_pos c5] at H;obtain ⟨c5b0,c5b1⟩:=eI c5;clear c5;obtain ⟨y586,hy586⟩:∃ y_:List Int,y_=(([]:List Int)):=⟨_,rfl⟩;replace H:(some y586)=some r:=rH H hy586;have Ny586:=am hy586;clear hy586;obtain rfl:=oj H;go_enter Tryz.func87,Tryz.ntmps87;go_wp2_with (first|((with_reducible refine gd 4 ?_);refine bF w 4 #[.slice A1_0 l1_0.length c1_0,.int .i64 a1_1,.slice A1_2 l1_2.length c1_2,.int .i64 a1_3] 50 ?_;rintro gb584 w6 BK584 GW584 GE584 hb hg;replace HB:=bs HB hb;clear hb hg;obtain ⟨_,_,_,_,_,_,_,_⟩:=blkc4 BK584)|((with_reducible refine gc 122 ?_);refine gL (some 11) Tryz.func122 #[.slice A2 l2.length c2,.slice A1_0 l1_0.length c1_0] ?_;(with_reducible refine (impl_LongestWant.calls k _ _ l2 _ _ l1_0 t585 _ ?_ ?_ ?_ ?_ A4.out).mono ?_);exact cB HR2;exact HC2.out;exact cB HR1_0;exact HC1_0.out;rintro e w8 ⟨rfl,hb⟩;refine ⟨_,rfl,?_⟩;replace BK584:=kb BK584 hb;replace HB:=bs HB hb;(try clear hb))|((with_reducible refine gd 26 ?_);refine Kd.R_lit (Kd.int .i64) _ 3 ?hg (N:=26) ?hd (xs:=([]:List Int)) (inner:=[]) (ok:=fun _=>True) (okp:=fun _=>True) ?hr ?hp (fun _ hk=>hk) trivial (Below.refl _ _) (Nat.le_refl _) (by simp) ?_;(case hd=>rfl);(case hg=>rfl);(case hr=>first|(go_simp;done)|(go_simp;rfl));(case hp=>exact (Reps.none _ _));intro v587 w9 ho10 hb hg_ hnew_;clear hg_ hnew_;(first|rw [← Ny586.out] at ho10|(simp only [Int.reduceToNat] at ho10;rw [← Ny586.out] at ho10));have HO588:=rl w ho10;replace BK584:=kb BK584 hb;replace HB:=bs HB hb;clear hb ho10));go_ret;exact ⟨_,rA,rK HO588,bG⟩
 rw [if_neg c5] at H;obtain ⟨c5b0,c5b1⟩:=nI c5;obtain ⟨t589,A11,H⟩:=bindE H;try dsimp only at H
 by_cases c12:t589=true
 ·subst c12;rw [if_pos rfl] at H;obtain ⟨t590,A13,H⟩:=bindE H;try dsimp only at H
  by_cases c14:t590=true
  ·subst c14;rw [if_pos rfl] at H;obtain ⟨y591,hy591⟩:∃ y_:List Int,y_=(([t585]:List Int)):=⟨_,rfl⟩;replace H:=rF H hy591;have Ny591:=am hy591;clear hy591;obtain ⟨t594,A15,H⟩:=bindE H;try dsimp only at H
   obtain rfl:=oj H;go_enter Tryz.func87,Tryz.ntmps87;go_wp2_with (first|((with_reducible refine gd 4 ?_);refine bF w 4 #[.slice A1_0 l1_0.length c1_0,.int .i64 a1_1,.slice A1_2 l1_2.length c1_2,.int .i64 a1_3] 50 ?_;rintro gb584 w16 BK584 GW584 GE584 hb hg;replace HB:=bs HB hb;clear hb hg;obtain ⟨_,_,_,_,_,_,_,_⟩:=blkc4 BK584)|((with_reducible refine gc 122 ?_);refine gL (some 11) Tryz.func122 #[.slice A2 l2.length c2,.slice A1_0 l1_0.length c1_0] ?_;(with_reducible refine (impl_LongestWant.calls k _ _ l2 _ _ l1_0 t585 _ ?_ ?_ ?_ ?_ A4.out).mono ?_);exact cB HR2;exact HC2.out;exact cB HR1_0;exact HC1_0.out;rintro e w18 ⟨rfl,hb⟩;refine ⟨_,rfl,?_⟩;replace BK584:=kb BK584 hb;replace HB:=bs HB hb;(try clear hb);obtain ⟨_,_,_,_,_,_,_,_⟩:=blkc4 BK584)|(go_at_call 59;(with_reducible refine (impl_IsControl.calls k _ _ l0 _ _ l1_0 a1_1 _ _ l1_2 a1_3 true _ ?_ ?_ ?_ ?_ ?_ ?_ A11.out).mono ?_);exact cB HR0;exact HC0.out;exact cB HR1_0;exact HC1_0.out;exact cB HR1_2;exact HC1_2.out;rintro e w20 ⟨rfl,hb⟩;replace BK584:=kb BK584 hb;replace HB:=bs HB hb;(try clear hb))|(go_at_call 60;(with_reducible refine (impl_AreWants.calls k _ _ l0 _ _ l2 true _ ?_ ?_ ?_ ?_ A13.out).mono ?_);exact cB HR0;exact HC0.out;exact cB HR2;exact HC2.out;rintro e w21 ⟨rfl,hb⟩;replace BK584:=kb BK584 hb;replace HB:=bs HB hb;(try clear hb))|((with_reducible refine gd 29 ?_);refine Kd.R_lit (Kd.int .i64) _ 3 ?hg (N:=29) ?hd (xs:=([t585]:List Int)) (inner:=[.int .i64 t585]) (ok:=fun _=>True) (okp:=fun _=>True) ?hr ?hp (fun _ hk=>hk) trivial (Below.refl _ _) (Nat.le_refl _) (by simp) ?_;(case hd=>rfl);(case hg=>rfl);(case hr=>first|(go_simp;done)|(go_simp;rfl));(case hp=>exact (Reps.one (show Kd.M (Kd.int .i64) _ _ _ t585 [.int .i64 t585] from rfl) (Reps.none _ _)));intro v592 w22 ho23 hb hg_ hnew_;clear hg_ hnew_;(first|rw [← Ny591.out] at ho23|(simp only [Int.reduceToNat] at ho23;rw [← Ny591.out] at ho23));have HO593:=rl w ho23;replace BK584:=kb BK584 hb;replace HB:=bs HB hb;clear hb ho23;obtain ⟨Ao24,co24,eo24⟩:=Kd.R_slice HO593.out;subst eo24)|((with_reducible refine gc 123 ?_);refine gL (some 30) Tryz.func123 #[.slice A0 l0.length c0,.slice Ao24 y591.length co24] ?_;(with_reducible refine (impl_AddToStage.calls k _ _ l0 _ _ y591 t594 _ ?_ ?_ ?_ ?_ A15.out).mono ?_);exact cB HR0;exact HC0.out;exact cO ⟨(Kd.R_reads' HO593.out).2.2⟩;exact (Kd.R_reads' HO593.out).2.1;rintro e w25 ⟨v595,rfl,ho0,hb⟩;refine ⟨_,rfl,?_⟩;have HO596:=rl w (rn ho0 HO593);replace HO593:=re HO593 ho0 hb;replace BK584:=kb BK584 hb;replace HB:=bs HB hb;(try clear hb);(try clear ho0)));go_ret;exact ⟨_,rA,rm HO596 (fun _ hk=>trivial),bG⟩
  replace c14:=Bool.eq_false_iff.mpr c14;subst c14;rw [if_neg Bool.false_ne_true] at H;obtain ⟨y597,hy597⟩:∃ y_:List Int,y_=(([]:List Int)):=⟨_,rfl⟩;replace H:(some y597)=some r:=rH H hy597;have Ny597:=am hy597;clear hy597;obtain rfl:=oj H;go_enter Tryz.func87,Tryz.ntmps87;go_wp2_with (first|((with_reducible refine gd 4 ?_);refine bF w 4 #[.slice A1_0 l1_0.length c1_0,.int .i64 a1_1,.slice A1_2 l1_2.length c1_2,.int .i64 a1_3] 50 ?_;rintro gb584 w26 BK584 GW584 GE584 hb hg;replace HB:=bs HB hb;clear hb hg;obtain ⟨_,_,_,_,_,_,_,_⟩:=blkc4 BK584)|((with_reducible refine gc 122 ?_);refine gL (some 11) Tryz.func122 #[.slice A2 l2.length c2,.slice A1_0 l1_0.length c1_0] ?_;(with_reducible refine (impl_LongestWant.calls k _ _ l2 _ _ l1_0 t585 _ ?_ ?_ ?_ ?_ A4.out).mono ?_);exact cB HR2;exact HC2.out;exact cB HR1_0;exact HC1_0.out;rintro e w28 ⟨rfl,hb⟩;refine ⟨_,rfl,?_⟩;replace BK584:=kb BK584 hb;replace HB:=bs HB hb;(try clear hb);obtain ⟨_,_,_,_,_,_,_,_⟩:=blkc4 BK584)|(go_at_call 59;(with_reducible refine (impl_IsControl.calls k _ _ l0 _ _ l1_0 a1_1 _ _ l1_2 a1_3 true _ ?_ ?_ ?_ ?_ ?_ ?_ A11.out).mono ?_);exact cB HR0;exact HC0.out;exact cB HR1_0;exact HC1_0.out;exact cB HR1_2;exact HC1_2.out;rintro e w30 ⟨rfl,hb⟩;replace BK584:=kb BK584 hb;replace HB:=bs HB hb;(try clear hb))|(go_at_call 60;(with_reducible refine (impl_AreWants.calls k _ _ l0 _ _ l2 false _ ?_ ?_ ?_ ?_ A13.out).mono ?_);exact cB HR0;exact HC0.out;exact cB HR2;exact HC2.out;rintro e w31 ⟨rfl,hb⟩;replace BK584:=kb BK584 hb;replace HB:=bs HB hb;(try clear hb))|((with_reducible refine gd 26 ?_);refine Kd.R_lit (Kd.int .i64) _ 3 ?hg (N:=26) ?hd (xs:=([]:List Int)) (inner:=[]) (ok:=fun _=>True) (okp:=fun _=>True) ?hr ?hp (fun _ hk=>hk) trivial (Below.refl _ _) (Nat.le_refl _) (by simp) ?_;(case hd=>rfl);(case hg=>rfl);(case hr=>first|(go_simp;done)|(go_simp;rfl));(case hp=>exact (Reps.none _ _));intro v598 w32 ho33 hb hg_ hnew_;clear hg_ hnew_;(first|rw [← Ny597.out] at ho33|(simp only [Int.reduceToNat] at ho33;rw [← Ny597.out] at ho33));have HO599:=rl w ho33;replace BK584:=kb BK584 hb;replace HB:=bs HB hb;clear hb ho33));go_ret;exact ⟨_,rA,rK HO599,bG⟩
 replace c12:=Bool.eq_false_iff.mpr c12;subst c12;rw [if_neg Bool.false_ne_true] at H;obtain ⟨y600,hy600⟩:∃ y_:List Int,y_=(([]:List Int)):=⟨_,rfl⟩;replace H:(some y600)=some r:=rH H hy600;have Ny600:=am hy600;clear hy600;obtain rfl:=oj H;go_enter Tryz.func87,Tryz.ntmps87;go_wp2_with (first|((with_reducible refine gd 4 ?_);refine bF w 4 #[.slice A1_0 l1_0.length c1_0,.int .i64 a1_1,.slice A1_2 l1_2.length c1_2,.int .i64 a1_3] 50 ?_;rintro gb584 w34 BK584 GW584 GE584 hb hg;replace HB:=bs HB hb;clear hb hg;obtain ⟨_,_,_,_,_,_,_,_⟩:=blkc4 BK584)|((with_reducible refine gc 122 ?_);refine gL (some 11) Tryz.func122 #[.slice A2 l2.length c2,.slice A1_0 l1_0.length c1_0] ?_;(with_reducible refine (impl_LongestWant.calls k _ _ l2 _ _ l1_0 t585 _ ?_ ?_ ?_ ?_ A4.out).mono ?_);exact cB HR2;exact HC2.out;exact cB HR1_0;exact HC1_0.out;rintro e w36 ⟨rfl,hb⟩;refine ⟨_,rfl,?_⟩;replace BK584:=kb BK584 hb;replace HB:=bs HB hb;(try clear hb);obtain ⟨_,_,_,_,_,_,_,_⟩:=blkc4 BK584)|(go_at_call 59;(with_reducible refine (impl_IsControl.calls k _ _ l0 _ _ l1_0 a1_1 _ _ l1_2 a1_3 false _ ?_ ?_ ?_ ?_ ?_ ?_ A11.out).mono ?_);exact cB HR0;exact HC0.out;exact cB HR1_0;exact HC1_0.out;exact cB HR1_2;exact HC1_2.out;rintro e w38 ⟨rfl,hb⟩;replace BK584:=kb BK584 hb;replace HB:=bs HB hb;(try clear hb))|((with_reducible refine gd 26 ?_);refine Kd.R_lit (Kd.int .i64) _ 3 ?hg (N:=26) ?hd (xs:=([]:List Int)) (inner:=[]) (ok:=fun _=>True) (okp:=fun _=>True) ?hr ?hp (fun _ hk=>hk) trivial (Below.refl _ _) (Nat.le_refl _) (by simp) ?_;(case hd=>rfl);(case hg=>rfl);(case hr=>first|(go_simp;done)|(go_simp;rfl));(case hp=>exact (Reps.none _ _));intro v601 w39 ho40 hb hg_ hnew_;clear hg_ hnew_;(first|rw [← Ny600.out] at ho40|(simp only [Int.reduceToNat] at ho40;rw [← Ny600.out] at ho40));have HO602:=rl w ho40;replace BK584:=kb BK584 hb;replace HB:=bs HB hb;clear hb ho40));go_ret;exact ⟨_,rA,rK HO602,bG⟩

/-! ### impl_LeastGreen: function 141 -/
def impl_LeastGreen.l0:Nat→List (S69)→List Int→Int→Int→Option (Int)
 | 0,_,_,_,_=>none
 | k + 1,x0,x8,x9,x10=>if x10 < x9 then (if 0≤x10 then (if x10 < (x8.length:Int) then ((impl_FindPath.f x0 (rd x8 x10)).bind fun t604=>(if t604≥0 then (if 0≤t604 then (if t604 < (x0.length:Int) then (if ((rd_T69 x0 t604).f1)=2 then (some 7) else (impl_LeastGreen.l0 k x0 x8 x9 (wrap64 (x10 + 1)))) else (none)) else (none)) else (impl_LeastGreen.l0 k x0 x8 x9 (wrap64 (x10 + 1))))) else (none)) else (none)) else (some 5)
def impl_LeastGreen.f (k:Nat) (l0:List (S69)) (l1:List Int):Option (Int):=impl_LeastGreen.l0 k l0 l1 (l1.length:Int) 0
theorem impl_LeastGreen.mono_l:∀ k,(∀ y0 y1 y2 y3,LeO (impl_LeastGreen.l0 k y0 y1 y2 y3) (impl_LeastGreen.l0 (k + 1) y0 y1 y2 y3))
 | 0=>fun _ _ _ _ r h=>by simp [impl_LeastGreen.l0] at h
 | k + 1=>by
  have ih0:=impl_LeastGreen.mono_l k
  ·intro y0 y1 y2 y3;unfold impl_LeastGreen.l0;exact mz1 ih0
theorem impl_LeastGreen.mono:∀ a0 a1 k,LeO (impl_LeastGreen.f k a0 a1) (impl_LeastGreen.f (k + 1) a0 a1):=by
 intro a0 a1 k;have ih0:=impl_LeastGreen.mono_l k;unfold impl_LeastGreen.f;exact mz1 ih0
set_option maxHeartbeats 8000000 in
set_option maxRecDepth 100000 in
theorem impl_LeastGreen.calls (k:Nat) (A0:Option Addr) (c0:Nat) (l0:List (S69)) (A1:Option Addr) (c1:Nat) (l1:List Int) (r:Int) (w:World) (hr0:Kd.C k69 w A0 l0.length l0) (hc0:l0.length≤c0) (hr1:Kd.C (Kd.int .i64) w A1 l1.length l1) (hc1:l1.length≤c1) (h:impl_LeastGreen.f k l0 l1=some r) :
  Calls Tryz.prog 141 #[.slice A0 l0.length c0,.slice A1 l1.length c1] w fun e w'=>e=.returned (.int .i64 r)∧Below w.heap.size w w':=by
 have HR0:=am hr0;have HC0:=am hc0;clear hr0 hc0;have HR1:=am hr1;have HC1:=am hc1;clear hr1 hc1;have HB:=am (Below.refl w.heap.size w);unfold impl_LeastGreen.f at h;have H:=h;clear h;have H':=am H;clear H;go_enter Tryz.func141,Tryz.ntmps141;go_wp2;go_loopg [10] k (fun kq v10 w'=>∃ (x10_1:Int),v10=.int .i64 x10_1∧Aside0 (impl_LeastGreen.l0 kq l0 l1 (l1.length:Int) x10_1=some r)∧Aside0 (kq≤k)∧Aside0 (Below w.heap.size w w'))
 case atStart=>exact ⟨(0),rS,H',⟨Nat.le_refl _⟩,⟨bA⟩⟩
 case round =>
  clear H';obtain ⟨x10_1,rfl,HA,HK1,HB⟩:=hrel
  cases gk with
  | zero=>exact absurd HA.out (by simp [impl_LeastGreen.l0])
  | succ k1 =>
   have H:=HA.out;clear HA;simp only [impl_LeastGreen.l0] at H;by_cases c3:x10_1 < (l1.length:Int)
   ·rw [if_pos c3] at H;have c3b0:=dt c3;clear c3;have c4b0:=ifC H;replace H:=ifT H;have c5b0:=ifC H;replace H:=ifT H;obtain ⟨t604,A6,H⟩:=bindE H;try dsimp only at H
    by_cases c7:t604≥0
    ·rw [if_pos c7] at H;have c7b0:=dt c7;clear c7;have c8b0:=ifC H;replace H:=ifT H;have c9b0:=ifC H;replace H:=ifT H;by_cases c10:((rd_T69 l0 t604).f1)=2
     ·rw [if_pos c10] at H;obtain ⟨c10b0,c10b1⟩:=eI c10;clear c10;obtain rfl:=oj H;obtain ⟨p603,q603⟩:=pq x10_1 l1;obtain ⟨ad603,e603,hx603_0⟩:=Kd.at_int (Kd.C_below HR1.out HB.out) x10_1 p603 q603;cases e603;obtain ⟨p603,q603⟩:=eT p603 q603;go_wp2_with (first|((with_reducible refine gc 83 ?_);refine gL (some 16) Tryz.func83 #[.slice A0 l0.length c0,.int .i64 (rd l1 x10_1)] ?_;(with_reducible refine (impl_FindPath.calls _ _ l0 (rd l1 x10_1) t604 _ ?_ ?_ A6.out).mono ?_);exact cB HR0;exact HC0.out;rintro e w11 ⟨rfl,hb⟩;refine ⟨_,rfl,?_⟩;replace HB:=bs HB hb;(try clear hb);have p605:0≤(t604:Int):=dA;have q605:t604 < (l0.length:Int):=dA;obtain ⟨ad605,e605,hx605_0,hx605_1,hx605_2,hx605_3⟩:=at_T69 HR0.out t604 p605 q605;cases e605;replace hx605_0:=hC HB hx605_0;replace hx605_1:=hC HB hx605_1;replace hx605_2:=hC HB hx605_2;replace hx605_3:=hC HB hx605_3;replace p605:=eq_true p605;replace q605:=eq_true q605));go_ret;exact ⟨rA,bA⟩
     rw [if_neg c10] at H;obtain ⟨c10b0,c10b1⟩:=nI c10;have H':=am H;clear H;obtain ⟨p603,q603⟩:=pq x10_1 l1;obtain ⟨ad603,e603,hx603_0⟩:=Kd.at_int (Kd.C_below HR1.out HB.out) x10_1 p603 q603;cases e603;obtain ⟨p603,q603⟩:=eT p603 q603;go_wp2_with (first|((with_reducible refine gc 83 ?_);refine gL (some 16) Tryz.func83 #[.slice A0 l0.length c0,.int .i64 (rd l1 x10_1)] ?_;(with_reducible refine (impl_FindPath.calls _ _ l0 (rd l1 x10_1) t604 _ ?_ ?_ A6.out).mono ?_);exact cB HR0;exact HC0.out;rintro e w12 ⟨rfl,hb⟩;refine ⟨_,rfl,?_⟩;replace HB:=bs HB hb;(try clear hb);have p605:0≤(t604:Int):=dA;have q605:t604 < (l0.length:Int):=dA;obtain ⟨ad605,e605,hx605_0,hx605_1,hx605_2,hx605_3⟩:=at_T69 HR0.out t604 p605 q605;cases e605;replace hx605_0:=hC HB hx605_0;replace hx605_1:=hC HB hx605_1;replace hx605_2:=hC HB hx605_2;replace hx605_3:=hC HB hx605_3;replace p605:=eq_true p605;replace q605:=eq_true q605));go_roundg k1
     case measure=>have:=HK1.out;omega
     case rel=>exact ⟨(wrap64 (x10_1 + 1)),rS,H',⟨by have:=HK1.out;omega⟩,⟨bA⟩⟩
    rw [if_neg c7] at H;have c7b0:=df c7;clear c7;have H':=am H;clear H;obtain ⟨p603,q603⟩:=pq x10_1 l1;obtain ⟨ad603,e603,hx603_0⟩:=Kd.at_int (Kd.C_below HR1.out HB.out) x10_1 p603 q603;cases e603;obtain ⟨p603,q603⟩:=eT p603 q603;go_wp2_with (first|((with_reducible refine gc 83 ?_);refine gL (some 16) Tryz.func83 #[.slice A0 l0.length c0,.int .i64 (rd l1 x10_1)] ?_;(with_reducible refine (impl_FindPath.calls _ _ l0 (rd l1 x10_1) t604 _ ?_ ?_ A6.out).mono ?_);exact cB HR0;exact HC0.out;rintro e w13 ⟨rfl,hb⟩;refine ⟨_,rfl,?_⟩;replace HB:=bs HB hb;(try clear hb)));go_roundg k1
    case measure=>have:=HK1.out;omega
    case rel=>exact ⟨(wrap64 (x10_1 + 1)),rS,H',⟨by have:=HK1.out;omega⟩,⟨bA⟩⟩
   rw [if_neg c3] at H;have c3b0:=df c3;clear c3;obtain rfl:=oj H;go_wp2;go_ret;exact ⟨rA,bA⟩

/-! ### impl_CanEnd: function 117 -/
def impl_CanEnd.f (k:Nat) (l0:List (S69)) (l1_0:List Int) (a1_1:Int) (l1_2:List Int) (a1_3:Int):Option (Bool):=(impl_IsControl.f k l0 l1_0 a1_1 l1_2 a1_3).bind fun t607=>(if t607=true then (if (l1_2.length:Int)=0 then ((impl_LeastGreen.f k l0 l1_0).bind fun t608=>(some (decide (a1_1≥t608)))) else (some false)) else (some false))
theorem impl_CanEnd.mono:∀ a0 a1 a2 a3 a4 k,LeO (impl_CanEnd.f k a0 a1 a2 a3 a4) (impl_CanEnd.f (k + 1) a0 a1 a2 a3 a4):=by
 intro a0 a1 a2 a3 a4 k;unfold impl_CanEnd.f;exact mz2 impl_IsControl.mono impl_LeastGreen.mono
def impl_CanEnd.T1:Bool × List (List Nat × List Nat):=(true,[([],[]),([],[]),([0,1],[0,1]),([2,2],[2]),([3],[3]),([4,3],[3,4]),([5,3],[3,5]),([6,3],[3,6]),([3,7],[3,7]),([8,3],[8]),([9],[9]),([10,9],[9,10]),([9],[9]),([9],[9]),([13,9],[9,13]),([12,14,9,9],[9,12,14]),([11,15,9],[9,11,15]),([9,16],[9,16]),([17,15,0,1,2,3,4,5,6,7,8,9,10,11,12,13,14,15,16,17],[17])])
def impl_CanEnd.B1:List Nat:=[0,0,3,7,15,31,63,127,255,511,1023,2047,1023,1023,9215,29695,65535,131071,262143]
theorem impl_CanEnd.tab1:rtab .any (opsOf Tryz.f117 1)=impl_CanEnd.T1:=by kernel_rfl
theorem impl_CanEnd.bits1:waitsOk impl_CanEnd.T1.2 impl_CanEnd.B1=true:=by kernel_rfl
set_option maxHeartbeats 8000000 in
set_option maxRecDepth 100000 in
theorem impl_CanEnd.calls (k:Nat) (A0:Option Addr) (c0:Nat) (l0:List (S69)) (A1_0:Option Addr) (c1_0:Nat) (l1_0:List Int) (a1_1:Int) (A1_2:Option Addr) (c1_2:Nat) (l1_2:List Int) (a1_3:Int) (r:Bool) (w:World) (hr0:Kd.C k69 w A0 l0.length l0) (hc0:l0.length≤c0) (hr1_0:Kd.C (Kd.int .i64) w A1_0 l1_0.length l1_0) (hc1_0:l1_0.length≤c1_0) (hr1_2:Kd.C (Kd.int .i64) w A1_2 l1_2.length l1_2) (hc1_2:l1_2.length≤c1_2) (h:impl_CanEnd.f k l0 l1_0 a1_1 l1_2 a1_3=some r) :
  Calls Tryz.prog 117 #[.slice A0 l0.length c0,.agg #[.slice A1_0 l1_0.length c1_0,.int .i64 a1_1,.slice A1_2 l1_2.length c1_2,.int .i64 a1_3]] w fun e w'=>e=.returned (.bool r)∧Below w.heap.size w w':=by
 have hu50:=Tryz.underlying50;have HR0:=am hr0;have HC0:=am hc0;clear hr0 hc0;have HR1_0:=am hr1_0;have HC1_0:=am hc1_0;clear hr1_0 hc1_0;have HR1_2:=am hr1_2;have HC1_2:=am hc1_2;clear hr1_2 hc1_2;have HB:=am (Below.refl w.heap.size w);unfold impl_CanEnd.f at h;have H:=h;clear h;obtain ⟨t607,A3,H⟩:=bindE H;try dsimp only at H
 by_cases c4:t607=true
 ·subst c4;rw [if_pos rfl] at H;by_cases c5:(l1_2.length:Int)=0
  ·rw [if_pos c5] at H;obtain ⟨c5b0,c5b1⟩:=eI c5;clear c5;obtain ⟨t608,A6,H⟩:=bindE H;try dsimp only at H
   obtain rfl:=oj H;go_enter Tryz.func117,Tryz.ntmps117;try go_wp2_with (first|((with_reducible refine gd 3 ?_);(try (refine gate_guard (by rfl) ?_;dsimp only));refine bF w 3 #[.slice A1_0 l1_0.length c1_0,.int .i64 a1_1,.slice A1_2 l1_2.length c1_2,.int .i64 a1_3] 50 ?_;rintro gb606 w7 BK606 GW606 GE606 hb hg;replace HB:=bs HB hb;clear hb hg))
   replace BK606:=dk BK606;have HBo:=HB;replace HB:=db HB;refine sw (ds:=[]) 19 (mb 19 0) impl_CanEnd.tab1 impl_CanEnd.bits1 (h4 BK606) (fun hHeld HT_ HW_=>?_);generalize w7.drew=w8 at BK606 HB hHeld ⊢;refine pz [0,1] ?_;refine oa 2 7 (mb 19 7) HT_ (fun K hK=>?_);refine gA Tryz.func59 #[.slice A0 l0.length c0,.agg #[.slice A1_0 l1_0.length c1_0,.int .i64 a1_1,.slice A1_2 l1_2.length c1_2,.int .i64 a1_3]] ?_;(with_reducible refine (impl_IsControl.calls k _ _ l0 _ _ l1_0 a1_1 _ _ l1_2 a1_3 true _ ?_ ?_ ?_ ?_ ?_ ?_ A3.out).mono ?_);exact cB HR0;exact HC0.out;exact cB HR1_0;exact HC1_0.out;exact cB HR1_2;exact HC1_2.out;rintro e w9 ⟨rfl,hb⟩;refine ⟨_,rfl,?_⟩;replace BK606:=kb BK606 hb;replace HB:=bs HB hb;(try clear hb);refine hK.out _ _ (cn4 BK606) (fun hHeld=>?_);clear hK K;refine nB ?_;refine pz [3,4,5,6,7,8,9,10,12,13,11,14] ?_;refine oa 15 20 (mb 19 65535) HT_ (fun K hK=>?_);refine gA Tryz.func141 #[.slice A0 l0.length c0,.slice A1_0 l1_0.length c1_0] ?_;(with_reducible refine (impl_LeastGreen.calls k _ _ l0 _ _ l1_0 t608 _ ?_ ?_ ?_ ?_ A6.out).mono ?_);exact cB HR0;exact HC0.out;exact cB HR1_0;exact HC1_0.out;rintro e w10 ⟨rfl,hb⟩;refine ⟨_,rfl,?_⟩;replace BK606:=kb BK606 hb;replace HB:=bs HB hb;(try clear hb);refine hK.out _ _ (cn4 BK606) (fun hHeld=>?_);clear hK K;refine nB ?_;refine pz [16,17,18] ?_;refine eA HT_ ?_;try go_wp2
   go_ret;exact ⟨rA,bG⟩
  rw [if_neg c5] at H;obtain ⟨c5b0,c5b1⟩:=nI c5;have c5b2:¬ (l1_2=[]):=fun h_=>c5 (by rw [h_];rfl);obtain rfl:=oj H;go_enter Tryz.func117,Tryz.ntmps117;try go_wp2_with (first|((with_reducible refine gd 3 ?_);(try (refine gate_guard (by rfl) ?_;dsimp only));refine bF w 3 #[.slice A1_0 l1_0.length c1_0,.int .i64 a1_1,.slice A1_2 l1_2.length c1_2,.int .i64 a1_3] 50 ?_;rintro gb606 w11 BK606 GW606 GE606 hb hg;replace HB:=bs HB hb;clear hb hg))
  replace BK606:=dk BK606;have HBo:=HB;replace HB:=db HB;refine sw (ds:=[]) 19 (mb 19 0) impl_CanEnd.tab1 impl_CanEnd.bits1 (h4 BK606) (fun hHeld HT_ HW_=>?_);generalize w11.drew=w12 at BK606 HB hHeld ⊢;refine pz [0,1] ?_;refine oa 2 7 (mb 19 7) HT_ (fun K hK=>?_);refine gA Tryz.func59 #[.slice A0 l0.length c0,.agg #[.slice A1_0 l1_0.length c1_0,.int .i64 a1_1,.slice A1_2 l1_2.length c1_2,.int .i64 a1_3]] ?_;(with_reducible refine (impl_IsControl.calls k _ _ l0 _ _ l1_0 a1_1 _ _ l1_2 a1_3 true _ ?_ ?_ ?_ ?_ ?_ ?_ A3.out).mono ?_);exact cB HR0;exact HC0.out;exact cB HR1_0;exact HC1_0.out;exact cB HR1_2;exact HC1_2.out;rintro e w13 ⟨rfl,hb⟩;refine ⟨_,rfl,?_⟩;replace BK606:=kb BK606 hb;replace HB:=bs HB hb;(try clear hb);refine hK.out _ _ (cn4 BK606) (fun hHeld=>?_);clear hK K;refine nB ?_;refine pz [3,4,5,6,7,8,9,10,11,12,13,14,15,16,17,18] ?_;refine eA HT_ ?_;try go_wp2
  go_ret;exact ⟨rA,bG⟩
 replace c4:=Bool.eq_false_iff.mpr c4;subst c4;rw [if_neg Bool.false_ne_true] at H;obtain rfl:=oj H;go_enter Tryz.func117,Tryz.ntmps117;try go_wp2_with (first|((with_reducible refine gd 3 ?_);(try (refine gate_guard (by rfl) ?_;dsimp only));refine bF w 3 #[.slice A1_0 l1_0.length c1_0,.int .i64 a1_1,.slice A1_2 l1_2.length c1_2,.int .i64 a1_3] 50 ?_;rintro gb606 w14 BK606 GW606 GE606 hb hg;replace HB:=bs HB hb;clear hb hg))
 replace BK606:=dk BK606;have HBo:=HB;replace HB:=db HB;refine sw (ds:=[]) 19 (mb 19 0) impl_CanEnd.tab1 impl_CanEnd.bits1 (h4 BK606) (fun hHeld HT_ HW_=>?_);generalize w14.drew=w15 at BK606 HB hHeld ⊢;refine pz [0,1] ?_;refine oa 2 7 (mb 19 7) HT_ (fun K hK=>?_);refine gA Tryz.func59 #[.slice A0 l0.length c0,.agg #[.slice A1_0 l1_0.length c1_0,.int .i64 a1_1,.slice A1_2 l1_2.length c1_2,.int .i64 a1_3]] ?_;(with_reducible refine (impl_IsControl.calls k _ _ l0 _ _ l1_0 a1_1 _ _ l1_2 a1_3 false _ ?_ ?_ ?_ ?_ ?_ ?_ A3.out).mono ?_);exact cB HR0;exact HC0.out;exact cB HR1_0;exact HC1_0.out;exact cB HR1_2;exact HC1_2.out;rintro e w16 ⟨rfl,hb⟩;refine ⟨_,rfl,?_⟩;replace BK606:=kb BK606 hb;replace HB:=bs HB hb;(try clear hb);refine hK.out _ _ (cn4 BK606) (fun hHeld=>?_);clear hK K;refine nB ?_;refine pz [3,4,5,6,7,8,9,10,11,12,13,14,15,16,17,18] ?_;refine eA HT_ ?_;try go_wp2
 go_ret;exact ⟨rA,bG⟩

/-! ### impl_MustChange: function 85 -/
theorem impl_MustChange.has_loop (l:List Int) (x:Int) (hl:l.length≤9223372036854775807):∀ d i,i + d=l.length→∃ r:Int,slices_Index_int_int.l0 (d + 1) l x (l.length:Int) (i:Int)=some r∧(0≤r↔x∈l.drop i)
 | 0,i,h=>by
  refine ⟨-1,?_,?_⟩
  ·
   rw [slices_Index_int_int.l0,if_neg (by omega)]
  ·
   rw [List.drop_of_length_le (by omega)];simp
 | d + 1,i,h=>by
  have hi:i < l.length:=by omega
  have e:rd l (i:Int)=l[i]:=by unfold rd;simp [List.getD_eq_getElem?_getD,List.getElem?_eq_getElem hi]
  rw [slices_Index_int_int.l0,if_pos (by omega),if_pos (by omega),if_pos (by omega),e,List.drop_eq_getElem_cons hi]
  by_cases c:x=l[i]
  ·
   exact ⟨i,if_pos c,⟨fun _=>by rw [c];exact List.mem_cons_self ..,fun _=>by omega⟩⟩
  ·
   obtain ⟨r,h1,h2⟩:=impl_MustChange.has_loop l x hl d (i + 1) (by omega)
   refine ⟨r,?_,h2.trans ⟨fun hh=>List.mem_cons_of_mem _ hh,fun hh=>(List.mem_cons.1 hh).resolve_left c⟩⟩
   rw [if_neg c,show wrap64 ((i:Int) + 1)=((i + 1:Nat):Int) by unfold wrap64;omega]
   exact h1
theorem impl_MustChange.has (l:List Int) (x:Int) (hl:l.length≤9223372036854775807):slices_Contains_int_int.f (l.length + 1) l x=some (decide (x∈l)):=by
 obtain ⟨r,h1,h2⟩:=impl_MustChange.has_loop l x hl l.length 0 (by omega)
 unfold slices_Contains_int_int.f slices_Index_int_int.f
 have h1:slices_Index_int_int.l0 (l.length + 1) l x (l.length:Int) 0=some r:=h1
 rw [h1,Option.bind_some]
 congr 1
 exact decide_eq_decide.2 (by rw [List.drop_zero] at h2;exact h2)
def impl_MustChange.q (st:List Int) (x:S92):Bool:=decide (x.f0∈st)
set_option maxHeartbeats 400000 in
set_option maxRecDepth 100000 in
theorem impl_MustChange.clo (st:List Int) (g:Nat) (A1:Option Addr) (c1:Nat) (x:S92) (w:World) (hc1:st.length≤c1) (hcr:Kd.C (Kd.int .i64) w A1 st.length st) (hc:w.cell? ⟨g,0,none⟩=some (.slice A1 st.length c1)) :
  Calls Tryz.prog 119 #[.agg #[.int .i64 x.f0,.int .i64 x.f1],.pointer (some ⟨g,0,none⟩)] w fun e w'=>e=.returned (.bool (impl_MustChange.q st x))∧Below w.heap.size w w':=by
 have hu:=Tryz.underlying92
 have hu2:=Tryz.underlying50
 have hg:g < w.heap.size:=World.block_lt_of_cell? w _ hc
 have HI:=Aside0.mk (impl_MustChange.has st x.f0 hcr.2.1)
 have HR:=Aside0.mk hcr
 have HK:=Aside0.mk hc1
 clear hcr hc1
 go_enter Tryz.func119,Tryz.ntmps119
 go_wp2_with (go_at_call 120;refine (slices_Contains_int_int.calls _ _ _ st x.f0 _ _ ?s1 HK.out HI.out).mono ?_;(case s1=>first|exact HR.out|exact Kd.C_alloc HR.out _|exact Kd.C_drew (Kd.C_alloc HR.out _));rintro e w1 ⟨rfl,hb1⟩)
 go_ret
 exact ⟨rfl,below_step (below_alloc (Below.refl _ _) _) hb1.below⟩
def impl_MustChange.ix (st:List Int):List S92→Int→Int
 | [],_=>-1
 | x::l,i=>if impl_MustChange.q st x=true then i else impl_MustChange.ix st l (i + 1)
theorem impl_MustChange.ix_hit (st:List Int):∀ (l:List S92) (i:Int) (m:Nat) (hm:m < l.length),(∀ j (hj:j < m),impl_MustChange.q st (l[j]'(by omega))=false)→impl_MustChange.q st l[m]=true→impl_MustChange.ix st l i=i + m
 | [],i,m,hm,_,_=>absurd hm (by simp)
 | p::l,i,0,hm,_,h=>by
  unfold impl_MustChange.ix
  rw [if_pos (show impl_MustChange.q st p=true from h)]
  simp
 | p::l,i,m + 1,hm,hne,h=>by
  unfold impl_MustChange.ix
  have h2:impl_MustChange.q st p=false:=hne 0 (by omega)
  rw [if_neg (by rw [h2];decide),impl_MustChange.ix_hit st l (i + 1) m (by simpa using hm) (fun j hj=>hne (j + 1) (by omega)) h]
  omega
theorem impl_MustChange.ix_miss (st:List Int):∀ (l:List S92) (i:Int),(∀ j (hj:j < l.length),impl_MustChange.q st l[j]=false)→impl_MustChange.ix st l i=-1
 | [],i,_=>rfl
 | p::l,i,h=>by
  unfold impl_MustChange.ix
  have h2:impl_MustChange.q st p=false:=h 0 (by simp)
  rw [if_neg (by rw [h2];decide),impl_MustChange.ix_miss st l (i + 1) (fun j hj=>h (j + 1) (by simpa using hj))]
theorem impl_MustChange.rd_ (l:List S92) (j:Nat) (hj:j < l.length):rd_T92 l (j:Int)=l[j]:=by
 unfold rd_T92;simp [List.getD_eq_getElem?_getD,List.getElem?_eq_getElem hj]
set_option maxHeartbeats 4000000 in
set_option maxRecDepth 100000 in
theorem impl_MustChange.idx (st:List Int) (g:Nat) (A0:Option Addr) (c0:Nat) (l0:List S92) (w:World) (hr0:Kd.C k92 w A0 l0.length l0) (hc0:l0.length≤c0) (A1:Option Addr) (c1:Nat) (hc1:st.length≤c1) (hcr:Kd.C (Kd.int .i64) w A1 st.length st) (hc:w.cell? ⟨g,0,none⟩=some (.slice A1 st.length c1)) :
  Calls Tryz.prog 142 #[.slice A0 l0.length c0,.func (.func 119) #[] #[.pointer (some ⟨g,0,none⟩)]] w fun e w'=>e=.returned (.int .i64 (impl_MustChange.ix st l0 0))∧Below w.heap.size w w':=by
 have hu:=Tryz.underlying92
 have HC:=Aside0.mk hc
 have HCR:=Aside0.mk hcr
 have HK1:=Aside0.mk hc1
 clear hc hcr hc1
 have HR0:=Aside0.mk hr0
 have HC0:=Aside0.mk hc0
 have hlen:l0.length≤9223372036854775807:=hr0.2.1
 clear hr0 hc0
 have HB:=Aside0.mk (Below.refl w.heap.size w)
 go_enter Tryz.func142,Tryz.ntmps142
 go_wp2
 go_loopg [5,8] l0.length (fun gg v5 v8 w'=>∃ kk:Nat,v8=.int .i64 kk∧Aside0 (kk≤l0.length)∧Aside0 (l0.length - kk≤gg)∧Aside0 (Below w.heap.size w w')∧Aside0 (∀ j (hj:j < kk) (hl:j < l0.length),impl_MustChange.q st l0[j]=false))
 case atStart=>exact ⟨0,rfl,⟨Nat.zero_le _⟩,⟨by omega⟩,HB,⟨fun j hj=>absurd hj (Nat.not_lt_zero _)⟩⟩
 case round =>
  clear HB
  obtain ⟨kk,rfl,hk,hg,HB,HA⟩:=hrel
  by_cases hlt:kk < l0.length
  ·
   have hltz:decide ((kk:Int) < (l0.length:Int))=true:=decide_eq_true (by omega)
   have hltn:decide (kk < l0.length)=true:=decide_eq_true hlt
   have p0:(0:Int)≤(kk:Int):=by omega
   have q0:(kk:Int) < (l0.length:Int):=by omega
   have HE:=Aside0.mk (impl_MustChange.rd_ l0 kk hlt)
   obtain ⟨ad,e1,hx0,hx1⟩:=at_T92 HR0.out (kk:Int) p0 q0
   cases e1
   rw [Int.toNat_natCast] at hx0 hx1
   replace hx0:=hC HB hx0
   replace hx1:=hC HB hx1
   replace p0:=eq_true p0
   replace q0:=eq_true q0
   have hcl:=fun (w':World) (hb:Below w.heap.size w w')=>impl_MustChange.clo st g A1 c1 (rd_T92 l0 (kk:Int)) w' HK1.out (Kd.C_below HCR.out hb) ((hb.cell (World.block_lt_of_cell? w _ HC.out)).trans HC.out)
   cases hq:impl_MustChange.q st (rd_T92 l0 (kk:Int)) with
   | true =>
    rw [hq] at hcl
    have HCL:=Aside0.mk hcl
    have HQ:=Aside0.mk hq
    clear hcl hq
    go_wp2_with (go_at_call 119;refine (HCL.out _ HB.out).mono ?_;rintro e w1 ⟨rfl,hb1⟩)
    go_ret
    refine ⟨?_,below_step HB.out hb1⟩
    have hq:=HQ.out
    rw [HE.out] at hq
    rw [impl_MustChange.ix_hit st l0 0 kk hlt (fun j hj=>HA.out j hj (by omega)) hq,Int.zero_add]
    rfl
   | false =>
    rw [hq] at hcl
    have HCL:=Aside0.mk hcl
    have HQ:=Aside0.mk hq
    clear hcl hq
    go_wp2_with (go_at_call 119;refine (HCL.out _ HB.out).mono ?_;rintro e w1 ⟨rfl,hb1⟩)
    go_roundg (l0.length - (kk + 1))
    case measure=>have:=hg.out;omega
    case rel =>
     refine ⟨kk + 1,by go_num,⟨by omega⟩,⟨by omega⟩,⟨below_step HB.out hb1⟩,⟨fun j hj hl=>?_⟩⟩
     rcases Nat.lt_or_ge j kk with h3|h3
     ·
      exact HA.out j h3 hl
     ·
      have h4:j=kk:=by omega
      subst h4
      rw [← HE.out]
      exact HQ.out
  ·
   have hge:decide ((kk:Int) < (l0.length:Int))=false:=decide_eq_false (by omega)
   have hgen:decide (kk < l0.length)=false:=decide_eq_false hlt
   go_wp2
   go_ret
   refine ⟨?_,HB.out⟩
   rw [impl_MustChange.ix_miss st l0 0 (fun j hj=>HA.out j (by omega) hj)]
   rfl
set_option maxHeartbeats 400000 in
set_option maxRecDepth 100000 in
theorem impl_MustChange.cont (st:List Int) (g:Nat) (A0:Option Addr) (c0:Nat) (l0:List S92) (w:World) (hr0:Kd.C k92 w A0 l0.length l0) (hc0:l0.length≤c0) (A1:Option Addr) (c1:Nat) (hc1:st.length≤c1) (hcr:Kd.C (Kd.int .i64) w A1 st.length st) (hc:w.cell? ⟨g,0,none⟩=some (.slice A1 st.length c1)) :
  Calls Tryz.prog 118 #[.slice A0 l0.length c0,.func (.func 119) #[] #[.pointer (some ⟨g,0,none⟩)]] w fun e w'=>e=.returned (.bool (decide (0≤impl_MustChange.ix st l0 0)))∧Below w.heap.size w w':=by
 have HR0:=Aside0.mk hr0
 have HC0:=Aside0.mk hc0
 have HC:=Aside0.mk hc
 have HCR:=Aside0.mk hcr
 have HK:=Aside0.mk hc1
 clear hr0 hc0 hc hcr hc1
 go_enter Tryz.func118,Tryz.ntmps118
 go_wp2_with (go_at_call 142;refine (impl_MustChange.idx st g A0 c0 l0 _ HR0.out HC0.out A1 c1 HK.out HCR.out HC.out).mono ?_;rintro e w1 ⟨rfl,hb1⟩)
 go_ret
 exact ⟨rfl,hb1⟩
def impl_MustChange.f (k:Nat) (l0:List S69) (l1_0:List Int) (a1_1:Int) (l1_2:List Int) (a1_3:Int) (l2:List S92):Option Bool :=
 (impl_CanEnd.f k l0 l1_0 a1_1 l1_2 a1_3).bind fun a=>if a=true then ((impl_NextStage.f k l0 l1_0 a1_1 l1_2 a1_3 l2).bind fun s=>if s.length=0 then some false else (if 60≤a1_1 then some true else some (!decide (0≤impl_MustChange.ix l1_0 l2 0)))) else some false
theorem impl_MustChange.mono:∀ a0 a1 a2 a3 a4 a5 k,LeO (impl_MustChange.f k a0 a1 a2 a3 a4 a5) (impl_MustChange.f (k + 1) a0 a1 a2 a3 a4 a5):=by
 intro a0 a1 a2 a3 a4 a5 k
 unfold impl_MustChange.f
 exact LeO.bind (impl_CanEnd.mono _ _ _ _ _ _) (fun _=>LeO.ite (LeO.bind (impl_NextStage.mono _ _ _ _ _ _ _) (fun _=>LeO.refl _)) (LeO.refl _))
set_option maxHeartbeats 4000000 in
set_option maxRecDepth 100000 in
theorem impl_MustChange.calls (k:Nat) (A0:Option Addr) (c0:Nat) (l0:List S69) (A1_0:Option Addr) (c1_0:Nat) (l1_0:List Int) (a1_1:Int) (A1_2:Option Addr) (c1_2:Nat) (l1_2:List Int) (a1_3:Int) (A2:Option Addr) (c2:Nat) (l2:List S92) (r:Bool) (w:World) (hr0:Kd.C k69 w A0 l0.length l0) (hc0:l0.length≤c0) (hr1_0:Kd.C (Kd.int .i64) w A1_0 l1_0.length l1_0) (hc1_0:l1_0.length≤c1_0) (hr1_2:Kd.C (Kd.int .i64) w A1_2 l1_2.length l1_2) (hc1_2:l1_2.length≤c1_2) (hr2:Kd.C k92 w A2 l2.length l2) (hc2:l2.length≤c2) (h:impl_MustChange.f k l0 l1_0 a1_1 l1_2 a1_3 l2=some r) :
  Calls Tryz.prog 85 #[.slice A0 l0.length c0,.agg #[.slice A1_0 l1_0.length c1_0,.int .i64 a1_1,.slice A1_2 l1_2.length c1_2,.int .i64 a1_3],.slice A2 l2.length c2] w fun e w'=>e=.returned (.bool r)∧Below w.heap.size w w':=by
 have hu:=Tryz.underlying50
 have HR0:=Aside0.mk hr0
 have HC0:=Aside0.mk hc0
 have HR1:=Aside0.mk hr1_0
 have HC1:=Aside0.mk hc1_0
 have HR3:=Aside0.mk hr1_2
 have HC3:=Aside0.mk hc1_2
 have HR2:=Aside0.mk hr2
 have HC2:=Aside0.mk hc2
 clear hr0 hc0 hr1_0 hc1_0 hr1_2 hc1_2 hr2 hc2
 unfold impl_MustChange.f at h
 obtain ⟨a,ha,h⟩:=Option.bind_eq_some_iff.1 h
 have HA:=Aside0.mk ha
 clear ha
 cases a with
 | false =>
  rw [if_neg (by decide)] at h
  obtain rfl:=Option.some.inj h
  clear h
  go_enter Tryz.func85,Tryz.ntmps85
  go_wp2_with (go_at_call 117;refine (impl_CanEnd.calls k A0 c0 l0 A1_0 c1_0 l1_0 a1_1 A1_2 c1_2 l1_2 a1_3 _ _ (Kd.C_alloc HR0.out _) HC0.out (Kd.C_alloc HR1.out _) HC1.out (Kd.C_alloc HR3.out _) HC3.out HA.out).mono ?_;rintro e w1 ⟨rfl,hb1⟩;have y10:w1.cell? ⟨w.heap.size,0,none⟩=some (.slice A1_0 l1_0.length c1_0):=(by rw [hb1.cell (by simp)];(try simp));have y11:w1.cell? ⟨w.heap.size,1,none⟩=some (.int .i64 a1_1):=(by rw [hb1.cell (by simp)];(try simp));have y12:w1.cell? ⟨w.heap.size,2,none⟩=some (.slice A1_2 l1_2.length c1_2):=(by rw [hb1.cell (by simp)];(try simp));have y13:w1.cell? ⟨w.heap.size,3,none⟩=some (.int .i64 a1_3):=(by rw [hb1.cell (by simp)];(try simp));have B1:=Aside0.mk (below_step (below_alloc (Below.refl w.heap.size w) _) hb1);clear hb1)
  go_ret
  exact ⟨rfl,B1.out⟩
 | true =>
  rw [if_pos rfl] at h
  obtain ⟨s,hs,h⟩:=Option.bind_eq_some_iff.1 h
  have HS:=Aside0.mk hs
  clear hs
  by_cases hz:s.length=0
  ·
   rw [if_pos hz] at h
   obtain rfl:=Option.some.inj h
   clear h
   have hz0:(s.length:Int)=0:=by omega
   have hz1:((s.length:Int) == 0)=true:=by rw [hz0];rfl
   go_enter Tryz.func85,Tryz.ntmps85
   go_wp2_with (first|(go_at_call 117;refine (impl_CanEnd.calls k A0 c0 l0 A1_0 c1_0 l1_0 a1_1 A1_2 c1_2 l1_2 a1_3 _ _ (Kd.C_alloc HR0.out _) HC0.out (Kd.C_alloc HR1.out _) HC1.out (Kd.C_alloc HR3.out _) HC3.out HA.out).mono ?_;rintro e w1 ⟨rfl,hb1⟩;have y10:w1.cell? ⟨w.heap.size,0,none⟩=some (.slice A1_0 l1_0.length c1_0):=(by rw [hb1.cell (by simp)];(try simp));have y11:w1.cell? ⟨w.heap.size,1,none⟩=some (.int .i64 a1_1):=(by rw [hb1.cell (by simp)];(try simp));have y12:w1.cell? ⟨w.heap.size,2,none⟩=some (.slice A1_2 l1_2.length c1_2):=(by rw [hb1.cell (by simp)];(try simp));have y13:w1.cell? ⟨w.heap.size,3,none⟩=some (.int .i64 a1_3):=(by rw [hb1.cell (by simp)];(try simp));have B1:=Aside0.mk (below_step (below_alloc (Below.refl w.heap.size w) _) hb1);clear hb1)|(go_at_call 87;refine (impl_NextStage.calls k A0 c0 l0 A1_0 c1_0 l1_0 a1_1 A1_2 c1_2 l1_2 a1_3 A2 c2 l2 s _ (Kd.C_below HR0.out B1.out) HC0.out (Kd.C_below HR1.out B1.out) HC1.out (Kd.C_below HR3.out B1.out) HC3.out (Kd.C_below HR2.out B1.out) HC2.out HS.out).mono ?_;rintro e w2 ⟨v2,rfl,ho2,hb2⟩;obtain ⟨Ao,co,eo⟩:=Kd.R_slice ho2;subst eo;clear ho2;have y20:w2.cell? ⟨w.heap.size,0,none⟩=some (.slice A1_0 l1_0.length c1_0):=(by rw [hb2.cell (by have:=B1.out.size;have:=World.block_lt_of_cell? _ _ y10;show w.heap.size < _;omega)];(try exact y10));have y21:w2.cell? ⟨w.heap.size,1,none⟩=some (.int .i64 a1_1):=(by rw [hb2.cell (by have:=B1.out.size;have:=World.block_lt_of_cell? _ _ y10;show w.heap.size < _;omega)];(try exact y11));have y22:w2.cell? ⟨w.heap.size,2,none⟩=some (.slice A1_2 l1_2.length c1_2):=(by rw [hb2.cell (by have:=B1.out.size;have:=World.block_lt_of_cell? _ _ y10;show w.heap.size < _;omega)];(try exact y12));have y23:w2.cell? ⟨w.heap.size,3,none⟩=some (.int .i64 a1_3):=(by rw [hb2.cell (by have:=B1.out.size;have:=World.block_lt_of_cell? _ _ y10;show w.heap.size < _;omega)];(try exact y13));have B2:=Aside0.mk (below_step B1.out hb2);clear hb2 y10 y11 y12 y13))
   go_ret
   exact ⟨rfl,B2.out⟩
  ·
   rw [if_neg hz] at h
   have hz1:((s.length:Int) == 0)=false:=by simpa using hz
   by_cases hm:60≤a1_1
   ·
    rw [if_pos hm] at h
    obtain rfl:=Option.some.inj h
    have hmd:decide ((60:Int)≤a1_1)=true:=decide_eq_true hm
    clear h hm
    go_enter Tryz.func85,Tryz.ntmps85
    go_wp2_with (first|(go_at_call 117;refine (impl_CanEnd.calls k A0 c0 l0 A1_0 c1_0 l1_0 a1_1 A1_2 c1_2 l1_2 a1_3 _ _ (Kd.C_alloc HR0.out _) HC0.out (Kd.C_alloc HR1.out _) HC1.out (Kd.C_alloc HR3.out _) HC3.out HA.out).mono ?_;rintro e w1 ⟨rfl,hb1⟩;have y10:w1.cell? ⟨w.heap.size,0,none⟩=some (.slice A1_0 l1_0.length c1_0):=(by rw [hb1.cell (by simp)];(try simp));have y11:w1.cell? ⟨w.heap.size,1,none⟩=some (.int .i64 a1_1):=(by rw [hb1.cell (by simp)];(try simp));have y12:w1.cell? ⟨w.heap.size,2,none⟩=some (.slice A1_2 l1_2.length c1_2):=(by rw [hb1.cell (by simp)];(try simp));have y13:w1.cell? ⟨w.heap.size,3,none⟩=some (.int .i64 a1_3):=(by rw [hb1.cell (by simp)];(try simp));have B1:=Aside0.mk (below_step (below_alloc (Below.refl w.heap.size w) _) hb1);clear hb1)|(go_at_call 87;refine (impl_NextStage.calls k A0 c0 l0 A1_0 c1_0 l1_0 a1_1 A1_2 c1_2 l1_2 a1_3 A2 c2 l2 s _ (Kd.C_below HR0.out B1.out) HC0.out (Kd.C_below HR1.out B1.out) HC1.out (Kd.C_below HR3.out B1.out) HC3.out (Kd.C_below HR2.out B1.out) HC2.out HS.out).mono ?_;rintro e w2 ⟨v2,rfl,ho2,hb2⟩;obtain ⟨Ao,co,eo⟩:=Kd.R_slice ho2;subst eo;clear ho2;have y20:w2.cell? ⟨w.heap.size,0,none⟩=some (.slice A1_0 l1_0.length c1_0):=(by rw [hb2.cell (by have:=B1.out.size;have:=World.block_lt_of_cell? _ _ y10;show w.heap.size < _;omega)];(try exact y10));have y21:w2.cell? ⟨w.heap.size,1,none⟩=some (.int .i64 a1_1):=(by rw [hb2.cell (by have:=B1.out.size;have:=World.block_lt_of_cell? _ _ y10;show w.heap.size < _;omega)];(try exact y11));have y22:w2.cell? ⟨w.heap.size,2,none⟩=some (.slice A1_2 l1_2.length c1_2):=(by rw [hb2.cell (by have:=B1.out.size;have:=World.block_lt_of_cell? _ _ y10;show w.heap.size < _;omega)];(try exact y12));have y23:w2.cell? ⟨w.heap.size,3,none⟩=some (.int .i64 a1_3):=(by rw [hb2.cell (by have:=B1.out.size;have:=World.block_lt_of_cell? _ _ y10;show w.heap.size < _;omega)];(try exact y13));have B2:=Aside0.mk (below_step B1.out hb2);clear hb2 y10 y11 y12 y13))
    go_ret
    exact ⟨rfl,B2.out⟩
   ·
    rw [if_neg hm] at h
    obtain rfl:=Option.some.inj h
    have hmd:decide ((60:Int)≤a1_1)=false:=decide_eq_false hm
    clear h hm
    go_enter Tryz.func85,Tryz.ntmps85
    go_wp2_with (first|(go_at_call 117;refine (impl_CanEnd.calls k A0 c0 l0 A1_0 c1_0 l1_0 a1_1 A1_2 c1_2 l1_2 a1_3 _ _ (Kd.C_alloc HR0.out _) HC0.out (Kd.C_alloc HR1.out _) HC1.out (Kd.C_alloc HR3.out _) HC3.out HA.out).mono ?_;rintro e w1 ⟨rfl,hb1⟩;have y10:w1.cell? ⟨w.heap.size,0,none⟩=some (.slice A1_0 l1_0.length c1_0):=(by rw [hb1.cell (by simp)];(try simp));have y11:w1.cell? ⟨w.heap.size,1,none⟩=some (.int .i64 a1_1):=(by rw [hb1.cell (by simp)];(try simp));have y12:w1.cell? ⟨w.heap.size,2,none⟩=some (.slice A1_2 l1_2.length c1_2):=(by rw [hb1.cell (by simp)];(try simp));have y13:w1.cell? ⟨w.heap.size,3,none⟩=some (.int .i64 a1_3):=(by rw [hb1.cell (by simp)];(try simp));have B1:=Aside0.mk (below_step (below_alloc (Below.refl w.heap.size w) _) hb1);clear hb1)|(go_at_call 87;refine (impl_NextStage.calls k A0 c0 l0 A1_0 c1_0 l1_0 a1_1 A1_2 c1_2 l1_2 a1_3 A2 c2 l2 s _ (Kd.C_below HR0.out B1.out) HC0.out (Kd.C_below HR1.out B1.out) HC1.out (Kd.C_below HR3.out B1.out) HC3.out (Kd.C_below HR2.out B1.out) HC2.out HS.out).mono ?_;rintro e w2 ⟨v2,rfl,ho2,hb2⟩;obtain ⟨Ao,co,eo⟩:=Kd.R_slice ho2;subst eo;clear ho2;have y20:w2.cell? ⟨w.heap.size,0,none⟩=some (.slice A1_0 l1_0.length c1_0):=(by rw [hb2.cell (by have:=B1.out.size;have:=World.block_lt_of_cell? _ _ y10;show w.heap.size < _;omega)];(try exact y10));have y21:w2.cell? ⟨w.heap.size,1,none⟩=some (.int .i64 a1_1):=(by rw [hb2.cell (by have:=B1.out.size;have:=World.block_lt_of_cell? _ _ y10;show w.heap.size < _;omega)];(try exact y11));have y22:w2.cell? ⟨w.heap.size,2,none⟩=some (.slice A1_2 l1_2.length c1_2):=(by rw [hb2.cell (by have:=B1.out.size;have:=World.block_lt_of_cell? _ _ y10;show w.heap.size < _;omega)];(try exact y12));have y23:w2.cell? ⟨w.heap.size,3,none⟩=some (.int .i64 a1_3):=(by rw [hb2.cell (by have:=B1.out.size;have:=World.block_lt_of_cell? _ _ y10;show w.heap.size < _;omega)];(try exact y13));have B2:=Aside0.mk (below_step B1.out hb2);clear hb2 y10 y11 y12 y13)|(go_at_call 118;refine (impl_MustChange.cont l1_0 w.heap.size A2 c2 l2 _ (Kd.C_below HR2.out B2.out) HC2.out A1_0 c1_0 HC1.out (Kd.C_below HR1.out B2.out) y20).mono ?_;rintro e w3 ⟨rfl,hb3⟩;have B3:=Aside0.mk (below_step B2.out hb3);clear hb3))
    go_ret
    exact ⟨rfl,B3.out⟩

/-! ### slices_Equal_int_int: function 121 -/
def slices_Equal_int_int.l0:Nat→List Int→List Int→Int→Int→Option (Bool)
 | 0,_,_,_,_=>none
 | k + 1,x0,x1,x12,x13=>if x13 < x12 then (if 0≤x13 then (if x13 < (x0.length:Int) then (if x13 < (x1.length:Int) then (if (rd x0 x13)=(rd x1 x13) then (slices_Equal_int_int.l0 k x0 x1 x12 (wrap64 (x13 + 1))) else (some false)) else (none)) else (none)) else (none)) else (some true)
def slices_Equal_int_int.f (k:Nat) (l0:List Int) (l1:List Int):Option (Bool):=if (l0.length:Int)=(l1.length:Int) then (slices_Equal_int_int.l0 k l0 l1 (l0.length:Int) 0) else (some false)
theorem slices_Equal_int_int.mono_l:∀ k,(∀ y0 y1 y2 y3,LeO (slices_Equal_int_int.l0 k y0 y1 y2 y3) (slices_Equal_int_int.l0 (k + 1) y0 y1 y2 y3))
 | 0=>fun _ _ _ _ r h=>by simp [slices_Equal_int_int.l0] at h
 | k + 1=>by
  have ih0:=slices_Equal_int_int.mono_l k
  ·intro y0 y1 y2 y3;unfold slices_Equal_int_int.l0;exact mz1 ih0
theorem slices_Equal_int_int.mono:∀ a0 a1 k,LeO (slices_Equal_int_int.f k a0 a1) (slices_Equal_int_int.f (k + 1) a0 a1):=by
 intro a0 a1 k;have ih0:=slices_Equal_int_int.mono_l k;unfold slices_Equal_int_int.f;exact mz1 ih0
set_option maxHeartbeats 8000000 in
set_option maxRecDepth 100000 in
theorem slices_Equal_int_int.calls (k:Nat) (A0:Option Addr) (c0:Nat) (l0:List Int) (A1:Option Addr) (c1:Nat) (l1:List Int) (r:Bool) (w:World) (hr0:Kd.C (Kd.int .i64) w A0 l0.length l0) (hc0:l0.length≤c0) (hr1:Kd.C (Kd.int .i64) w A1 l1.length l1) (hc1:l1.length≤c1) (h:slices_Equal_int_int.f k l0 l1=some r) :
  Calls Tryz.prog 121 #[.slice A0 l0.length c0,.slice A1 l1.length c1] w fun e w'=>e=.returned (.bool r)∧Drawn0 w w':=by
 have HR0:=am hr0;have HC0:=am hc0;clear hr0 hc0;have HR1:=am hr1;have HC1:=am hc1;clear hr1 hc1;unfold slices_Equal_int_int.f at h;have H:=h;clear h;by_cases c3:(l0.length:Int)=(l1.length:Int)
 ·rw [if_pos c3] at H;obtain ⟨c3b0,c3b1⟩:=eI c3;have c3b2:(l0.length == l1.length)=true:=by first|simpa using c3|(simp at c3 ⊢;omega)
  clear c3;have H':=am H;clear H;go_enter Tryz.func121,Tryz.ntmps121;go_wp2;repeat (go_quiet (fail);try go_wp2)
  go_loopg [13] k (fun kq v13 w'=>∃ (x13_1:Int),v13=.int .i64 x13_1∧Aside0 (slices_Equal_int_int.l0 kq l0 l1 (l0.length:Int) x13_1=some r)∧Aside0 (kq≤k)∧Drawn0 w w')
  case atStart=>exact ⟨(0),rS,H',⟨Nat.le_refl _⟩,by repeat (first|exact Drawn0.refl _|apply Drawn0.step)⟩
  case round =>
   clear H';obtain ⟨x13_1,rfl,HA,HK1,⟨m1,rfl⟩⟩:=hrel
   cases gk with
   | zero=>exact absurd HA.out (by simp [slices_Equal_int_int.l0])
   | succ k1 =>
    have H:=HA.out;clear HA;simp only [slices_Equal_int_int.l0] at H;by_cases c4:x13_1 < (l0.length:Int)
    ·rw [if_pos c4] at H;have c4b0:=dt c4;clear c4;have c5b0:=ifC H;replace H:=ifT H;have c6b0:=ifC H;replace H:=ifT H;have c7b0:=ifC H;replace H:=ifT H;by_cases c8:(rd l0 x13_1)=(rd l1 x13_1)
     ·rw [if_pos c8] at H;obtain ⟨c8b0,c8b1⟩:=eI c8;clear c8;have H':=am H;clear H;obtain ⟨p609,q609⟩:=pq x13_1 l0;obtain ⟨ad609,e609,hx609_0⟩:=Kd.at_int HR0.out x13_1 p609 q609;cases e609;obtain ⟨p609,q609⟩:=eT p609 q609;obtain ⟨p610,q610⟩:=pq x13_1 l1;obtain ⟨ad610,e610,hx610_0⟩:=Kd.at_int HR1.out x13_1 p610 q610;cases e610;obtain ⟨p610,q610⟩:=eT p610 q610;go_wp2;repeat (go_quiet (fail);try go_wp2)
      go_roundg k1
      case measure=>have:=HK1.out;omega
      case rel=>exact ⟨(wrap64 (x13_1 + 1)),rS,H',⟨by have:=HK1.out;omega⟩,by repeat (first|exact Drawn0.refl _|apply Drawn0.step)⟩
     rw [if_neg c8] at H;obtain ⟨c8b0,c8b1⟩:=nI c8;obtain rfl:=oj H;obtain ⟨p609,q609⟩:=pq x13_1 l0;obtain ⟨ad609,e609,hx609_0⟩:=Kd.at_int HR0.out x13_1 p609 q609;cases e609;obtain ⟨p609,q609⟩:=eT p609 q609;obtain ⟨p610,q610⟩:=pq x13_1 l1;obtain ⟨ad610,e610,hx610_0⟩:=Kd.at_int HR1.out x13_1 p610 q610;cases e610;obtain ⟨p610,q610⟩:=eT p610 q610;go_wp2;repeat (go_quiet (fail);try go_wp2)
     go_ret;exact ⟨rS,dD⟩
    rw [if_neg c4] at H;have c4b0:=df c4;clear c4;obtain rfl:=oj H;go_wp2;repeat (go_quiet (fail);try go_wp2)
    go_ret;exact ⟨rS,dD⟩
 rw [if_neg c3] at H;obtain ⟨c3b0,c3b1⟩:=nI c3;have c3b2:(l0.length == l1.length)=false:=by first|simpa using c3|(simp at c3 ⊢;omega)
 obtain rfl:=oj H;go_enter Tryz.func121,Tryz.ntmps121;go_wp2;repeat (go_quiet (fail);try go_wp2)
 go_ret;exact ⟨rS,dD⟩

end Go.Proofs.YtdkmmefmhfbgkaaGreat.P
