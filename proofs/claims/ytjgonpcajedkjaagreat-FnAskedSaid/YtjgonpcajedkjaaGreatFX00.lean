/- Printed by myprint.py (wip/tools) over the kit's print: what Go's functions compute, and that they do. Lean checks it. -/
import Derived.Test.YtjgonpcajedkjaaGreatF0
namespace Go.Proofs.YtjgonpcajedkjaaGreat.P
open Go.RowKit Go.Proofs.YtjgonpcajedkjaaGreatW.PrintWords Go.Proofs.YtjgonpcajedkjaaGreatW.PrintLast Go.Proofs.YtjgonpcajedkjaaGreatW.PrintMore Go.Proofs.YtjgonpcajedkjaaGreat.Sq
attribute [local go_sem] max2_int min2_int max_two min_two max_three min_three max_four min_four
set_option linter.unusedVariables false
set_option linter.unusedSimpArgs false

/-! ### laws_big: function 4 -/
def laws_big.f (l0:List Int):Option (Bool):=some (decide ((l0.length:Int) > 1048576))
set_option maxHeartbeats 8000000 in
set_option maxRecDepth 100000 in
theorem laws_big.calls (A0:Option Addr) (c0:Nat) (l0:List Int) (r:Bool) (w:World) (hr0:Kd.C (Kd.int .u8) w A0 l0.length l0) (hc0:l0.length≤c0) (h:laws_big.f l0=some r) :
  Calls Tryz.prog 4 #[.slice A0 l0.length c0] w fun e w'=>e=.returned (.bool r)∧Drawn0 w w':=by
 have HR0:=am hr0;have HC0:=am hc0;clear hr0 hc0;unfold laws_big.f at h;have H:=h;clear h;obtain rfl:=oj H;go_enter Tryz.func4,Tryz.ntmps4;go_wp2;go_ret;exact ⟨rS,dD⟩

/-- A state of type 83 at block g of W; what its slices lead to came in by w0. -/
def IsS83 (w0 W:World) (g:Nat) (f0:List Int) (f1:Int) (f2:Int):Prop:=∃ A0 c0,W.heap[g]?=some (.cells #[.slice A0 f0.length c0,.int .i64 f1,.int .i64 f2] 83 (0,0))∧w0.heap.size≤g∧Kd.C (Kd.int .u8) w0 A0 f0.length f0
theorem IsS83.grown {w0 W:World} {g:Nat} {f0:List Int} {f1:Int} {f2:Int} {W1:World} {row:Option Nat} (h:IsS83 w0 W g f0 f1 f2) (hw:W.grownBy W1 row) (hne:some g≠row):IsS83 w0 W1 g f0 f1 f2:=by
 obtain ⟨A0,c0,hb,hg,hr0⟩:=h;exact ⟨A0,c0,blk_grown hb hw hne,hg,hr0⟩
theorem IsS83.kept {w0 W:World} {g:Nat} {f0:List Int} {f1:Int} {f2:Int} {W1:World} {S:Nat→Prop} (h:IsS83 w0 W g f0 f1 f2) (hk:Kept W W1 S) (hne:¬ S g):IsS83 w0 W1 g f0 f1 f2:=by
 obtain ⟨A0,c0,hb,hg,hr0⟩:=h;exact ⟨A0,c0,blk_kept hb hk hne,hg,hr0⟩
theorem IsS83.below {w0 W:World} {g:Nat} {f0:List Int} {f1:Int} {f2:Int} {W1:World} (h:IsS83 w0 W g f0 f1 f2) (hw:Below W.heap.size W W1):IsS83 w0 W1 g f0 f1 f2:=h.grown (grown_of_below hw none) (by simp)
theorem IsS83.alloc {w0 W:World} {g:Nat} {f0:List Int} {f1:Int} {f2:Int} (h:IsS83 w0 W g f0 f1 f2) (o:Obj):IsS83 w0 (W.alloc o) g f0 f1 f2:=h.below (below_alloc (Below.refl _ _) o)
theorem IsS83.drewN {w0 W:World} {g:Nat} {f0:List Int} {f1:Int} {f2:Int} (h:IsS83 w0 W g f0 f1 f2) (m:Nat):IsS83 w0 (W.drewN m) g f0 f1 f2:=h
theorem IsS83.drew {w0 W:World} {g:Nat} {f0:List Int} {f1:Int} {f2:Int} (h:IsS83 w0 W g f0 f1 f2):IsS83 w0 W.drew g f0 f1 f2:=h
theorem IsS83.at_ {w0 W:World} {g:Nat} {f0:List Int} {f1:Int} {f2:Int} {w':World} {m:Nat} (hq:W.drewN m=w') (h:IsS83 w0 W g f0 f1 f2):IsS83 w0 w' g f0 f1 f2:=by subst hq;exact IsS83.drewN h m
theorem IsS83.apart {w0 W:World} {g:Nat} {f0:List Int} {f1:Int} {f2:Int} {α:Type} {d:Kd α} {e:Nat} {base:Nat} {ok:Nat→Prop} {v:Value} {xs:List α} (h:IsS83 w0 W g f0 f1 f2) (ho:d.R e W base ok v xs) (ht:∀ q,q∈e::d.E→q≠83):d.R e W base (fun k=>ok k∧k≠g) v xs:=by
 obtain ⟨A0,c0,hb,hg,hr0⟩:=h;exact Kd.R_types ho hb ht
theorem IsS83.own_ne {w0 W:World} {g:Nat} {f0:List Int} {f1:Int} {f2:Int} {α:Type} {d:Kd α} {e:Nat} {base:Nat} {ok:Nat→Prop} {v:Value} {xs:List α} (h:IsS83 w0 W g f0 f1 f2) (ho:d.R e W base ok v xs) (ht:e≠83):some g≠v.ownBlock:=by
 obtain ⟨A0,c0,hb,hg,hr0⟩:=h;exact Kd.R_ne ho hb ht
theorem IsS83.apartS {w0 W:World} {g:Nat} {f0:List Int} {f1:Int} {f2:Int} {α:Type} {d:Kd α} {e:Nat} {base:Nat} {ok:Nat→Prop} {v:Value} {xs:List α} (h:IsS83 w0 W g f0 f1 f2) (ho:d.S e W base ok v xs) (ht:∀ q,q∈e::d.E→q≠83):d.S e W base (fun k=>ok k∧k≠g) v xs:=by
 obtain ⟨A0,c0,hb,hg,hr0⟩:=h;exact Kd.S_types ho hb ht
theorem IsS83.own_neS {w0 W:World} {g:Nat} {f0:List Int} {f1:Int} {f2:Int} {α:Type} {d:Kd α} {e:Nat} {base:Nat} {ok:Nat→Prop} {v:Value} {xs:List α} (h:IsS83 w0 W g f0 f1 f2) (ho:d.S e W base ok v xs) (ht:e≠83):some g≠v.ownBlock:=by
 obtain ⟨A0,c0,hb,hg,hr0⟩:=h;exact Kd.S_ne ho hb ht
theorem IsS83.lt {w0 W:World} {g:Nat} {f0:List Int} {f1:Int} {f2:Int} (h:IsS83 w0 W g f0 f1 f2):g < W.heap.size:=by
 obtain ⟨A0,c0,hb,hg,hr0⟩:=h;exact blk_lt hb
theorem IsS83.ge {w0 W:World} {g:Nat} {f0:List Int} {f1:Int} {f2:Int} (h:IsS83 w0 W g f0 f1 f2):w0.heap.size≤g:=by
 obtain ⟨A0,c0,hb,hg,hr0⟩:=h;exact hg
theorem IsS83.ne_blk {w0 W:World} {g:Nat} {f0:List Int} {f1:Int} {f2:Int} {a:Nat} {cs:Array Value} {t:TypeId} {fr:Nat × Nat} (h:IsS83 w0 W g f0 f1 f2) (hb2:W.heap[a]?=some (.cells cs t fr)) (ht:t≠83):g≠a:=by
 obtain ⟨A0,c0,hb,hg,hr0⟩:=h;rintro rfl;rw [hb] at hb2;injection hb2 with hb2;injection hb2 with _ ht2;exact ht ht2.symm
theorem IsS83.far {w0 W:World} {g:Nat} {f0:List Int} {f1:Int} {f2:Int} {p:Addr} (h:IsS83 w0 W g f0 f1 f2) (hne:g≠p.block) (u:Value):IsS83 w0 (W.setCell p u) g f0 f1 f2:=by
 obtain ⟨A0,c0,hb,hg,hr0⟩:=h;exact ⟨A0,c0,blk_far hb hne u,hg,hr0⟩
theorem cellS83_0 {W:World} {g:Nat} {A0:Option Addr} {c0:Nat} {f0:List Int} {f1:Int} {f2:Int} (h:W.heap[g]?=some (.cells #[.slice A0 f0.length c0,.int .i64 f1,.int .i64 f2] 83 (0,0))):W.cell? ⟨g,0,none⟩=some (.slice A0 f0.length c0):=(blk_cell h 0).trans rfl
theorem cellS83_1 {W:World} {g:Nat} {A0:Option Addr} {c0:Nat} {f0:List Int} {f1:Int} {f2:Int} (h:W.heap[g]?=some (.cells #[.slice A0 f0.length c0,.int .i64 f1,.int .i64 f2] 83 (0,0))):W.cell? ⟨g,1,none⟩=some (.int .i64 f1):=(blk_cell h 1).trans rfl
theorem IsS83.set_1 {w0 W:World} {g:Nat} {f0:List Int} {f1:Int} {f2:Int} (h:IsS83 w0 W g f0 f1 f2) (x:Int):IsS83 w0 (W.setCell ⟨g,1,none⟩ (.int .i64 x)) g f0 x f2:=by
 obtain ⟨A0,c0,hb,hg,hr0⟩:=h;exact ⟨A0,c0,by simpa using blk_set hb 1 (.int .i64 x),hg,hr0⟩
theorem cellS83_2 {W:World} {g:Nat} {A0:Option Addr} {c0:Nat} {f0:List Int} {f1:Int} {f2:Int} (h:W.heap[g]?=some (.cells #[.slice A0 f0.length c0,.int .i64 f1,.int .i64 f2] 83 (0,0))):W.cell? ⟨g,2,none⟩=some (.int .i64 f2):=(blk_cell h 2).trans rfl
theorem IsS83.set_2 {w0 W:World} {g:Nat} {f0:List Int} {f1:Int} {f2:Int} (h:IsS83 w0 W g f0 f1 f2) (x:Int):IsS83 w0 (W.setCell ⟨g,2,none⟩ (.int .i64 x)) g f0 f1 x:=by
 obtain ⟨A0,c0,hb,hg,hr0⟩:=h;exact ⟨A0,c0,by simpa using blk_set hb 2 (.int .i64 x),hg,hr0⟩
theorem IsS83.new (w0 W:World) (A0:Option Addr) (c0:Nat) (f0:List Int) (f1:Int) (f2:Int) (hB:Below w0.heap.size w0 W) (hr0:Kd.C (Kd.int .u8) w0 A0 f0.length f0):IsS83 w0 (W.alloc (.cells #[.slice A0 f0.length c0,.int .i64 f1,.int .i64 f2] 83)) W.heap.size f0 f1 f2:=⟨A0,c0,by simpa using heap_alloc_new W _,hB.size,hr0⟩
theorem sI830 {p q:Prop} (h:p) (f:p→q:=by intro h_ ; repeat (first|(with_reducible first|exact h_|apply IsS83.alloc|apply IsS83.drewN|apply IsS83.drew|apply IsS83.set_1|apply IsS83.set_2)|exact h_)):q:=f h
theorem sI831 {p q r0:Prop} (h:p) (e0:r0) (f:p→r0→q:=by intro h_ e0_;repeat (first|(with_reducible first|exact h_|apply IsS83.alloc|apply IsS83.drewN|apply IsS83.drew|apply IsS83.set_1|apply IsS83.set_2|refine IsS83.far ?_ e0_ _)|exact h_)):q:=f h e0
theorem sI832 {p q r0 r1:Prop} (h:p) (e0:r0) (e1:r1) (f:p→r0→r1→q:=by intro h_ e0_ e1_;repeat (first|(with_reducible first|exact h_|apply IsS83.alloc|apply IsS83.drewN|apply IsS83.drew|apply IsS83.set_1|apply IsS83.set_2|refine IsS83.far ?_ e0_ _|refine IsS83.far ?_ e1_ _)|exact h_)):q:=f h e0 e1
theorem sB0 {p q:Prop} (h:p) (f:p→q:=by intro h_ ; repeat (first|(with_reducible first|exact h_|apply below_alloc|apply pw_below_drewN|apply below_drew1)|exact h_)):q:=f h
theorem sB1 {p q r0:Prop} (h:p) (e0:r0) (f:p→r0→q:=by intro h_ e0_;repeat (first|(with_reducible first|exact h_|apply below_alloc|apply pw_below_drewN|apply below_drew1|refine below_set ?_ e0_)|exact h_)):q:=f h e0
theorem sB2 {p q r0 r1:Prop} (h:p) (e0:r0) (e1:r1) (f:p→r0→r1→q:=by intro h_ e0_ e1_;repeat (first|(with_reducible first|exact h_|apply below_alloc|apply pw_below_drewN|apply below_drew1|refine below_set ?_ e0_|refine below_set ?_ e1_)|exact h_)):q:=f h e0 e1
theorem sB3 {p q r0 r1 r2:Prop} (h:p) (e0:r0) (e1:r1) (e2:r2) (f:p→r0→r1→r2→q:=by intro h_ e0_ e1_ e2_;repeat (first|(with_reducible first|exact h_|apply below_alloc|apply pw_below_drewN|apply below_drew1|refine below_set ?_ e0_|refine below_set ?_ e1_|refine below_set ?_ e2_)|exact h_)):q:=f h e0 e1 e2
theorem sK0 {p q:Prop} (h:p) (f:p→q:=by intro h_ ; repeat (first|(with_reducible first|exact h_|apply KeepBut.set_|apply keep_drewN|apply keep_drew|apply keep_alloc)|exact h_)):q:=f h
theorem sK1 {p q r0:Prop} (h:p) (e0:r0) (f:p→r0→q:=by intro h_ e0_;repeat (first|(with_reducible first|exact h_|apply KeepBut.set_|apply keep_drewN|apply keep_drew|apply keep_alloc|refine keep_far ?_ e0_ _)|exact h_)):q:=f h e0
theorem sK2 {p q r0 r1:Prop} (h:p) (e0:r0) (e1:r1) (f:p→r0→r1→q:=by intro h_ e0_ e1_;repeat (first|(with_reducible first|exact h_|apply KeepBut.set_|apply keep_drewN|apply keep_drew|apply keep_alloc|refine keep_far ?_ e0_ _|refine keep_far ?_ e1_ _)|exact h_)):q:=f h e0 e1
/-! ### spec_l1New: function 36 -/
def spec_l1New.l0:Nat→List Int→Int→Int→Option (List Int × Int × Int)
 | 0,_,_,_=>none
 | k + 1,x0,x3,x4=>if x4 < (x0.length:Int) then (if x4 < 4000 then (if 0≤x4 then (spec_l1New.l0 k x0 (Go.bits .and .i64 (wrap64 ((wrap64 ((wrap64 (x3 * 137)) + (wrap64 (rd x0 x4)))) + 11)) 1073741823) (wrap64 (x4 + 1))) else (none)) else (some (x0,0,x3))) else (some (x0,0,x3))
def spec_l1New.f (k:Nat) (l0:List Int):Option (List Int × Int × Int):=spec_l1New.l0 k l0 (wrap64 (193017 + (l0.length:Int))) 0
theorem spec_l1New.mono_l:∀ k,(∀ y0 y1 y2,LeO (spec_l1New.l0 k y0 y1 y2) (spec_l1New.l0 (k + 1) y0 y1 y2))
 | 0=>fun _ _ _ r h=>by simp [spec_l1New.l0] at h
 | k + 1=>by
  have ih0:=spec_l1New.mono_l k
  ·intro y0 y1 y2;unfold spec_l1New.l0;exact mz1 ih0
theorem spec_l1New.mono:∀ a0 k,LeO (spec_l1New.f k a0) (spec_l1New.f (k + 1) a0):=by
 intro a0 k;have ih0:=spec_l1New.mono_l k;unfold spec_l1New.f;exact mz1 ih0
set_option maxHeartbeats 8000000 in
set_option maxRecDepth 100000 in
theorem spec_l1New.calls (k:Nat) (A0:Option Addr) (c0:Nat) (l0:List Int) (r1:List Int) (r2:Int) (r3:Int) (w0 w:World) (hB:Below w0.heap.size w0 w) (hr0:Kd.C (Kd.int .u8) w0 A0 l0.length l0) (hc0:l0.length≤c0) (h:spec_l1New.f k l0=some (r1,r2,r3)) :
  Calls Tryz.prog 36 #[.slice A0 l0.length c0] w fun e w'=>∃ g_:Nat,e=.returned (.pointer (some ⟨g_,0,none⟩))∧IsS83 w0 w' g_ r1 r2 r3∧Below w0.heap.size w0 w'∧Below w.heap.size w w'∧w.heap.size≤g_:=by
 have hu83:=Tryz.underlying83;have HR0:=am hr0;have HC0:=am hc0;clear hr0 hc0;have HBW:=am (Below.refl w.heap.size w);have HW0:=am hB.size;have HB:=am hB;clear hB;unfold spec_l1New.f at h;have H:=h;clear h;have H':=am H;clear H;go_enter Tryz.func36,Tryz.ntmps36;go_wp2;go_loopg [3,4] k (fun kq v3 v4 w'=>∃ (x3_1:Int) (x4_1:Int),v3=.int .i64 x3_1∧v4=.int .i64 x4_1∧Aside0 (spec_l1New.l0 kq l0 x3_1 x4_1=some (r1,r2,r3))∧Aside0 (kq≤k)∧Aside0 (Below w0.heap.size w0 w')∧Aside0 (Below w.heap.size w w'))
 case atStart=>exact ⟨(wrap64 (193017 + (l0.length:Int))),(0),rS,rS,H',⟨Nat.le_refl _⟩,⟨bA⟩,HBW⟩
 case round =>
  clear H' HBW;obtain ⟨x3_1,x4_1,rfl,rfl,HA,HK1,HB,HBW⟩:=hrel
  cases gk with
  | zero=>exact absurd HA.out (by simp [spec_l1New.l0])
  | succ k1 =>
   have H:=HA.out;clear HA;simp only [spec_l1New.l0] at H;by_cases c2:x4_1 < (l0.length:Int)
   ·rw [if_pos c2] at H;have c2b0:=dt c2;clear c2;by_cases c3:x4_1 < 4000
    ·rw [if_pos c3] at H;have c3b0:=dt c3;clear c3;have c4b0:=ifC H;replace H:=ifT H;have H':=am H;clear H;obtain ⟨p101,q101⟩:=pq x4_1 l0;obtain ⟨ad101,e101,hx101_0⟩:=Kd.at_int HR0.out x4_1 p101 q101;cases e101;replace hx101_0:=pw_cell_below HB.out hx101_0;obtain ⟨p101,q101⟩:=eT p101 q101;go_wp2;go_roundg k1
     case measure=>have:=HK1.out;omega
     case rel=>exact ⟨(Go.bits .and .i64 (wrap64 ((wrap64 ((wrap64 (x3_1 * 137)) + (wrap64 (rd l0 x4_1)))) + 11)) 1073741823),(wrap64 (x4_1 + 1)),rS,rS,H',⟨by have:=HK1.out;omega⟩,⟨bA⟩,HBW⟩
    rw [if_neg c3] at H;have c3b0:=df c3;clear c3;simp only [Option.some.injEq,Prod.mk.injEq] at H;obtain ⟨rfl,rfl,rfl⟩:=H;go_wp2;go_ret;exact ⟨_,rfl,IsS83.new w0 wr A0 c0 l0 0 x3_1 HB.out HR0.out,below_alloc HB.out _,below_alloc HBW.out _,HBW.out.size⟩
   rw [if_neg c2] at H;have c2b0:=df c2;clear c2;simp only [Option.some.injEq,Prod.mk.injEq] at H;obtain ⟨rfl,rfl,rfl⟩:=H;go_wp2;go_ret;exact ⟨_,rfl,IsS83.new w0 wr A0 c0 l0 0 x3_1 HB.out HR0.out,below_alloc HB.out _,below_alloc HBW.out _,HBW.out.size⟩

/-! ### spec_l1Byte: function 53 -/
def spec_l1Byte.f (s0_0:List Int) (s0_1:Int) (s0_2:Int):Option (Int × Int × Int):=if s0_1 < (s0_0.length:Int) then (if 0≤s0_1 then (some (Go.bits .and .i64 (wrap64 ((Go.bits .and .i64 (Go.bits .xor .i64 ((wrap64 ((wrap64 (s0_2 * 6364136223846793005)) + 1442695040888963407)) / 8589934592) ((wrap64 ((wrap64 (s0_2 * 6364136223846793005)) + 1442695040888963407)) / 140737488355328)) 255) + (wrap64 (rd s0_0 s0_1)))) 255,wrap64 (s0_1 + 1),wrap64 ((wrap64 (s0_2 * 6364136223846793005)) + 1442695040888963407))) else (none)) else (some (Go.bits .and .i64 (Go.bits .xor .i64 ((wrap64 ((wrap64 (s0_2 * 6364136223846793005)) + 1442695040888963407)) / 8589934592) ((wrap64 ((wrap64 (s0_2 * 6364136223846793005)) + 1442695040888963407)) / 140737488355328)) 255,s0_1,wrap64 ((wrap64 (s0_2 * 6364136223846793005)) + 1442695040888963407)))
set_option maxHeartbeats 8000000 in
set_option maxRecDepth 100000 in
theorem spec_l1Byte.calls (g:Nat) (s0_0:List Int) (s0_1:Int) (s0_2:Int) (r1:Int) (r2:Int) (r3:Int) (w0 w:World) (hI:IsS83 w0 w g s0_0 s0_1 s0_2) (hB:Below w0.heap.size w0 w) (h:spec_l1Byte.f s0_0 s0_1 s0_2=some (r1,r2,r3)) :
  Calls Tryz.prog 53 #[.pointer (some ⟨g,0,none⟩)] w fun e w'=>e=.returned (.int .i64 r1)∧IsS83 w0 w' g s0_0 r2 r3∧Below w0.heap.size w0 w'∧KeepBut w w' g none:=by
 have HI0:=am hI;have HK:=am (KeepBut.refl w g none);have HL:=am hB.size;clear hI;have HW0:=am hB.size;have HB:=am hB;clear hB;unfold spec_l1Byte.f at h;have H:=h;clear h;by_cases c2:s0_1 < (s0_0.length:Int)
 ·rw [if_pos c2] at H;have c2b0:=dt c2;clear c2;have c3b0:=ifC H;replace H:=ifT H;simp only [Option.some.injEq,Prod.mk.injEq] at H;obtain ⟨rfl,rfl,rfl⟩:=H;obtain ⟨ASz4_0,cSz4_0,HGz4,hgz4,HSz4_0⟩:=HI0.out;have hcz4_0:=cellS83_0 HGz4;have hcz4_1:=cellS83_1 HGz4;have hcz4_2:=cellS83_2 HGz4;have hfz4_1:=blk_frozen HGz4 1;have hfz4_2:=blk_frozen HGz4 2;clear HGz4 hgz4;obtain ⟨p104,q104⟩:=pq s0_1 s0_0;obtain ⟨ad104,e104,hx104_0⟩:=Kd.at_int HSz4_0 s0_1 p104 q104;cases e104;have hn104_0:ad104.block≠g:=Nat.ne_of_lt (Nat.lt_of_lt_of_le (by have:=World.block_lt_of_cell? _ _ hx104_0;first|rwa [add_block] at this|exact this) (IsS83.ge HI0.out));replace hx104_0:=pw_cell_below HB.out hx104_0;replace hx104_0:=(cell_far (p:=⟨g,2,none⟩) (by first|(rw [add_block];exact hn104_0)|(show (Addr.add _ _).block≠_;rw [add_block];exact hn104_0)|exact hn104_0) (.int .i64 (wrap64 ((wrap64 (s0_2 * 6364136223846793005)) + 1442695040888963407)))).trans hx104_0;(try have hy104_0:=fun (n_:Nat)=>(show (((w.drewN n_).setCell ⟨g,2,none⟩ (.int .i64 (wrap64 ((wrap64 (s0_2 * 6364136223846793005)) + 1442695040888963407))))).cell? _=some _ from hx104_0));clear hn104_0;obtain ⟨p104,q104⟩:=eT p104 q104;go_enter Tryz.func53,Tryz.ntmps53;go_wp2;repeat (go_quiet (fail);try go_wp2)
  go_ret;exact ⟨rA,by exact sI830 HI0.out,by exact sB1 HB.out (IsS83.ge HI0.out),by exact sK0 HK.out⟩
 rw [if_neg c2] at H;have c2b0:=df c2;clear c2;simp only [Option.some.injEq,Prod.mk.injEq] at H;obtain ⟨rfl,rfl,rfl⟩:=H;obtain ⟨ASz5_0,cSz5_0,HGz5,hgz5,HSz5_0⟩:=HI0.out;have hcz5_0:=cellS83_0 HGz5;have hcz5_1:=cellS83_1 HGz5;have hcz5_2:=cellS83_2 HGz5;have hfz5_1:=blk_frozen HGz5 1;have hfz5_2:=blk_frozen HGz5 2;clear HGz5 hgz5;go_enter Tryz.func53,Tryz.ntmps53;go_wp2;repeat (go_quiet (fail);try go_wp2)
 go_ret;exact ⟨rA,by exact sI830 HI0.out,by exact sB1 HB.out (IsS83.ge HI0.out),by exact sK0 HK.out⟩

/-! ### spec_l1Below: function 37 -/
def spec_l1Below.f (s0_0:List Int) (s0_1:Int) (s0_2:Int) (a1:Int):Option (Int × Int × Int):=if a1≤0 then (some (0,s0_1,s0_2)) else (if a1≤256 then ((spec_l1Byte.f s0_0 s0_1 s0_2).bind fun bt105=>(if a1=0 then (none) else (some (Int.tmod bt105.1 a1,bt105.2.1,bt105.2.2)))) else ((spec_l1Byte.f s0_0 s0_1 s0_2).bind fun bt108=>((spec_l1Byte.f s0_0 bt108.2.1 bt108.2.2).bind fun bt111=>((spec_l1Byte.f s0_0 bt111.2.1 bt111.2.2).bind fun bt114=>(if a1=0 then (none) else (some (Int.tmod (wrap64 ((wrap64 ((wrap64 (bt108.1 * 65536)) + (wrap64 (bt111.1 * 256)))) + bt114.1)) a1,bt114.2.1,bt114.2.2)))))))
set_option maxHeartbeats 8000000 in
set_option maxRecDepth 100000 in
theorem spec_l1Below.calls (g:Nat) (s0_0:List Int) (s0_1:Int) (s0_2:Int) (a1:Int) (r1:Int) (r2:Int) (r3:Int) (w0 w:World) (hI:IsS83 w0 w g s0_0 s0_1 s0_2) (hB:Below w0.heap.size w0 w) (h:spec_l1Below.f s0_0 s0_1 s0_2 a1=some (r1,r2,r3)) :
  Calls Tryz.prog 37 #[.pointer (some ⟨g,0,none⟩),.int .i64 a1] w fun e w'=>e=.returned (.int .i64 r1)∧IsS83 w0 w' g s0_0 r2 r3∧Below w0.heap.size w0 w'∧KeepBut w w' g none:=by
 have HI0:=am hI;have HK:=am (KeepBut.refl w g none);have HL:=am hB.size;clear hI;have HW0:=am hB.size;have HB:=am hB;clear hB;unfold spec_l1Below.f at h;have H:=h;clear h;by_cases c3:a1≤0
 ·rw [if_pos c3] at H;have c3b0:=dt c3;clear c3;simp only [Option.some.injEq,Prod.mk.injEq] at H;obtain ⟨rfl,rfl,rfl⟩:=H;go_enter Tryz.func37,Tryz.ntmps37;go_wp2;go_ret;exact ⟨rA,by exact sI830 HI0.out,by exact sB1 HB.out (IsS83.ge HI0.out),by exact sK0 HK.out⟩
 rw [if_neg c3] at H;have c3b0:=df c3;clear c3;by_cases c4:a1≤256
 ·rw [if_pos c4] at H;have c4b0:=dt c4;clear c4;obtain ⟨⟨t105,t106,t107⟩,A5,H⟩:=bindE H;try dsimp only at H
  have c6:¬ (a1=0):=ifN' H;replace H:=ifT' H;obtain ⟨c6b0,c6b1⟩:=nI c6;simp only [Option.some.injEq,Prod.mk.injEq] at H;obtain ⟨rfl,rfl,rfl⟩:=H;go_enter Tryz.func37,Tryz.ntmps37;go_wp2_with (first|((with_reducible refine gc 53 ?_);refine gL (some 13) Tryz.func53 #[.pointer (some ⟨g,0,none⟩)] ?_;(with_reducible refine (spec_l1Byte.calls g s0_0 s0_1 s0_2 t105 t106 t107 w0 _ ?_ ?_ A5.out).mono ?_);exact sI830 HI0.out;exact sB1 HB.out (IsS83.ge HI0.out);rintro e w7 ⟨rfl,hi,hb,hk⟩;refine ⟨_,rfl,?_⟩;replace HK:=am (KeepBut.trans (by exact sK0 HK.out) hk (.inl rfl));replace HB:=am (hb);replace HI0:=am (hi);(try clear hb);(try clear hk);(try clear hi)));go_ret;exact ⟨rA,by exact sI830 HI0.out,by exact sB1 HB.out (IsS83.ge HI0.out),by exact sK0 HK.out⟩
 rw [if_neg c4] at H;have c4b0:=df c4;clear c4;obtain ⟨⟨t108,t109,t110⟩,A8,H⟩:=bindE H;try dsimp only at H
 obtain ⟨⟨t111,t112,t113⟩,A9,H⟩:=bindE H;try dsimp only at H
 obtain ⟨⟨t114,t115,t116⟩,A10,H⟩:=bindE H;try dsimp only at H
 have c11:¬ (a1=0):=ifN' H;replace H:=ifT' H;obtain ⟨c11b0,c11b1⟩:=nI c11;simp only [Option.some.injEq,Prod.mk.injEq] at H;obtain ⟨rfl,rfl,rfl⟩:=H;go_enter Tryz.func37,Tryz.ntmps37;go_wp2_with (first|((with_reducible refine gc 53 ?_);refine gL (some 17) Tryz.func53 #[.pointer (some ⟨g,0,none⟩)] ?_;(with_reducible refine (spec_l1Byte.calls g s0_0 s0_1 s0_2 t108 t109 t110 w0 _ ?_ ?_ A8.out).mono ?_);exact sI830 HI0.out;exact sB1 HB.out (IsS83.ge HI0.out);rintro e w12 ⟨rfl,hi,hb,hk⟩;refine ⟨_,rfl,?_⟩;replace HK:=am (KeepBut.trans (by exact sK0 HK.out) hk (.inl rfl));replace HB:=am (hb);replace HI0:=am (hi);(try clear hb);(try clear hk);(try clear hi))|((with_reducible refine gc 53 ?_);refine gL (some 19) Tryz.func53 #[.pointer (some ⟨g,0,none⟩)] ?_;(with_reducible refine (spec_l1Byte.calls g s0_0 t109 t110 t111 t112 t113 w0 _ ?_ ?_ A9.out).mono ?_);exact sI830 HI0.out;exact sB1 HB.out (IsS83.ge HI0.out);rintro e w13 ⟨rfl,hi,hb,hk⟩;refine ⟨_,rfl,?_⟩;replace HK:=am (KeepBut.trans (by exact sK0 HK.out) hk (.inl rfl));replace HB:=am (hb);replace HI0:=am (hi);(try clear hb);(try clear hk);(try clear hi))|((with_reducible refine gc 53 ?_);refine gL (some 21) Tryz.func53 #[.pointer (some ⟨g,0,none⟩)] ?_;(with_reducible refine (spec_l1Byte.calls g s0_0 t112 t113 t114 t115 t116 w0 _ ?_ ?_ A10.out).mono ?_);exact sI830 HI0.out;exact sB1 HB.out (IsS83.ge HI0.out);rintro e w14 ⟨rfl,hi,hb,hk⟩;refine ⟨_,rfl,?_⟩;replace HK:=am (KeepBut.trans (by exact sK0 HK.out) hk (.inl rfl));replace HB:=am (hb);replace HI0:=am (hi);(try clear hb);(try clear hk);(try clear hi)));go_ret;exact ⟨rA,by exact sI830 HI0.out,by exact sB1 HB.out (IsS83.ge HI0.out),by exact sK0 HK.out⟩

/-! ### spec_l1Int: function 58 -/
def spec_l1Int.f (s0_0:List Int) (s0_1:Int) (s0_2:Int) (l1:List Int):Option (Int × Int × Int):=(spec_l1Below.f s0_0 s0_1 s0_2 (l1.length:Int)).bind fun bt117=>(if 0≤bt117.1 then (if bt117.1 < (l1.length:Int) then (some (rd l1 bt117.1,bt117.2.1,bt117.2.2)) else (none)) else (none))
set_option maxHeartbeats 8000000 in
set_option maxRecDepth 100000 in
theorem spec_l1Int.calls (g:Nat) (s0_0:List Int) (s0_1:Int) (s0_2:Int) (A1:Option Addr) (c1:Nat) (l1:List Int) (r1:Int) (r2:Int) (r3:Int) (w0 w:World) (hI:IsS83 w0 w g s0_0 s0_1 s0_2) (hB:Below w0.heap.size w0 w) (hr1:Kd.C (Kd.int .i64) w A1 l1.length l1) (hc1:l1.length≤c1) (hf1:∀ ad,A1=some ad→0 < l1.length→ad.block≠g) (h:spec_l1Int.f s0_0 s0_1 s0_2 l1=some (r1,r2,r3)) :
  Calls Tryz.prog 58 #[.pointer (some ⟨g,0,none⟩),.slice A1 l1.length c1] w fun e w'=>e=.returned (.int .i64 r1)∧IsS83 w0 w' g s0_0 r2 r3∧Below w0.heap.size w0 w'∧KeepBut w w' g none:=by
 have HR1:=am hr1;have HC1:=am hc1;clear hr1 hc1;have HI0:=am hI;have HK:=am (KeepBut.refl w g none);have HL:=am hB.size;clear hI;have HW0:=am hB.size;have HB:=am hB;clear hB;unfold spec_l1Int.f at h;have H:=h;clear h;obtain ⟨⟨t117,t118,t119⟩,A3,H⟩:=bindE H;try dsimp only at H
 have c4b0:=ifC H;replace H:=ifT H;have c5b0:=ifC H;replace H:=ifT H;simp only [Option.some.injEq,Prod.mk.injEq] at H;obtain ⟨rfl,rfl,rfl⟩:=H;go_enter Tryz.func58,Tryz.ntmps58;go_wp2_with (first|((with_reducible refine gc 37 ?_);refine gL (some 9) Tryz.func37 #[.pointer (some ⟨g,0,none⟩),.int .i64 (l1.length:Int)] ?_;(with_reducible refine (spec_l1Below.calls g s0_0 s0_1 s0_2 (l1.length:Int) t117 t118 t119 w0 _ ?_ ?_ A3.out).mono ?_);exact sI830 HI0.out;exact sB1 HB.out (IsS83.ge HI0.out);rintro e w6 ⟨rfl,hi,hb,hk⟩;refine ⟨_,rfl,?_⟩;replace HK:=am (KeepBut.trans (by exact sK0 HK.out) hk (.inl rfl));replace HB:=am (hb);replace HI0:=am (hi);(try clear hb);(try clear hk);(try clear hi);have p120:0≤(t117:Int):=dA;have q120:t117 < (l1.length:Int):=dA;obtain ⟨ad120,e120,hx120_0⟩:=Kd.at_int HR1.out t117 p120 q120;cases e120;replace hx120_0:=keep_cell HK.out hx120_0 (by first|(rw [add_block];exact hf1 _ rfl (by omega))|exact hf1 _ rfl (by omega)|exact hf1 ad120 rfl (by omega));replace p120:=eq_true p120;replace q120:=eq_true q120));go_ret;exact ⟨rA,by exact sI830 HI0.out,by exact sB1 HB.out (IsS83.ge HI0.out),by exact sK0 HK.out⟩

/-! ### spec_l1Once: function 59 -/
def spec_l1Once.f (s0_0:List Int) (s0_1:Int) (s0_2:Int) (a1:Int):Option (Bool × Int × Int):=(spec_l1Below.f s0_0 s0_1 s0_2 a1).bind fun bt121=>(some ((bt121.1 == 0),bt121.2.1,bt121.2.2))
set_option maxHeartbeats 8000000 in
set_option maxRecDepth 100000 in
theorem spec_l1Once.calls (g:Nat) (s0_0:List Int) (s0_1:Int) (s0_2:Int) (a1:Int) (r1:Bool) (r2:Int) (r3:Int) (w0 w:World) (hI:IsS83 w0 w g s0_0 s0_1 s0_2) (hB:Below w0.heap.size w0 w) (h:spec_l1Once.f s0_0 s0_1 s0_2 a1=some (r1,r2,r3)) :
  Calls Tryz.prog 59 #[.pointer (some ⟨g,0,none⟩),.int .i64 a1] w fun e w'=>e=.returned (.bool r1)∧IsS83 w0 w' g s0_0 r2 r3∧Below w0.heap.size w0 w'∧KeepBut w w' g none:=by
 have HI0:=am hI;have HK:=am (KeepBut.refl w g none);have HL:=am hB.size;clear hI;have HW0:=am hB.size;have HB:=am hB;clear hB;unfold spec_l1Once.f at h;have H:=h;clear h;obtain ⟨⟨t121,t122,t123⟩,A3,H⟩:=bindE H;try dsimp only at H
 simp only [Option.some.injEq,Prod.mk.injEq] at H;obtain ⟨rfl,rfl,rfl⟩:=H;go_enter Tryz.func59,Tryz.ntmps59;go_wp2_with (first|((with_reducible refine gc 37 ?_);refine gL (some 7) Tryz.func37 #[.pointer (some ⟨g,0,none⟩),.int .i64 a1] ?_;(with_reducible refine (spec_l1Below.calls g s0_0 s0_1 s0_2 a1 t121 t122 t123 w0 _ ?_ ?_ A3.out).mono ?_);exact sI830 HI0.out;exact sB1 HB.out (IsS83.ge HI0.out);rintro e w4 ⟨rfl,hi,hb,hk⟩;refine ⟨_,rfl,?_⟩;replace HK:=am (KeepBut.trans (by exact sK0 HK.out) hk (.inl rfl));replace HB:=am (hb);replace HI0:=am (hi);(try clear hb);(try clear hk);(try clear hi)));go_ret;exact ⟨rA,by exact sI830 HI0.out,by exact sB1 HB.out (IsS83.ge HI0.out),by exact sK0 HK.out⟩

/-! ### spec_l4Draw: function 81 -/
def spec_l4Draw.f (s0_0:List Int) (s0_1:Int) (s0_2:Int) (a1:Int):Option (Int × Int × Int × Int × Int × Int):=(spec_l1Below.f s0_0 s0_1 s0_2 3).bind fun bt125=>((spec_l1Below.f s0_0 bt125.2.1 bt125.2.2 4).bind fun bt128=>(if (wrap64 (1 + bt125.1))=2 then (some (a1,wrap64 (1 + bt125.1),bt128.1,bt128.1,bt128.2.1,bt128.2.2)) else ((spec_l1Below.f s0_0 bt128.2.1 bt128.2.2 3).bind fun bt132=>(some (a1,wrap64 (1 + bt125.1),bt128.1,Int.tmod (wrap64 ((wrap64 (bt128.1 + 1)) + bt132.1)) 4,bt132.2.1,bt132.2.2)))))
def spec_l4Draw.T4:Bool × List (List Nat × List Nat):=(true,[([],[]),([0],[0]),([1],[1]),([],[]),([3],[3]),([2,4],[2,4]),([5],[5]),([0,1,2,3,4,5,6],[]),([7,6,4,0,1,2,3,4,5,6],[6,7])])
def spec_l4Draw.B4:List Nat:=[0,1,3,0,8,31,63,127,255]
theorem spec_l4Draw.tab4:rtab .any (opsOf Tryz.f81 4)=spec_l4Draw.T4:=by kernel_rfl
theorem spec_l4Draw.bits4:waitsOk spec_l4Draw.T4.2 spec_l4Draw.B4=true:=by kernel_rfl
theorem gen_world {P:Program} {ops:Array Oper} {rest:List Oper} {o:Oper} {a:Act} {Q:Exit→Act→World→Prop} {W:World} (F:World→Prop) (hF:F W) (h:∀ W',F W'→wpList P ops Q (o::rest) a W'):wpList P ops Q (o::rest) a W:=h W hF
set_option maxHeartbeats 8000000 in
set_option maxRecDepth 100000 in
theorem spec_l4Draw.calls (g:Nat) (s0_0:List Int) (s0_1:Int) (s0_2:Int) (a1:Int) (r1:Int) (r2:Int) (r3:Int) (r4:Int) (r5:Int) (r6:Int) (w0 w:World) (hI:IsS83 w0 w g s0_0 s0_1 s0_2) (hB:Below w0.heap.size w0 w) (h:spec_l4Draw.f s0_0 s0_1 s0_2 a1=some (r1,r2,r3,r4,r5,r6)) :
  Calls Tryz.prog 81 #[.pointer (some ⟨g,0,none⟩),.int .i64 a1] w fun e w'=>e=.returned (.agg #[.int .i64 r1,.int .i64 r2,.int .i64 r3,.int .i64 r4])∧IsS83 w0 w' g s0_0 r5 r6∧Below w0.heap.size w0 w'∧KeepBut w w' g none:=by
 have hu58:=Tryz.underlying58;have HI0:=am hI;have HK:=am (KeepBut.refl w g none);have HL:=am hB.size;clear hI;have HW0:=am hB.size;have HB:=am hB;clear hB;unfold spec_l4Draw.f at h;have H:=h;clear h;obtain ⟨⟨t125,t126,t127⟩,A3,H⟩:=bindE H;try dsimp only at H
 obtain ⟨⟨t128,t129,t130⟩,A4,H⟩:=bindE H;try dsimp only at H
 by_cases c5:(wrap64 (1 + t125))=2
 ·rw [if_pos c5] at H;obtain ⟨c5b0,c5b1⟩:=eI c5;clear c5;simp only [Option.some.injEq,Prod.mk.injEq] at H;obtain ⟨rfl,rfl,rfl,rfl,rfl,rfl⟩:=H;go_enter Tryz.func81,Tryz.ntmps81;have TK_:=am trivial;go_wp2_with (first|((with_reducible refine gd 4 ?_);refine bE (N:=4) (cs:=#[.int .i64 0,.int .i64 0,.int .i64 0,.int .i64 0]) (t:=58) ?_;intro gb124 hg w6 hbox hb;have n0_:=am (IsS83.below (by exact sI830 HI0.out) hb);have n1_:=am (KeepBut.trans (by exact sK0 HK.out) (KeepBut.of_below hb g none) (.inl rfl));have n2_:=am (below_step (by exact sB1 HB.out (IsS83.ge HI0.out)) hb);have n3_:=am (hbox);have n4_:=am ((by rw [hg];exact (keep_size (w:=w) (g:=g) (row:=none) (by exact sK0 HK.out)):w.heap.size≤gb124));have n5_:=am ((Nat.le_trans HW0.out (by rw [hg];exact (keep_size (w:=w) (g:=g) (row:=none) (by exact sK0 HK.out)):w.heap.size≤gb124):w0.heap.size≤gb124));have n6_:=am ((by rw [hg];exact Nat.ne_of_lt (IsS83.lt (show IsS83 w0 _ g s0_0 s0_1 s0_2 from by exact sI830 HI0.out)):g≠gb124));have n7_:=am ((by rw [hg];exact Nat.ne_of_gt (IsS83.lt (show IsS83 w0 _ g s0_0 s0_1 s0_2 from by exact sI830 HI0.out)):gb124≠g));clear HI0;clear HK;clear HB;have HI0:=n0_;have HK:=n1_;have HB:=n2_;have BK124:=n3_;have GW124:=n4_;have GE124:=n5_;have NB0_124:=n6_;have NB124_0:=n7_;clear n0_ n1_ n2_ n3_ n4_ n5_ n6_ n7_;clear hb hbox hg)|((with_reducible refine gc 37 ?_);refine gL (some 8) Tryz.func37 #[.pointer (some ⟨g,0,none⟩),.int .i64 3] ?_;(with_reducible refine (spec_l1Below.calls g s0_0 s0_1 s0_2 3 t125 t126 t127 w0 _ ?_ ?_ A3.out).mono ?_);exact sI831 HI0.out NB0_124.out;exact sB2 HB.out (IsS83.ge HI0.out) GE124.out;rintro e w7 ⟨rfl,hi,hb,hk⟩;refine ⟨_,rfl,?_⟩;replace BK124:=am (KeepBut.blk hk (g':=gb124) (o:=.cells #[.int .i64 0,.int .i64 0,.int .i64 0,.int .i64 0] 58 (0,0)) (bK BK124) NB124_0.out (by simp));replace HK:=am (KeepBut.trans (by exact sK1 HK.out GW124.out) hk (.inl rfl));replace HB:=am (hb);replace HI0:=am (hi);(try clear hb);(try clear hk);(try clear hi))|((with_reducible refine gc 37 ?_);refine gL (some 11) Tryz.func37 #[.pointer (some ⟨g,0,none⟩),.int .i64 4] ?_;(with_reducible refine (spec_l1Below.calls g s0_0 t126 t127 4 t128 t129 t130 w0 _ ?_ ?_ A4.out).mono ?_);exact sI831 HI0.out NB0_124.out;exact sB2 HB.out (IsS83.ge HI0.out) GE124.out;rintro e w8 ⟨rfl,hi,hb,hk⟩;refine ⟨_,rfl,?_⟩;replace BK124:=am (KeepBut.blk hk (g':=gb124) (o:=.cells #[.int .i64 0,.int .i64 0,.int .i64 0,.int .i64 0] 58 (0,0)) (bK BK124) NB124_0.out (by simp));replace HK:=am (KeepBut.trans (by exact sK1 HK.out GW124.out) hk (.inl rfl));replace HB:=am (hb);replace HI0:=am (hi);(try clear hb);(try clear hk);(try clear hi))|((with_reducible refine gd 5 ?_);refine bE (N:=5) (cs:=#[.int .i64 0,.int .i64 0,.int .i64 0,.int .i64 0]) (t:=58) ?_;intro gb131 hg w9 hbox hb;have n0_:=am (IsS83.below (by exact sI831 HI0.out NB0_124.out) hb);have n1_:=kb BK124 hb;have n2_:=am (KeepBut.trans (by exact sK1 HK.out GW124.out) (KeepBut.of_below hb g none) (.inl rfl));have n3_:=am (below_step (by exact sB2 HB.out (IsS83.ge HI0.out) GE124.out) hb);have n4_:=am (hbox);have n5_:=am ((by rw [hg];exact (keep_size (w:=w) (g:=g) (row:=none) (by exact sK1 HK.out GW124.out)):w.heap.size≤gb131));have n6_:=am ((Nat.le_trans HW0.out (by rw [hg];exact (keep_size (w:=w) (g:=g) (row:=none) (by exact sK1 HK.out GW124.out)):w.heap.size≤gb131):w0.heap.size≤gb131));have n7_:=nl BK124 hg;have n8_:=nr BK124 hg;have n9_:=am ((by rw [hg];exact Nat.ne_of_lt (IsS83.lt (show IsS83 w0 _ g s0_0 t129 t130 from by exact sI831 HI0.out NB0_124.out)):g≠gb131));have n10_:=am ((by rw [hg];exact Nat.ne_of_gt (IsS83.lt (show IsS83 w0 _ g s0_0 t129 t130 from by exact sI831 HI0.out NB0_124.out)):gb131≠g));clear HI0;clear BK124;clear HK;clear HB;have HI0:=n0_;have BK124:=n1_;have HK:=n2_;have HB:=n3_;have BK131:=n4_;have GW131:=n5_;have GE131:=n6_;have NB124_131:=n7_;have NB131_124:=n8_;have NB0_131:=n9_;have NB131_0:=n10_;clear n0_ n1_ n2_ n3_ n4_ n5_ n6_ n7_ n8_ n9_ n10_;clear hb hbox hg;have hnb10:=NB131_124.out;have hnc10:=NB124_131.out;have hnb11:=NB131_0.out;have hnc11:=NB0_131.out;obtain ⟨_,_,_,_,_,_,_,_⟩:=blkc4 BK131;have hnb13:=NB124_0.out;have hnc13:=NB0_124.out;obtain ⟨_,_,_,_,_,_,_,_⟩:=blkc4 BK124)|((with_reducible refine gd 27 ?_);clear TK_;refine gen_world (fun W_=>(W_.heap[gb124]?=some (.cells #[.int .i64 0,.int .i64 0,.int .i64 0,.int .i64 0] 58 (0,0)))∧(W_.heap[gb131]?=some (.cells #[.int .i64 a1,.int .i64 (wrap64 (1 + t125)),.int .i64 t128,.int .i64 t128] 58 (0,0)))∧(IsS83 w0 W_ g s0_0 t129 t130)∧(KeepBut w W_ g none)∧(Below w0.heap.size w0 W_)) ⟨(kf BK124 NB124_131),(kp BK131),(by exact sI832 HI0.out NB0_124.out NB0_131.out),(by exact sK2 HK.out GW124.out GW131.out),(by exact sB3 HB.out (IsS83.ge HI0.out) GE124.out GE131.out)⟩ ?_;rintro wz ⟨n0_,n1_,n2_,n3_,n4_⟩;(try clear BK124);(try clear BK131);(try clear HI0);(try clear HK);(try clear HB);have BK124:=am n0_;have BK131:=am n1_;have HI0:=am n2_;have HK:=am n3_;have HB:=am n4_;clear n0_ n1_ n2_ n3_ n4_;obtain ⟨hcy0,hcy1,hcy2,hcy3,hfy0,hfy1,hfy2,hfy3⟩:=blkc4 BK131;obtain ⟨hcx0,hcx1,hcx2,hcx3,hfx0,hfx1,hfx2,hfx3⟩:=blkc4 BK124))
  refine bodyPost_ret (results_cell_row rfl _ _ gb124 58 #[.int .i64 a1,.int .i64 (wrap64 (1 + t125)),.int .i64 t128,.int .i64 t128] (0,0) _ rfl (kp BK124) Tryz.underlying58 rfl (by kernel_rfl)) rfl ?_;exact ⟨rA,by exact sI832 HI0.out NB0_124.out NB0_131.out,by exact sB3 HB.out (IsS83.ge HI0.out) GE124.out GE131.out,by exact sK2 HK.out GW124.out GW131.out⟩
 rw [if_neg c5] at H;obtain ⟨c5b0,c5b1⟩:=nI c5;obtain ⟨⟨t132,t133,t134⟩,A15,H⟩:=bindE H;try dsimp only at H
 simp only [Option.some.injEq,Prod.mk.injEq] at H;obtain ⟨rfl,rfl,rfl,rfl,rfl,rfl⟩:=H;go_enter Tryz.func81,Tryz.ntmps81;try go_wp2_with (first|((with_reducible refine gd 4 ?_);refine bE (N:=4) (cs:=#[.int .i64 0,.int .i64 0,.int .i64 0,.int .i64 0]) (t:=58) ?_;intro gb124 hg w16 hbox hb;have n0_:=am (IsS83.below (by exact sI830 HI0.out) hb);have n1_:=am (KeepBut.trans (by exact sK0 HK.out) (KeepBut.of_below hb g none) (.inl rfl));have n2_:=am (below_step (by exact sB1 HB.out (IsS83.ge HI0.out)) hb);have n3_:=am (hbox);have n4_:=am ((by rw [hg];exact (keep_size (w:=w) (g:=g) (row:=none) (by exact sK0 HK.out)):w.heap.size≤gb124));have n5_:=am ((Nat.le_trans HW0.out (by rw [hg];exact (keep_size (w:=w) (g:=g) (row:=none) (by exact sK0 HK.out)):w.heap.size≤gb124):w0.heap.size≤gb124));have n6_:=am ((by rw [hg];exact Nat.ne_of_lt (IsS83.lt (show IsS83 w0 _ g s0_0 s0_1 s0_2 from by exact sI830 HI0.out)):g≠gb124));have n7_:=am ((by rw [hg];exact Nat.ne_of_gt (IsS83.lt (show IsS83 w0 _ g s0_0 s0_1 s0_2 from by exact sI830 HI0.out)):gb124≠g));clear HI0;clear HK;clear HB;have HI0:=n0_;have HK:=n1_;have HB:=n2_;have BK124:=n3_;have GW124:=n4_;have GE124:=n5_;have NB0_124:=n6_;have NB124_0:=n7_;clear n0_ n1_ n2_ n3_ n4_ n5_ n6_ n7_;clear hb hbox hg)|((with_reducible refine gc 37 ?_);refine gL (some 8) Tryz.func37 #[.pointer (some ⟨g,0,none⟩),.int .i64 3] ?_;(with_reducible refine (spec_l1Below.calls g s0_0 s0_1 s0_2 3 t125 t126 t127 w0 _ ?_ ?_ A3.out).mono ?_);exact sI831 HI0.out NB0_124.out;exact sB2 HB.out (IsS83.ge HI0.out) GE124.out;rintro e w17 ⟨rfl,hi,hb,hk⟩;refine ⟨_,rfl,?_⟩;replace BK124:=am (KeepBut.blk hk (g':=gb124) (o:=.cells #[.int .i64 0,.int .i64 0,.int .i64 0,.int .i64 0] 58 (0,0)) (bK BK124) NB124_0.out (by simp));replace HK:=am (KeepBut.trans (by exact sK1 HK.out GW124.out) hk (.inl rfl));replace HB:=am (hb);replace HI0:=am (hi);(try clear hb);(try clear hk);(try clear hi))|((with_reducible refine gc 37 ?_);refine gL (some 11) Tryz.func37 #[.pointer (some ⟨g,0,none⟩),.int .i64 4] ?_;(with_reducible refine (spec_l1Below.calls g s0_0 t126 t127 4 t128 t129 t130 w0 _ ?_ ?_ A4.out).mono ?_);exact sI831 HI0.out NB0_124.out;exact sB2 HB.out (IsS83.ge HI0.out) GE124.out;rintro e w18 ⟨rfl,hi,hb,hk⟩;refine ⟨_,rfl,?_⟩;replace BK124:=am (KeepBut.blk hk (g':=gb124) (o:=.cells #[.int .i64 0,.int .i64 0,.int .i64 0,.int .i64 0] 58 (0,0)) (bK BK124) NB124_0.out (by simp));replace HK:=am (KeepBut.trans (by exact sK1 HK.out GW124.out) hk (.inl rfl));replace HB:=am (hb);replace HI0:=am (hi);(try clear hb);(try clear hk);(try clear hi))|((with_reducible refine gd 5 ?_);refine bE (N:=5) (cs:=#[.int .i64 0,.int .i64 0,.int .i64 0,.int .i64 0]) (t:=58) ?_;intro gb131 hg w19 hbox hb;have n0_:=am (IsS83.below (by exact sI831 HI0.out NB0_124.out) hb);have n1_:=kb BK124 hb;have n2_:=am (KeepBut.trans (by exact sK1 HK.out GW124.out) (KeepBut.of_below hb g none) (.inl rfl));have n3_:=am (below_step (by exact sB2 HB.out (IsS83.ge HI0.out) GE124.out) hb);have n4_:=am (hbox);have n5_:=am ((by rw [hg];exact (keep_size (w:=w) (g:=g) (row:=none) (by exact sK1 HK.out GW124.out)):w.heap.size≤gb131));have n6_:=am ((Nat.le_trans HW0.out (by rw [hg];exact (keep_size (w:=w) (g:=g) (row:=none) (by exact sK1 HK.out GW124.out)):w.heap.size≤gb131):w0.heap.size≤gb131));have n7_:=nl BK124 hg;have n8_:=nr BK124 hg;have n9_:=am ((by rw [hg];exact Nat.ne_of_lt (IsS83.lt (show IsS83 w0 _ g s0_0 t129 t130 from by exact sI831 HI0.out NB0_124.out)):g≠gb131));have n10_:=am ((by rw [hg];exact Nat.ne_of_gt (IsS83.lt (show IsS83 w0 _ g s0_0 t129 t130 from by exact sI831 HI0.out NB0_124.out)):gb131≠g));clear HI0;clear BK124;clear HK;clear HB;have HI0:=n0_;have BK124:=n1_;have HK:=n2_;have HB:=n3_;have BK131:=n4_;have GW131:=n5_;have GE131:=n6_;have NB124_131:=n7_;have NB131_124:=n8_;have NB0_131:=n9_;have NB131_0:=n10_;clear n0_ n1_ n2_ n3_ n4_ n5_ n6_ n7_ n8_ n9_ n10_;clear hb hbox hg;have hnb20:=NB131_124.out;have hnc20:=NB124_131.out;have hnb21:=NB131_0.out;have hnc21:=NB0_131.out;obtain ⟨_,_,_,_,_,_,_,_⟩:=blkc4 BK131))
 have n0_:Aside0 ((((((w19.setCell ⟨gb131,0,none⟩ (.int .i64 a1)).setCell ⟨gb131,1,none⟩ (.int .i64 (wrap64 (1 + t125)))).setCell ⟨gb131,2,none⟩ (.int .i64 t128)).setCell ⟨gb131,3,none⟩ (.int .i64 0)).setCell ⟨gb131,3,none⟩ (.int .i64 t128)).heap[gb124]?=some (.cells #[.int .i64 0,.int .i64 0,.int .i64 0,.int .i64 0] 58 (0,0))):=⟨kf BK124 NB124_131⟩;have n1_:Aside0 ((((((w19.setCell ⟨gb131,0,none⟩ (.int .i64 a1)).setCell ⟨gb131,1,none⟩ (.int .i64 (wrap64 (1 + t125)))).setCell ⟨gb131,2,none⟩ (.int .i64 t128)).setCell ⟨gb131,3,none⟩ (.int .i64 0)).setCell ⟨gb131,3,none⟩ (.int .i64 t128)).heap[gb131]?=some (.cells #[.int .i64 a1,.int .i64 (wrap64 (1 + t125)),.int .i64 t128,.int .i64 t128] 58 (0,0))):=⟨kp BK131⟩;have n2_:Aside0 (IsS83 w0 (((((w19.setCell ⟨gb131,0,none⟩ (.int .i64 a1)).setCell ⟨gb131,1,none⟩ (.int .i64 (wrap64 (1 + t125)))).setCell ⟨gb131,2,none⟩ (.int .i64 t128)).setCell ⟨gb131,3,none⟩ (.int .i64 0)).setCell ⟨gb131,3,none⟩ (.int .i64 t128)) g s0_0 t129 t130):=⟨by exact sI832 HI0.out NB0_124.out NB0_131.out⟩;have n3_:Aside0 (KeepBut w (((((w19.setCell ⟨gb131,0,none⟩ (.int .i64 a1)).setCell ⟨gb131,1,none⟩ (.int .i64 (wrap64 (1 + t125)))).setCell ⟨gb131,2,none⟩ (.int .i64 t128)).setCell ⟨gb131,3,none⟩ (.int .i64 0)).setCell ⟨gb131,3,none⟩ (.int .i64 t128)) g none):=⟨by exact sK2 HK.out GW124.out GW131.out⟩;have n4_:Aside0 (Below w0.heap.size w0 (((((w19.setCell ⟨gb131,0,none⟩ (.int .i64 a1)).setCell ⟨gb131,1,none⟩ (.int .i64 (wrap64 (1 + t125)))).setCell ⟨gb131,2,none⟩ (.int .i64 t128)).setCell ⟨gb131,3,none⟩ (.int .i64 0)).setCell ⟨gb131,3,none⟩ (.int .i64 t128))):=⟨by exact sB3 HB.out (IsS83.ge HI0.out) GE124.out GE131.out⟩;(try clear BK124);(try clear BK131);(try clear HI0);(try clear HK);(try clear HB);generalize (((((w19.setCell ⟨gb131,0,none⟩ (.int .i64 a1)).setCell ⟨gb131,1,none⟩ (.int .i64 (wrap64 (1 + t125)))).setCell ⟨gb131,2,none⟩ (.int .i64 t128)).setCell ⟨gb131,3,none⟩ (.int .i64 0)).setCell ⟨gb131,3,none⟩ (.int .i64 t128))=w23 at n0_ n1_ n2_ n3_ n4_ ⊢;have BK124:=n0_;have BK131:=n1_;have HI0:=n2_;have HK:=n3_;have HB:=n4_;clear n0_ n1_ n2_ n3_ n4_;replace BK124:=dk BK124;replace BK131:=dk BK131;replace HI0:=am (IsS83.drew HI0.out);replace HK:=am (keep_drew HK.out);have HBo:=HB;replace HB:=db HB;refine sw (ds:=[8]) 9 (mb 9 0) spec_l4Draw.tab4 spec_l4Draw.bits4 (h4 BK131) (fun hHeld HT_ HW_=>?_);generalize w23.drew=w24 at BK124 BK131 HI0 HK HB hHeld ⊢;refine pz [0,3,1,2] ?_;refine oa 4 23 (mb 9 31) HT_ (fun K hK=>?_);refine gA Tryz.func37 #[.pointer (some ⟨g,0,none⟩),.int .i64 3] ?_;(with_reducible refine (spec_l1Below.calls g s0_0 t129 t130 3 t132 t133 t134 w0 _ ?_ ?_ A15.out).mono ?_);exact sI832 HI0.out NB0_124.out NB0_131.out;exact sB3 HB.out (IsS83.ge HI0.out) GE124.out GE131.out;rintro e w25 ⟨rfl,hi,hb,hk⟩;refine ⟨_,rfl,?_⟩;replace BK124:=am (KeepBut.blk hk (g':=gb124) (o:=.cells #[.int .i64 0,.int .i64 0,.int .i64 0,.int .i64 0] 58 (0,0)) (bK BK124) NB124_0.out (by simp));replace BK131:=am (KeepBut.blk hk (g':=gb131) (o:=.cells #[.int .i64 a1,.int .i64 (wrap64 (1 + t125)),.int .i64 t128,.int .i64 t128] 58 (0,0)) (bK BK131) NB131_0.out (by simp));replace HK:=am (KeepBut.trans (by exact sK2 HK.out GW124.out GW131.out) hk (.inl rfl));replace HB:=am (hb);replace HI0:=am (hi);(try clear hb);(try clear hk);(try clear hi);refine hK.out _ _ (cn4 BK131) (fun hHeld=>?_);clear hK K;refine nB ?_;refine pz [5,6,7] ?_;refine last_ (i:=8) (N:=none) (mb 9 511) rfl rfl (one_of HT_.out (by kernel_rfl)) (by decide) (fun K hK=>?_);have hs26:w25.cell? ⟨gb131,3,none⟩=some (.int .i64 t128):=bC BK131 3;have hfs26:=blk_frozen BK131.out 3;have hns26_0:=NB124_131.out;have hms26_0:=NB131_124.out;refine skip_ (w1:=?_) (by rfl) rfl ?_ ?_;rotate_left
 ·go_simp
  rfl
 refine hK.out _ _ ?_;clear hK K;refine eA HT_ ?_;obtain ⟨_,_,_,_,_,_,_,_⟩:=blkc4 BK131;have hnb28:=NB124_0.out;have hnc28:=NB0_124.out;obtain ⟨_,_,_,_,_,_,_,_⟩:=blkc4 BK124;try go_wp2
 refine bodyPost_ret (results_cell_row rfl _ _ gb124 58 #[.int .i64 a1,.int .i64 (wrap64 (1 + t125)),.int .i64 t128,.int .i64 (Int.tmod (wrap64 ((wrap64 (t128 + 1)) + t132)) 4)] (0,0) _ rfl (kP BK124 NB124_131) Tryz.underlying58 rfl (by kernel_rfl)) rfl ?_;exact ⟨rA,by exact sI832 HI0.out NB0_124.out NB0_131.out,by exact sB3 HB.out (IsS83.ge HI0.out) GE124.out GE131.out,by exact sK2 HK.out GW124.out GW131.out⟩

/-! ### spec_l5Draw: function 74 -/
def spec_l5Draw.l0:Nat→List (S58)→Int→List Int→Int→Int→Option ((List (S58)) × Int × Int)
 | 0,_,_,_,_,_=>none
 | k + 1,x3,x4,x1000,x1001,x1002=>(spec_l1Below.f x1000 x1001 x1002 6).bind fun bt138=>(if x4≤(wrap64 (2 + bt138.1)) then ((spec_l4Draw.f x1000 bt138.2.1 bt138.2.2 x4).bind fun bt141=>(if x3.length < 4398046511104 then (spec_l5Draw.l0 k (x3 ++ [(⟨bt141.1,bt141.2.1,bt141.2.2.1,bt141.2.2.2.1⟩:S58)]) (wrap64 (x4 + 1)) x1000 bt141.2.2.2.2.1 bt141.2.2.2.2.2) else (none))) else (some (x3,bt138.2.1,bt138.2.2)))
def spec_l5Draw.f (k:Nat) (s0_0:List Int) (s0_1:Int) (s0_2:Int):Option ((List (S58)) × Int × Int):=spec_l5Draw.l0 k (([]:List (S58))) 1 s0_0 s0_1 s0_2
theorem spec_l5Draw.mono_l:∀ k,(∀ y0 y1 y2 y3 y4,LeO (spec_l5Draw.l0 k y0 y1 y2 y3 y4) (spec_l5Draw.l0 (k + 1) y0 y1 y2 y3 y4))
 | 0=>fun _ _ _ _ _ r h=>by simp [spec_l5Draw.l0] at h
 | k + 1=>by
  have ih0:=spec_l5Draw.mono_l k
  ·intro y0 y1 y2 y3 y4;unfold spec_l5Draw.l0;exact mz1 ih0
theorem spec_l5Draw.mono:∀ a0 a1 a2 k,LeO (spec_l5Draw.f k a0 a1 a2) (spec_l5Draw.f (k + 1) a0 a1 a2):=by
 intro a0 a1 a2 k;have ih0:=spec_l5Draw.mono_l k;unfold spec_l5Draw.f;exact mz1 ih0
set_option maxHeartbeats 8000000 in
set_option maxRecDepth 100000 in
theorem spec_l5Draw.calls (k:Nat) (g:Nat) (s0_0:List Int) (s0_1:Int) (s0_2:Int) (r1:List (S58)) (r2:Int) (r3:Int) (w0 w:World) (hI:IsS83 w0 w g s0_0 s0_1 s0_2) (hB:Below w0.heap.size w0 w) (h:spec_l5Draw.f k s0_0 s0_1 s0_2=some (r1,r2,r3)) :
  Calls Tryz.prog 74 #[.pointer (some ⟨g,0,none⟩)] w fun e w'=>∃ v0_:Value,e=.returned (v0_)∧Kd.R k58 58 w' w.heap.size (fun _=>True) v0_ r1∧IsS83 w0 w' g s0_0 r2 r3∧Below w0.heap.size w0 w'∧KeepBut w w' g none:=by
 have HI0:=am hI;have HK:=am (KeepBut.refl w g none);have HL:=am hB.size;clear hI;have HW0:=am hB.size;have HB:=am hB;clear hB;unfold spec_l5Draw.f at h;have H:=h;clear h;obtain ⟨y135,hy135⟩:∃ y_:List (S58),y_=(([]:List (S58))):=⟨_,rfl⟩;replace H:(spec_l5Draw.l0 k y135 1 s0_0 s0_1 s0_2)=some (r1,r2,r3):=rH H hy135;have Ny135:=am hy135;clear hy135;have H':=am H;clear H;go_enter Tryz.func74,Tryz.ntmps74;go_wp2_with (first|((with_reducible refine gd 5 ?_);refine Kd.R_lit k58 _ 58 ?hg (N:=5) ?hd (xs:=([]:List (S58))) (inner:=[]) (ok:=fun _=>True) (okp:=fun _=>True) ?hr ?hp (fun _ hk=>hk) trivial (Below.refl _ _) (Nat.le_refl _) (by simp) ?_;(case hd=>rfl);(case hg=>rfl);(case hr=>first|(go_simp;done)|(go_simp;rfl));(case hp=>exact (Reps.none _ _));intro v136 w2 ho3 hb hg_ hnew_;clear hg_ hnew_;(first|rw [← Ny135.out] at ho3|(simp only [Int.reduceToNat] at ho3;rw [← Ny135.out] at ho3));have HO137:=am (Kd.R_lower ho3 (keep_size (w:=w) (g:=g) (row:=none) (by exact sK0 HK.out)));replace HK:=am (KeepBut.trans (by exact sK0 HK.out) (KeepBut.of_below hb g none) (.inl rfl));replace HB:=am (below_step (by exact sB1 HB.out (IsS83.ge HI0.out)) hb);replace HI0:=am (IsS83.below (by exact sI830 HI0.out) hb);clear hb ho3));go_loopg [3,4] k (fun kq v3 v4 w'=>∃ (x3_1:List (S58)) (x4_1:Int) (x1001_1:Int) (x1002_1:Int),v4=.int .i64 x4_1∧Aside0 (spec_l5Draw.l0 kq x3_1 x4_1 s0_0 x1001_1 x1002_1=some (r1,r2,r3))∧Aside0 (kq≤k)∧Aside0 (Kd.R k58 58 w' w.heap.size (fun _=>True) v3 x3_1)∧Aside0 (IsS83 w0 w' g s0_0 x1001_1 x1002_1)∧Aside0 (KeepBut w w' g none)∧Aside0 (Below w0.heap.size w0 w'))
 case atStart=>exact ⟨(y135),(1),(s0_1),(s0_2),rS,H',⟨Nat.le_refl _⟩,⟨rK HO137⟩,⟨by exact sI830 HI0.out⟩,⟨by exact sK0 HK.out⟩,⟨by exact sB1 HB.out (IsS83.ge HI0.out)⟩⟩
 case round =>
  clear H';obtain ⟨x3_1,x4_1,x1001_1,x1002_1,rfl,HA,HK1,HO_3,HI0,HK,HB⟩:=hrel
  cases gk with
  | zero=>exact absurd HA.out (by simp [spec_l5Draw.l0])
  | succ k1 =>
   have H:=HA.out;clear HA;simp only [spec_l5Draw.l0] at H;obtain ⟨⟨t138,t139,t140⟩,A4,H⟩:=bindE H;try dsimp only at H
   by_cases c5:x4_1≤(wrap64 (2 + t138))
   ·rw [if_pos c5] at H;have c5b0:=dt c5;clear c5;obtain ⟨⟨t141,t142,t143,t144,t145,t146⟩,A6,H⟩:=bindE H;try dsimp only at H
    have c7:x3_1.length < 4398046511104:=ifN H;replace H:=ifT H;have LMc7:=am c7;clear c7;obtain ⟨y147,hy147⟩:∃ y_:List (S58),y_=(x3_1 ++ [(⟨t141,t142,t143,t144⟩:S58)]):=⟨_,rfl⟩;replace H:=rF H hy147;have Ny147:=am hy147;clear hy147;have H':=am H;clear H;go_wp2_with (first|((with_reducible refine gc 37 ?_);refine gL (some 8) Tryz.func37 #[.pointer (some ⟨g,0,none⟩),.int .i64 6] ?_;(with_reducible refine (spec_l1Below.calls g s0_0 x1001_1 x1002_1 6 t138 t139 t140 w0 _ ?_ ?_ A4.out).mono ?_);exact sI830 HI0.out;exact sB1 HB.out (IsS83.ge HI0.out);rintro e w8 ⟨rfl,hi,hb,hk⟩;refine ⟨_,rfl,?_⟩;replace HO_3:=am (Kd.R_mono (Kd.R_keep (IsS83.apart (show IsS83 w0 _ g s0_0 x1001_1 x1002_1 from by exact sI830 HI0.out) (rK HO_3) (by decide)) hk (fun _ h=>h.2)) (fun _ h=>h.1));replace HK:=am (KeepBut.trans (by exact sK0 HK.out) hk (.inl rfl));replace HB:=am (hb);replace HI0:=am (hi);(try clear hb);(try clear hk);(try clear hi))|((with_reducible refine gc 81 ?_);refine gL (some 16) Tryz.func81 #[.pointer (some ⟨g,0,none⟩),.int .i64 x4_1] ?_;(with_reducible refine (spec_l4Draw.calls g s0_0 t139 t140 x4_1 t141 t142 t143 t144 t145 t146 w0 _ ?_ ?_ A6.out).mono ?_);exact sI830 HI0.out;exact sB1 HB.out (IsS83.ge HI0.out);rintro e w9 ⟨rfl,hi,hb,hk⟩;refine ⟨_,rfl,?_⟩;replace HO_3:=am (Kd.R_mono (Kd.R_keep (IsS83.apart (show IsS83 w0 _ g s0_0 t139 t140 from by exact sI830 HI0.out) (rK HO_3) (by decide)) hk (fun _ h=>h.2)) (fun _ h=>h.1));replace HK:=am (KeepBut.trans (by exact sK0 HK.out) hk (.inl rfl));replace HB:=am (hb);replace HI0:=am (hi);(try clear hb);(try clear hk);(try clear hi))|((with_reducible refine gate_builtin (b:=.append) (xs:=#[.tmp 13,.tmp 17]) rfl ?_);at_builtin;refine Kd.R_append k58 w.heap.size rfl (.tmp 13) (.tmp 17) 24 58 (.agg #[(.int .i64 0),(.int .i64 0),(.int .i64 0),(.int .i64 0)]) 32 rfl Tryz.underlying24 info58 rfl (by decide) (by omega) u3 x3_1 (⟨t141,t142,t143,t144⟩:S58) [.int .i64 t141,.int .i64 t142,.int .i64 t143,.int .i64 t144] (fun _=>True) (fun _=>False) rfl rfl ?aP (fun _ hk=>hk.elim) ?aF ?aO (Below.refl _ _) ?aS ?aL ?_;(case aP=>exact k58_mkM _ _ _ (⟨t141,t142,t143,t144⟩:S58));(case aF=>exact (fun _ _=>trivial));(case aO=>exact (rK HO_3));(case aS=>exact (keep_size (w:=w) (g:=g) (row:=none) (by exact sK0 HK.out)));(case aL=>have:=LMc7.out;omega);intro v148 w10 ho hb hg hat;rw [← Ny147.out] at ho;have n0_:=am (IsS83.grown (by exact sI830 HI0.out) hg (IsS83.own_ne HI0.out HO_3.out (by decide)));have n1_:=am (below_weaken (by exact sB1 HB.out (IsS83.ge HI0.out)) HL.out hb);have n2_:=am (KeepBut.trans (by exact sK0 HK.out) (KeepBut.of_grown hg g) (Kd.R_base2 HO_3.out));have n3_:=am (ho);clear HI0;clear HB;clear HK;clear HO_3;have HI0:=n0_;have HB:=n1_;have HK:=n2_;have HO149:=n3_;clear n0_ n1_ n2_ n3_;clear ho hb hg hat));go_roundg k1
    case measure=>have:=HK1.out;omega
    case rel=>exact ⟨(y147),(wrap64 (x4_1 + 1)),(t145),(t146),rS,H',⟨by have:=HK1.out;omega⟩,⟨rK HO149⟩,⟨by exact sI830 HI0.out⟩,⟨by exact sK0 HK.out⟩,⟨by exact sB1 HB.out (IsS83.ge HI0.out)⟩⟩
   rw [if_neg c5] at H;have c5b0:=df c5;clear c5;simp only [Option.some.injEq,Prod.mk.injEq] at H;obtain ⟨rfl,rfl,rfl⟩:=H;go_wp2_with (first|((with_reducible refine gc 37 ?_);refine gL (some 8) Tryz.func37 #[.pointer (some ⟨g,0,none⟩),.int .i64 6] ?_;(with_reducible refine (spec_l1Below.calls g s0_0 x1001_1 x1002_1 6 t138 t139 t140 w0 _ ?_ ?_ A4.out).mono ?_);exact sI830 HI0.out;exact sB1 HB.out (IsS83.ge HI0.out);rintro e w11 ⟨rfl,hi,hb,hk⟩;refine ⟨_,rfl,?_⟩;replace HO_3:=am (Kd.R_mono (Kd.R_keep (IsS83.apart (show IsS83 w0 _ g s0_0 x1001_1 x1002_1 from by exact sI830 HI0.out) (rK HO_3) (by decide)) hk (fun _ h=>h.2)) (fun _ h=>h.1));replace HK:=am (KeepBut.trans (by exact sK0 HK.out) hk (.inl rfl));replace HB:=am (hb);replace HI0:=am (hi);(try clear hb);(try clear hk);(try clear hi)));go_ret;exact ⟨_,rA,rK HO_3,by exact sI830 HI0.out,by exact sB1 HB.out (IsS83.ge HI0.out),by exact sK0 HK.out⟩

/-! ### spec_l4Raw: function 82 -/
def spec_l4Raw.f (s0_0:List Int) (s0_1:Int) (s0_2:Int):Option (Int × Int × Int):=(spec_l1Int.f s0_0 s0_1 s0_2 (([(-1),0,4,7,20,21,9223372036854775807,(-9223372036854775808)]:List Int))).bind fun bt153=>(some (bt153.1,bt153.2.1,bt153.2.2))
set_option maxHeartbeats 8000000 in
set_option maxRecDepth 100000 in
theorem spec_l4Raw.calls (g:Nat) (s0_0:List Int) (s0_1:Int) (s0_2:Int) (r1:Int) (r2:Int) (r3:Int) (w0 w:World) (hI:IsS83 w0 w g s0_0 s0_1 s0_2) (hB:Below w0.heap.size w0 w) (h:spec_l4Raw.f s0_0 s0_1 s0_2=some (r1,r2,r3)) :
  Calls Tryz.prog 82 #[.pointer (some ⟨g,0,none⟩)] w fun e w'=>e=.returned (.int .i64 r1)∧IsS83 w0 w' g s0_0 r2 r3∧Below w0.heap.size w0 w'∧KeepBut w w' g none:=by
 have HI0:=am hI;have HK:=am (KeepBut.refl w g none);have HL:=am hB.size;clear hI;have HW0:=am hB.size;have HB:=am hB;clear hB;unfold spec_l4Raw.f at h;have H:=h;clear h;obtain ⟨y150,hy150⟩:∃ y_:List Int,y_=(([(-1),0,4,7,20,21,9223372036854775807,(-9223372036854775808)]:List Int)):=⟨_,rfl⟩;replace H:=rF H hy150;have Ny150:=am hy150;clear hy150;obtain ⟨⟨t153,t154,t155⟩,A2,H⟩:=bindE H;try dsimp only at H
 simp only [Option.some.injEq,Prod.mk.injEq] at H;obtain ⟨rfl,rfl,rfl⟩:=H;go_enter Tryz.func82,Tryz.ntmps82;go_wp2_with (first|((with_reducible refine gd 4 ?_);refine Kd.R_lit (Kd.int .i64) _ 3 ?hg (N:=4) ?hd (xs:=([(-1),0,4,7,20,21,9223372036854775807,(-9223372036854775808)]:List Int)) (inner:=[.int .i64 (-1),.int .i64 0,.int .i64 4,.int .i64 7,.int .i64 20,.int .i64 21,.int .i64 9223372036854775807,.int .i64 (-9223372036854775808)]) (ok:=fun _=>True) (okp:=fun _=>True) ?hr ?hp (fun _ hk=>hk) trivial (Below.refl _ _) (Nat.le_refl _) (by simp) ?_;(case hd=>rfl);(case hg=>rfl);(case hr=>first|(go_simp;done)|(go_simp;rfl));(case hp=>exact (Reps.one (show Kd.M (Kd.int .i64) _ _ _ (-1) [.int .i64 (-1)] from rfl) (Reps.one (show Kd.M (Kd.int .i64) _ _ _ 0 [.int .i64 0] from rfl) (Reps.one (show Kd.M (Kd.int .i64) _ _ _ 4 [.int .i64 4] from rfl) (Reps.one (show Kd.M (Kd.int .i64) _ _ _ 7 [.int .i64 7] from rfl) (Reps.one (show Kd.M (Kd.int .i64) _ _ _ 20 [.int .i64 20] from rfl) (Reps.one (show Kd.M (Kd.int .i64) _ _ _ 21 [.int .i64 21] from rfl) (Reps.one (show Kd.M (Kd.int .i64) _ _ _ 9223372036854775807 [.int .i64 9223372036854775807] from rfl) (Reps.one (show Kd.M (Kd.int .i64) _ _ _ (-9223372036854775808) [.int .i64 (-9223372036854775808)] from rfl) (Reps.none _ _))))))))));intro v151 w3 ho4 hb hg_ hnew_;clear hg_ hnew_;(first|rw [← Ny150.out] at ho4|(simp only [Int.reduceToNat] at ho4;rw [← Ny150.out] at ho4));have HO152:=am (Kd.R_lower ho4 (keep_size (w:=w) (g:=g) (row:=none) (by exact sK0 HK.out)));replace HK:=am (KeepBut.trans (by exact sK0 HK.out) (KeepBut.of_below hb g none) (.inl rfl));replace HB:=am (below_step (by exact sB1 HB.out (IsS83.ge HI0.out)) hb);replace HI0:=am (IsS83.below (by exact sI830 HI0.out) hb);clear hb ho4;obtain ⟨Ao5,co5,eo5⟩:=Kd.R_slice HO152.out;subst eo5)|((with_reducible refine gc 58 ?_);refine gL (some 5) Tryz.func58 #[.pointer (some ⟨g,0,none⟩),.slice Ao5 y150.length co5] ?_;(with_reducible refine (spec_l1Int.calls g s0_0 s0_1 s0_2 _ _ y150 t153 t154 t155 w0 _ ?_ ?_ ?_ ?_ ?_ A2.out).mono ?_);exact sI830 HI0.out;exact sB1 HB.out (IsS83.ge HI0.out);exact cO ⟨(Kd.R_reads' HO152.out).2.2⟩;exact (Kd.R_reads' HO152.out).2.1;exact far_slice (IsS83.own_ne HI0.out HO152.out (by decide));rintro e w6 ⟨rfl,hi,hb,hk⟩;refine ⟨_,rfl,?_⟩;replace HO152:=am (Kd.R_mono (Kd.R_keep (IsS83.apart (show IsS83 w0 _ g s0_0 s0_1 s0_2 from by exact sI830 HI0.out) (rK HO152) (by decide)) hk (fun _ h=>h.2)) (fun _ h=>h.1));replace HK:=am (KeepBut.trans (by exact sK0 HK.out) hk (.inl rfl));replace HB:=am (hb);replace HI0:=am (hi);(try clear hb);(try clear hk);(try clear hi)));go_ret;exact ⟨rA,by exact sI830 HI0.out,by exact sB1 HB.out (IsS83.ge HI0.out),by exact sK0 HK.out⟩

/-! ### spec_l4Any: function 75 -/
def spec_l4Any.f (s0_0:List Int) (s0_1:Int) (s0_2:Int):Option (Int × Int × Int × Int × Int × Int):=(spec_l1Below.f s0_0 s0_1 s0_2 20).bind fun bt157=>((spec_l4Draw.f s0_0 bt157.2.1 bt157.2.2 (wrap64 (1 + bt157.1))).bind fun bt160=>((spec_l1Below.f s0_0 bt160.2.2.2.2.1 bt160.2.2.2.2.2 10).bind fun bt167=>(if bt167.1=0 then ((spec_l1Int.f s0_0 bt167.2.1 bt167.2.2 (([0,20,21]:List Int))).bind fun bt173=>(some (bt173.1,bt160.2.1,bt160.2.2.1,bt160.2.2.2.1,bt173.2.1,bt173.2.2))) else (if bt167.1=1 then ((spec_l1Int.f s0_0 bt167.2.1 bt167.2.2 (([0,2,4]:List Int))).bind fun bt179=>(some (bt160.1,bt179.1,bt160.2.2.1,bt160.2.2.2.1,bt179.2.1,bt179.2.2))) else (if bt167.1=2 then ((spec_l4Raw.f s0_0 bt167.2.1 bt167.2.2).bind fun bt182=>(some (bt160.1,bt160.2.1,bt182.1,bt160.2.2.2.1,bt182.2.1,bt182.2.2))) else (if bt167.1=3 then ((spec_l4Raw.f s0_0 bt167.2.1 bt167.2.2).bind fun bt185=>(some (bt160.1,bt160.2.1,bt160.2.2.1,bt185.1,bt185.2.1,bt185.2.2))) else (some (bt160.1,bt160.2.1,bt160.2.2.1,bt160.2.2.2.1,bt167.2.1,bt167.2.2))))))))
set_option maxHeartbeats 8000000 in
set_option maxRecDepth 100000 in
theorem spec_l4Any.calls (g:Nat) (s0_0:List Int) (s0_1:Int) (s0_2:Int) (r1:Int) (r2:Int) (r3:Int) (r4:Int) (r5:Int) (r6:Int) (w0 w:World) (hI:IsS83 w0 w g s0_0 s0_1 s0_2) (hB:Below w0.heap.size w0 w) (h:spec_l4Any.f s0_0 s0_1 s0_2=some (r1,r2,r3,r4,r5,r6)) :
  Calls Tryz.prog 75 #[.pointer (some ⟨g,0,none⟩)] w fun e w'=>e=.returned (.agg #[.int .i64 r1,.int .i64 r2,.int .i64 r3,.int .i64 r4])∧IsS83 w0 w' g s0_0 r5 r6∧Below w0.heap.size w0 w'∧KeepBut w w' g none:=by
 have hu58:=Tryz.underlying58;have HI0:=am hI;have HK:=am (KeepBut.refl w g none);have HL:=am hB.size;clear hI;have HW0:=am hB.size;have HB:=am hB;clear hB;unfold spec_l4Any.f at h;have H:=h;clear h;obtain ⟨⟨t157,t158,t159⟩,A2,H⟩:=bindE H;try dsimp only at H
 obtain ⟨⟨t160,t161,t162,t163,t164,t165⟩,A3,H⟩:=bindE H;try dsimp only at H
 obtain ⟨⟨t167,t168,t169⟩,A4,H⟩:=bindE H;try dsimp only at H
 go_enter Tryz.func75,Tryz.ntmps75;go_upto_region 3 with (first|((with_reducible refine gd 2 ?_);refine bE (N:=2) (cs:=#[.int .i64 0,.int .i64 0,.int .i64 0,.int .i64 0]) (t:=58) ?_;intro gb156 hg w7 hbox hb;have n0_:=am (IsS83.below (by exact sI830 HI0.out) hb);have n1_:=am (KeepBut.trans (by exact sK0 HK.out) (KeepBut.of_below hb g none) (.inl rfl));have n2_:=am (below_step (by exact sB1 HB.out (IsS83.ge HI0.out)) hb);have n3_:=am (hbox);have n4_:=am ((by rw [hg];exact (keep_size (w:=w) (g:=g) (row:=none) (by exact sK0 HK.out)):w.heap.size≤gb156));have n5_:=am ((Nat.le_trans HW0.out (by rw [hg];exact (keep_size (w:=w) (g:=g) (row:=none) (by exact sK0 HK.out)):w.heap.size≤gb156):w0.heap.size≤gb156));have n6_:=am ((by rw [hg];exact Nat.ne_of_lt (IsS83.lt (show IsS83 w0 _ g s0_0 s0_1 s0_2 from by exact sI830 HI0.out)):g≠gb156));have n7_:=am ((by rw [hg];exact Nat.ne_of_gt (IsS83.lt (show IsS83 w0 _ g s0_0 s0_1 s0_2 from by exact sI830 HI0.out)):gb156≠g));clear HI0;clear HK;clear HB;have HI0:=n0_;have HK:=n1_;have HB:=n2_;have BK156:=n3_;have GW156:=n4_;have GE156:=n5_;have NB0_156:=n6_;have NB156_0:=n7_;clear n0_ n1_ n2_ n3_ n4_ n5_ n6_ n7_;clear hb hbox hg)|((with_reducible refine gc 37 ?_);refine gL (some 6) Tryz.func37 #[.pointer (some ⟨g,0,none⟩),.int .i64 20] ?_;(with_reducible refine (spec_l1Below.calls g s0_0 s0_1 s0_2 20 t157 t158 t159 w0 _ ?_ ?_ A2.out).mono ?_);exact sI831 HI0.out NB0_156.out;exact sB2 HB.out (IsS83.ge HI0.out) GE156.out;rintro e w8 ⟨rfl,hi,hb,hk⟩;refine ⟨_,rfl,?_⟩;replace BK156:=am (KeepBut.blk hk (g':=gb156) (o:=.cells #[.int .i64 0,.int .i64 0,.int .i64 0,.int .i64 0] 58 (0,0)) (bK BK156) NB156_0.out (by simp));replace HK:=am (KeepBut.trans (by exact sK1 HK.out GW156.out) hk (.inl rfl));replace HB:=am (hb);replace HI0:=am (hi);(try clear hb);(try clear hk);(try clear hi))|((with_reducible refine gc 81 ?_);refine gL (some 8) Tryz.func81 #[.pointer (some ⟨g,0,none⟩),.int .i64 (wrap64 (1 + t157))] ?_;(with_reducible refine (spec_l4Draw.calls g s0_0 t158 t159 (wrap64 (1 + t157)) t160 t161 t162 t163 t164 t165 w0 _ ?_ ?_ A3.out).mono ?_);exact sI831 HI0.out NB0_156.out;exact sB2 HB.out (IsS83.ge HI0.out) GE156.out;rintro e w9 ⟨rfl,hi,hb,hk⟩;refine ⟨_,rfl,?_⟩;replace BK156:=am (KeepBut.blk hk (g':=gb156) (o:=.cells #[.int .i64 0,.int .i64 0,.int .i64 0,.int .i64 0] 58 (0,0)) (bK BK156) NB156_0.out (by simp));replace HK:=am (KeepBut.trans (by exact sK1 HK.out GW156.out) hk (.inl rfl));replace HB:=am (hb);replace HI0:=am (hi);(try clear hb);(try clear hk);(try clear hi))|((with_reducible refine gd 3 ?_);refine bE (N:=3) (cs:=#[.int .i64 0,.int .i64 0,.int .i64 0,.int .i64 0]) (t:=58) ?_;intro gb166 hg w10 hbox hb;have n0_:=am (IsS83.below (by exact sI831 HI0.out NB0_156.out) hb);have n1_:=kb BK156 hb;have n2_:=am (KeepBut.trans (by exact sK1 HK.out GW156.out) (KeepBut.of_below hb g none) (.inl rfl));have n3_:=am (below_step (by exact sB2 HB.out (IsS83.ge HI0.out) GE156.out) hb);have n4_:=am (hbox);have n5_:=am ((by rw [hg];exact (keep_size (w:=w) (g:=g) (row:=none) (by exact sK1 HK.out GW156.out)):w.heap.size≤gb166));have n6_:=am ((Nat.le_trans HW0.out (by rw [hg];exact (keep_size (w:=w) (g:=g) (row:=none) (by exact sK1 HK.out GW156.out)):w.heap.size≤gb166):w0.heap.size≤gb166));have n7_:=nl BK156 hg;have n8_:=nr BK156 hg;have n9_:=am ((by rw [hg];exact Nat.ne_of_lt (IsS83.lt (show IsS83 w0 _ g s0_0 t164 t165 from by exact sI831 HI0.out NB0_156.out)):g≠gb166));have n10_:=am ((by rw [hg];exact Nat.ne_of_gt (IsS83.lt (show IsS83 w0 _ g s0_0 t164 t165 from by exact sI831 HI0.out NB0_156.out)):gb166≠g));clear HI0;clear BK156;clear HK;clear HB;have HI0:=n0_;have BK156:=n1_;have HK:=n2_;have HB:=n3_;have BK166:=n4_;have GW166:=n5_;have GE166:=n6_;have NB156_166:=n7_;have NB166_156:=n8_;have NB0_166:=n9_;have NB166_0:=n10_;clear n0_ n1_ n2_ n3_ n4_ n5_ n6_ n7_ n8_ n9_ n10_;clear hb hbox hg;have hnb11:=NB166_156.out;have hnc11:=NB156_166.out;have hnb12:=NB166_0.out;have hnc12:=NB0_166.out;obtain ⟨_,_,_,_,_,_,_,_⟩:=blkc4 BK166)|((with_reducible refine gc 37 ?_);refine gL (some 10) Tryz.func37 #[.pointer (some ⟨g,0,none⟩),.int .i64 10] ?_;(with_reducible refine (spec_l1Below.calls g s0_0 t164 t165 10 t167 t168 t169 w0 _ ?_ ?_ A4.out).mono ?_);exact sI832 HI0.out NB0_156.out NB0_166.out;exact sB3 HB.out (IsS83.ge HI0.out) GE156.out GE166.out;rintro e w14 ⟨rfl,hi,hb,hk⟩;refine ⟨_,rfl,?_⟩;replace BK156:=am (KeepBut.blk hk (g':=gb156) (o:=.cells #[.int .i64 0,.int .i64 0,.int .i64 0,.int .i64 0] 58 (0,0)) (kf BK156 NB156_166) NB156_0.out (by simp));replace BK166:=am (KeepBut.blk hk (g':=gb166) (o:=.cells #[.int .i64 t160,.int .i64 t161,.int .i64 t162,.int .i64 t163] 58 (0,0)) (kp BK166) NB166_0.out (by simp));replace HK:=am (KeepBut.trans (by exact sK2 HK.out GW156.out GW166.out) hk (.inl rfl));replace HB:=am (hb);replace HI0:=am (hi);(try clear hb);(try clear hk);(try clear hi)))
 by_cases c5:t167=0
 ·rw [if_pos c5] at H;obtain ⟨c5b0,c5b1⟩:=eI c5;clear c5;obtain ⟨y170,hy170⟩:∃ y_:List Int,y_=(([0,20,21]:List Int)):=⟨_,rfl⟩;replace H:=rF H hy170;have Ny170:=am hy170;clear hy170;obtain ⟨⟨t173,t174,t175⟩,A6,H⟩:=bindE H;try dsimp only at H
  simp only [Option.some.injEq,Prod.mk.injEq] at H;obtain ⟨rfl,rfl,rfl,rfl,rfl,rfl⟩:=H;go_wp2_with (first|((with_reducible refine gd 14 ?_);refine Kd.R_lit (Kd.int .i64) _ 3 ?hg (N:=14) ?hd (xs:=([0,20,21]:List Int)) (inner:=[.int .i64 0,.int .i64 20,.int .i64 21]) (ok:=fun _=>True) (okp:=fun _=>True) ?hr ?hp (fun _ hk=>hk) trivial (Below.refl _ _) (Nat.le_refl _) (by simp) ?_;(case hd=>rfl);(case hg=>rfl);(case hr=>first|(go_simp;done)|(go_simp;rfl));(case hp=>exact (Reps.one (show Kd.M (Kd.int .i64) _ _ _ 0 [.int .i64 0] from rfl) (Reps.one (show Kd.M (Kd.int .i64) _ _ _ 20 [.int .i64 20] from rfl) (Reps.one (show Kd.M (Kd.int .i64) _ _ _ 21 [.int .i64 21] from rfl) (Reps.none _ _)))));intro v171 w15 ho16 hb hg_ hnew_;clear hg_ hnew_;(first|rw [← Ny170.out] at ho16|(simp only [Int.reduceToNat] at ho16;rw [← Ny170.out] at ho16));have HO172:=am (Kd.R_lower ho16 (keep_size (w:=w) (g:=g) (row:=none) (by exact sK2 HK.out GW156.out GW166.out)));replace BK156:=kb BK156 hb;replace BK166:=kb BK166 hb;replace HK:=am (KeepBut.trans (by exact sK2 HK.out GW156.out GW166.out) (KeepBut.of_below hb g none) (.inl rfl));replace HB:=am (below_step (by exact sB3 HB.out (IsS83.ge HI0.out) GE156.out GE166.out) hb);replace HI0:=am (IsS83.below (by exact sI832 HI0.out NB0_156.out NB0_166.out) hb);clear hb ho16;obtain ⟨Ao17,co17,eo17⟩:=Kd.R_slice HO172.out;subst eo17)|((with_reducible refine gc 58 ?_);refine gL (some 15) Tryz.func58 #[.pointer (some ⟨g,0,none⟩),.slice Ao17 y170.length co17] ?_;(with_reducible refine (spec_l1Int.calls g s0_0 t168 t169 _ _ y170 t173 t174 t175 w0 _ ?_ ?_ ?_ ?_ ?_ A6.out).mono ?_);exact sI832 HI0.out NB0_156.out NB0_166.out;exact sB3 HB.out (IsS83.ge HI0.out) GE156.out GE166.out;exact cO ⟨(Kd.R_reads' HO172.out).2.2⟩;exact (Kd.R_reads' HO172.out).2.1;exact far_slice (IsS83.own_ne HI0.out HO172.out (by decide));rintro e w18 ⟨rfl,hi,hb,hk⟩;refine ⟨_,rfl,?_⟩;replace BK156:=am (KeepBut.blk hk (g':=gb156) (o:=.cells #[.int .i64 0,.int .i64 0,.int .i64 0,.int .i64 0] 58 (0,0)) (bK BK156) NB156_0.out (by simp));replace BK166:=am (KeepBut.blk hk (g':=gb166) (o:=.cells #[.int .i64 t160,.int .i64 t161,.int .i64 t162,.int .i64 t163] 58 (0,0)) (bK BK166) NB166_0.out (by simp));replace HO172:=am (Kd.R_mono (Kd.R_keep (IsS83.apart (show IsS83 w0 _ g s0_0 t168 t169 from by exact sI832 HI0.out NB0_156.out NB0_166.out) (rK HO172) (by decide)) hk (fun _ h=>h.2)) (fun _ h=>h.1));replace HK:=am (KeepBut.trans (by exact sK2 HK.out GW156.out GW166.out) hk (.inl rfl));replace HB:=am (hb);replace HI0:=am (hi);(try clear hb);(try clear hk);(try clear hi);obtain ⟨_,_,_,_,_,_,_,_⟩:=blkc4 BK166;have hnb20:=NB156_0.out;have hnc20:=NB0_156.out;obtain ⟨_,_,_,_,_,_,_,_⟩:=blkc4 BK156));refine bodyPost_ret (results_cell_row rfl _ _ gb156 58 #[.int .i64 t173,.int .i64 t161,.int .i64 t162,.int .i64 t163] (0,0) _ rfl (kP BK156 NB156_166) Tryz.underlying58 rfl (by kernel_rfl)) rfl ?_;exact ⟨rA,by exact sI832 HI0.out NB0_156.out NB0_166.out,by exact sB3 HB.out (IsS83.ge HI0.out) GE156.out GE166.out,by exact sK2 HK.out GW156.out GW166.out⟩
 rw [if_neg c5] at H;obtain ⟨c5b0,c5b1⟩:=nI c5;by_cases c22:t167=1
 ·rw [if_pos c22] at H;obtain ⟨c22b0,c22b1⟩:=eI c22;clear c22;obtain ⟨y176,hy176⟩:∃ y_:List Int,y_=(([0,2,4]:List Int)):=⟨_,rfl⟩;replace H:=rF H hy176;have Ny176:=am hy176;clear hy176;obtain ⟨⟨t179,t180,t181⟩,A23,H⟩:=bindE H;try dsimp only at H
  simp only [Option.some.injEq,Prod.mk.injEq] at H;obtain ⟨rfl,rfl,rfl,rfl,rfl,rfl⟩:=H;go_wp2_with (first|((with_reducible refine gd 20 ?_);refine Kd.R_lit (Kd.int .i64) _ 3 ?hg (N:=20) ?hd (xs:=([0,2,4]:List Int)) (inner:=[.int .i64 0,.int .i64 2,.int .i64 4]) (ok:=fun _=>True) (okp:=fun _=>True) ?hr ?hp (fun _ hk=>hk) trivial (Below.refl _ _) (Nat.le_refl _) (by simp) ?_;(case hd=>rfl);(case hg=>rfl);(case hr=>first|(go_simp;done)|(go_simp;rfl));(case hp=>exact (Reps.one (show Kd.M (Kd.int .i64) _ _ _ 0 [.int .i64 0] from rfl) (Reps.one (show Kd.M (Kd.int .i64) _ _ _ 2 [.int .i64 2] from rfl) (Reps.one (show Kd.M (Kd.int .i64) _ _ _ 4 [.int .i64 4] from rfl) (Reps.none _ _)))));intro v177 w32 ho33 hb hg_ hnew_;clear hg_ hnew_;(first|rw [← Ny176.out] at ho33|(simp only [Int.reduceToNat] at ho33;rw [← Ny176.out] at ho33));have HO178:=am (Kd.R_lower ho33 (keep_size (w:=w) (g:=g) (row:=none) (by exact sK2 HK.out GW156.out GW166.out)));replace BK156:=kb BK156 hb;replace BK166:=kb BK166 hb;replace HK:=am (KeepBut.trans (by exact sK2 HK.out GW156.out GW166.out) (KeepBut.of_below hb g none) (.inl rfl));replace HB:=am (below_step (by exact sB3 HB.out (IsS83.ge HI0.out) GE156.out GE166.out) hb);replace HI0:=am (IsS83.below (by exact sI832 HI0.out NB0_156.out NB0_166.out) hb);clear hb ho33;obtain ⟨Ao34,co34,eo34⟩:=Kd.R_slice HO178.out;subst eo34)|((with_reducible refine gc 58 ?_);refine gL (some 21) Tryz.func58 #[.pointer (some ⟨g,0,none⟩),.slice Ao34 y176.length co34] ?_;(with_reducible refine (spec_l1Int.calls g s0_0 t168 t169 _ _ y176 t179 t180 t181 w0 _ ?_ ?_ ?_ ?_ ?_ A23.out).mono ?_);exact sI832 HI0.out NB0_156.out NB0_166.out;exact sB3 HB.out (IsS83.ge HI0.out) GE156.out GE166.out;exact cO ⟨(Kd.R_reads' HO178.out).2.2⟩;exact (Kd.R_reads' HO178.out).2.1;exact far_slice (IsS83.own_ne HI0.out HO178.out (by decide));rintro e w35 ⟨rfl,hi,hb,hk⟩;refine ⟨_,rfl,?_⟩;replace BK156:=am (KeepBut.blk hk (g':=gb156) (o:=.cells #[.int .i64 0,.int .i64 0,.int .i64 0,.int .i64 0] 58 (0,0)) (bK BK156) NB156_0.out (by simp));replace BK166:=am (KeepBut.blk hk (g':=gb166) (o:=.cells #[.int .i64 t160,.int .i64 t161,.int .i64 t162,.int .i64 t163] 58 (0,0)) (bK BK166) NB166_0.out (by simp));replace HO178:=am (Kd.R_mono (Kd.R_keep (IsS83.apart (show IsS83 w0 _ g s0_0 t168 t169 from by exact sI832 HI0.out NB0_156.out NB0_166.out) (rK HO178) (by decide)) hk (fun _ h=>h.2)) (fun _ h=>h.1));replace HK:=am (KeepBut.trans (by exact sK2 HK.out GW156.out GW166.out) hk (.inl rfl));replace HB:=am (hb);replace HI0:=am (hi);(try clear hb);(try clear hk);(try clear hi);obtain ⟨_,_,_,_,_,_,_,_⟩:=blkc4 BK166;have hnb37:=NB156_0.out;have hnc37:=NB0_156.out;obtain ⟨_,_,_,_,_,_,_,_⟩:=blkc4 BK156));refine bodyPost_ret (results_cell_row rfl _ _ gb156 58 #[.int .i64 t160,.int .i64 t179,.int .i64 t162,.int .i64 t163] (0,0) _ rfl (kP BK156 NB156_166) Tryz.underlying58 rfl (by kernel_rfl)) rfl ?_;exact ⟨rA,by exact sI832 HI0.out NB0_156.out NB0_166.out,by exact sB3 HB.out (IsS83.ge HI0.out) GE156.out GE166.out,by exact sK2 HK.out GW156.out GW166.out⟩
 rw [if_neg c22] at H;obtain ⟨c22b0,c22b1⟩:=nI c22;by_cases c39:t167=2
 ·rw [if_pos c39] at H;obtain ⟨c39b0,c39b1⟩:=eI c39;clear c39;obtain ⟨⟨t182,t183,t184⟩,A40,H⟩:=bindE H;try dsimp only at H
  simp only [Option.some.injEq,Prod.mk.injEq] at H;obtain ⟨rfl,rfl,rfl,rfl,rfl,rfl⟩:=H;go_wp2_with (first|((with_reducible refine gc 82 ?_);refine gL (some 26) Tryz.func82 #[.pointer (some ⟨g,0,none⟩)] ?_;(with_reducible refine (spec_l4Raw.calls g s0_0 t168 t169 t182 t183 t184 w0 _ ?_ ?_ A40.out).mono ?_);exact sI832 HI0.out NB0_156.out NB0_166.out;exact sB3 HB.out (IsS83.ge HI0.out) GE156.out GE166.out;rintro e w49 ⟨rfl,hi,hb,hk⟩;refine ⟨_,rfl,?_⟩;replace BK156:=am (KeepBut.blk hk (g':=gb156) (o:=.cells #[.int .i64 0,.int .i64 0,.int .i64 0,.int .i64 0] 58 (0,0)) (bK BK156) NB156_0.out (by simp));replace BK166:=am (KeepBut.blk hk (g':=gb166) (o:=.cells #[.int .i64 t160,.int .i64 t161,.int .i64 t162,.int .i64 t163] 58 (0,0)) (bK BK166) NB166_0.out (by simp));replace HK:=am (KeepBut.trans (by exact sK2 HK.out GW156.out GW166.out) hk (.inl rfl));replace HB:=am (hb);replace HI0:=am (hi);(try clear hb);(try clear hk);(try clear hi);obtain ⟨_,_,_,_,_,_,_,_⟩:=blkc4 BK166;have hnb51:=NB156_0.out;have hnc51:=NB0_156.out;obtain ⟨_,_,_,_,_,_,_,_⟩:=blkc4 BK156));refine bodyPost_ret (results_cell_row rfl _ _ gb156 58 #[.int .i64 t160,.int .i64 t161,.int .i64 t182,.int .i64 t163] (0,0) _ rfl (kP BK156 NB156_166) Tryz.underlying58 rfl (by kernel_rfl)) rfl ?_;exact ⟨rA,by exact sI832 HI0.out NB0_156.out NB0_166.out,by exact sB3 HB.out (IsS83.ge HI0.out) GE156.out GE166.out,by exact sK2 HK.out GW156.out GW166.out⟩
 rw [if_neg c39] at H;obtain ⟨c39b0,c39b1⟩:=nI c39;by_cases c53:t167=3
 ·rw [if_pos c53] at H;obtain ⟨c53b0,c53b1⟩:=eI c53;clear c53;obtain ⟨⟨t185,t186,t187⟩,A54,H⟩:=bindE H;try dsimp only at H
  simp only [Option.some.injEq,Prod.mk.injEq] at H;obtain ⟨rfl,rfl,rfl,rfl,rfl,rfl⟩:=H;go_wp2_with (first|((with_reducible refine gc 82 ?_);refine gL (some 31) Tryz.func82 #[.pointer (some ⟨g,0,none⟩)] ?_;(with_reducible refine (spec_l4Raw.calls g s0_0 t168 t169 t185 t186 t187 w0 _ ?_ ?_ A54.out).mono ?_);exact sI832 HI0.out NB0_156.out NB0_166.out;exact sB3 HB.out (IsS83.ge HI0.out) GE156.out GE166.out;rintro e w63 ⟨rfl,hi,hb,hk⟩;refine ⟨_,rfl,?_⟩;replace BK156:=am (KeepBut.blk hk (g':=gb156) (o:=.cells #[.int .i64 0,.int .i64 0,.int .i64 0,.int .i64 0] 58 (0,0)) (bK BK156) NB156_0.out (by simp));replace BK166:=am (KeepBut.blk hk (g':=gb166) (o:=.cells #[.int .i64 t160,.int .i64 t161,.int .i64 t162,.int .i64 t163] 58 (0,0)) (bK BK166) NB166_0.out (by simp));replace HK:=am (KeepBut.trans (by exact sK2 HK.out GW156.out GW166.out) hk (.inl rfl));replace HB:=am (hb);replace HI0:=am (hi);(try clear hb);(try clear hk);(try clear hi);obtain ⟨_,_,_,_,_,_,_,_⟩:=blkc4 BK166;have hnb65:=NB156_0.out;have hnc65:=NB0_156.out;obtain ⟨_,_,_,_,_,_,_,_⟩:=blkc4 BK156));refine bodyPost_ret (results_cell_row rfl _ _ gb156 58 #[.int .i64 t160,.int .i64 t161,.int .i64 t162,.int .i64 t185] (0,0) _ rfl (kP BK156 NB156_166) Tryz.underlying58 rfl (by kernel_rfl)) rfl ?_;exact ⟨rA,by exact sI832 HI0.out NB0_156.out NB0_166.out,by exact sB3 HB.out (IsS83.ge HI0.out) GE156.out GE166.out,by exact sK2 HK.out GW156.out GW166.out⟩
 rw [if_neg c53] at H;obtain ⟨c53b0,c53b1⟩:=nI c53;simp only [Option.some.injEq,Prod.mk.injEq] at H;obtain ⟨rfl,rfl,rfl,rfl,rfl,rfl⟩:=H;obtain ⟨_,_,_,_,_,_,_,_⟩:=blkc4 BK166;have hnb76:=NB156_0.out;have hnc76:=NB0_156.out;obtain ⟨_,_,_,_,_,_,_,_⟩:=blkc4 BK156;go_wp2;refine bodyPost_ret (results_cell_row rfl _ _ gb156 58 #[.int .i64 t160,.int .i64 t161,.int .i64 t162,.int .i64 t163] (0,0) _ rfl (kp BK156) Tryz.underlying58 rfl (by kernel_rfl)) rfl ?_;exact ⟨rA,by exact sI832 HI0.out NB0_156.out NB0_166.out,by exact sB3 HB.out (IsS83.ge HI0.out) GE156.out GE166.out,by exact sK2 HK.out GW156.out GW166.out⟩

/-! ### spec_l5Any: function 67 -/
def spec_l5Any.f (k:Nat) (s0_0:List Int) (s0_1:Int) (s0_2:Int):Option ((List (S58)) × Int × Int):=(spec_l5Draw.f k s0_0 s0_1 s0_2).bind fun bt188=>((spec_l1Once.f s0_0 bt188.2.1 bt188.2.2 6).bind fun bt193=>(if bt193.1=true then ((spec_l1Below.f s0_0 bt193.2.1 bt193.2.2 (bt188.1.length:Int)).bind fun bt196=>((spec_l4Any.f s0_0 bt196.2.1 bt196.2.2).bind fun bt199=>(if 0≤bt196.1 then (if bt196.1 < (bt188.1.length:Int) then (some ((bt188.1.set (bt196.1:Int).toNat (⟨bt199.1,bt199.2.1,bt199.2.2.1,bt199.2.2.2.1⟩:S58)),bt199.2.2.2.2.1,bt199.2.2.2.2.2)) else (none)) else (none)))) else (some (bt188.1,bt193.2.1,bt193.2.2))))
theorem spec_l5Any.mono:∀ a0 a1 a2 k,LeO (spec_l5Any.f k a0 a1 a2) (spec_l5Any.f (k + 1) a0 a1 a2):=by
 intro a0 a1 a2 k;unfold spec_l5Any.f;exact mz1 spec_l5Draw.mono
set_option maxHeartbeats 8000000 in
set_option maxRecDepth 100000 in
theorem spec_l5Any.calls (k:Nat) (g:Nat) (s0_0:List Int) (s0_1:Int) (s0_2:Int) (r1:List (S58)) (r2:Int) (r3:Int) (w0 w:World) (hI:IsS83 w0 w g s0_0 s0_1 s0_2) (hB:Below w0.heap.size w0 w) (h:spec_l5Any.f k s0_0 s0_1 s0_2=some (r1,r2,r3)) :
  Calls Tryz.prog 67 #[.pointer (some ⟨g,0,none⟩)] w fun e w'=>∃ v0_:Value,e=.returned (v0_)∧Kd.R k58 58 w' w.heap.size (fun _=>True) v0_ r1∧IsS83 w0 w' g s0_0 r2 r3∧Below w0.heap.size w0 w'∧KeepBut w w' g none:=by
 have hu58:=Tryz.underlying58;have HI0:=am hI;have HK:=am (KeepBut.refl w g none);have HL:=am hB.size;clear hI;have HW0:=am hB.size;have HB:=am hB;clear hB;unfold spec_l5Any.f at h;have H:=h;clear h;obtain ⟨⟨t188,t191,t192⟩,A2,H⟩:=bindE H;try dsimp only at H
 obtain ⟨⟨t193,t194,t195⟩,A3,H⟩:=bindE H;try dsimp only at H
 by_cases c4:t193=true
 ·subst c4;rw [if_pos rfl] at H;obtain ⟨⟨t196,t197,t198⟩,A5,H⟩:=bindE H;try dsimp only at H
  obtain ⟨⟨t199,t200,t201,t202,t203,t204⟩,A6,H⟩:=bindE H;try dsimp only at H
  have c7b0:=ifC H;replace H:=ifT H;have c8b0:=ifC H;replace H:=ifT H;obtain ⟨y205,hy205⟩:∃ y_:List (S58),y_=(t188.set (t196:Int).toNat (⟨t199,t200,t201,t202⟩:S58)):=⟨_,rfl⟩;replace H:=rF H hy205;have Ny205:=am hy205;clear hy205;simp only [Option.some.injEq,Prod.mk.injEq] at H;obtain ⟨rfl,rfl,rfl⟩:=H;go_enter Tryz.func67,Tryz.ntmps67;go_wp2_with (first|((with_reducible refine gc 74 ?_);refine gL (some 5) Tryz.func74 #[.pointer (some ⟨g,0,none⟩)] ?_;(with_reducible refine (spec_l5Draw.calls k g s0_0 s0_1 s0_2 t188 t191 t192 w0 _ ?_ ?_ A2.out).mono ?_);exact sI830 HI0.out;exact sB1 HB.out (IsS83.ge HI0.out);rintro e w10 ⟨v189,rfl,ho0,hi,hb,hk⟩;refine ⟨_,rfl,?_⟩;have HO190:=am (Kd.R_lower ho0 (keep_size (w:=w) (g:=g) (row:=none) (by exact sK0 HK.out)));replace HK:=am (KeepBut.trans (by exact sK0 HK.out) hk (.inl rfl));replace HB:=am (hb);replace HI0:=am (hi);(try clear hb);(try clear hk);(try clear hi);(try clear ho0))|((with_reducible refine gc 59 ?_);refine gL (some 7) Tryz.func59 #[.pointer (some ⟨g,0,none⟩),.int .i64 6] ?_;(with_reducible refine (spec_l1Once.calls g s0_0 t191 t192 6 true t194 t195 w0 _ ?_ ?_ A3.out).mono ?_);exact sI830 HI0.out;exact sB1 HB.out (IsS83.ge HI0.out);rintro e w11 ⟨rfl,hi,hb,hk⟩;refine ⟨_,rfl,?_⟩;replace HO190:=am (Kd.R_mono (Kd.R_keep (IsS83.apart (show IsS83 w0 _ g s0_0 t191 t192 from by exact sI830 HI0.out) (rK HO190) (by decide)) hk (fun _ h=>h.2)) (fun _ h=>h.1));replace HK:=am (KeepBut.trans (by exact sK0 HK.out) hk (.inl rfl));replace HB:=am (hb);replace HI0:=am (hi);(try clear hb);(try clear hk);(try clear hi);obtain ⟨Ao12,co12,eo12⟩:=Kd.R_slice HO190.out;subst eo12)|((with_reducible refine gc 37 ?_);refine gL (some 12) Tryz.func37 #[.pointer (some ⟨g,0,none⟩),.int .i64 (t188.length:Int)] ?_;(with_reducible refine (spec_l1Below.calls g s0_0 t194 t195 (t188.length:Int) t196 t197 t198 w0 _ ?_ ?_ A5.out).mono ?_);exact sI830 HI0.out;exact sB1 HB.out (IsS83.ge HI0.out);rintro e w13 ⟨rfl,hi,hb,hk⟩;refine ⟨_,rfl,?_⟩;replace HO190:=am (Kd.R_mono (Kd.R_keep (IsS83.apart (show IsS83 w0 _ g s0_0 t194 t195 from by exact sI830 HI0.out) (rK HO190) (by decide)) hk (fun _ h=>h.2)) (fun _ h=>h.1));replace HK:=am (KeepBut.trans (by exact sK0 HK.out) hk (.inl rfl));replace HB:=am (hb);replace HI0:=am (hi);(try clear hb);(try clear hk);(try clear hi))|((with_reducible refine gc 75 ?_);refine gL (some 14) Tryz.func75 #[.pointer (some ⟨g,0,none⟩)] ?_;(with_reducible refine (spec_l4Any.calls g s0_0 t197 t198 t199 t200 t201 t202 t203 t204 w0 _ ?_ ?_ A6.out).mono ?_);exact sI830 HI0.out;exact sB1 HB.out (IsS83.ge HI0.out);rintro e w14 ⟨rfl,hi,hb,hk⟩;refine ⟨_,rfl,?_⟩;replace HO190:=am (Kd.R_mono (Kd.R_keep (IsS83.apart (show IsS83 w0 _ g s0_0 t197 t198 from by exact sI830 HI0.out) (rK HO190) (by decide)) hk (fun _ h=>h.2)) (fun _ h=>h.1));replace HK:=am (KeepBut.trans (by exact sK0 HK.out) hk (.inl rfl));replace HB:=am (hb);replace HI0:=am (hi);(try clear hb);(try clear hk);(try clear hi);have p9:0≤(t196:Int):=dA;have q9:(t196:Int) < ((t188.length:Int):Int):=dA;obtain ⟨go9,co9,eo9,gb9,gl9,cl9,HG9⟩:=Kd.R_form HO190.out (by omega);(first|cases eo9|(injection eo9 with ea_ en_ ec_;(first|subst ea_|(injection ea_ with ea_;subst ea_));subst ec_;clear en_));have GB9:=am gb9;have GG9:=am HG9;clear gb9 gl9 HG9;obtain ⟨ce9,hcl9,hM9,hcc9,hfr9⟩:=Kd.R_elem HO190.out z58 (t196:Int) p9 q9;obtain rfl:=k58_openM hM9;have hx9_0:w14.cell? ⟨go9,(t196:Int).toNat * 4,none⟩=some (.int .i64 ((rd_T58 t188 t196).f0)):=hcc9 0 _ rfl;have hx9_1:w14.cell? ⟨go9,(t196:Int).toNat * 4 + 1,none⟩=some (.int .i64 ((rd_T58 t188 t196).f1)):=hcc9 1 _ rfl;have hx9_2:w14.cell? ⟨go9,(t196:Int).toNat * 4 + 2,none⟩=some (.int .i64 ((rd_T58 t188 t196).f2)):=hcc9 2 _ rfl;have hx9_3:w14.cell? ⟨go9,(t196:Int).toNat * 4 + 3,none⟩=some (.int .i64 ((rd_T58 t188 t196).f3)):=hcc9 3 _ rfl;have hf9_0:w14.frozen? ⟨go9,(t196:Int).toNat * 4,none⟩=false:=hfr9 0;have hf9_1:w14.frozen? ⟨go9,(t196:Int).toNat * 4 + 1,none⟩=false:=hfr9 1;have hf9_2:w14.frozen? ⟨go9,(t196:Int).toNat * 4 + 2,none⟩=false:=hfr9 2;have hf9_3:w14.frozen? ⟨go9,(t196:Int).toNat * 4 + 3,none⟩=false:=hfr9 3;clear hcl9 hcc9 hfr9 hM9;replace p9:=eq_true p9;replace q9:=eq_true q9;have HX15:=am (show Kd.R k58 58 w14 w.heap.size (fun _=>True) (.slice (some ⟨go9,0,none⟩) t188.length co12) t188 from (rK HO190));obtain ⟨ce15,hcl15,hM15,hcc15,hfr15⟩:=Kd.R_elem HX15.out z58 (t196:Int) (dA) (by have h_:(t196:Int) < ((t188.length:Int):Int):=dA;first|exact h_|(have e_:=(Kd.R_reads' HO190.out).1;omega)|simpa using h_);obtain rfl:=k58_openM hM15;have HP15:=Kd.R_seg HX15.out (t196:Int) (dA) (by have h_:(t196:Int) < ((t188.length:Int):Int):=dA;first|exact h_|(have e_:=(Kd.R_reads' HO190.out).1;omega)|simpa using h_) (seg:=[.int .i64 t199,.int .i64 t200,.int .i64 t201,.int .i64 t202]) (j:=0) hcl15 hcc15 (show 4≤4 from by decide) (x':=(⟨t199,t200,t201,t202⟩:S58)) (k58_mkM _ _ _ (⟨t199,t200,t201,t202⟩:S58) ) (fun _ hk=>hk);have hx15_0:=hcc15 0 _ rfl;(try simp only [show (k58).sz=4 from rfl,Nat.mul_one,Nat.add_zero] at hx15_0);have hf15_0:=hfr15 0;(try simp only [show (k58).sz=4 from rfl,Nat.mul_one,Nat.add_zero] at hf15_0);have hx15_1:=hcc15 1 _ rfl;(try simp only [show (k58).sz=4 from rfl,Nat.mul_one,Nat.add_zero] at hx15_1);have hf15_1:=hfr15 1;(try simp only [show (k58).sz=4 from rfl,Nat.mul_one,Nat.add_zero] at hf15_1);have hx15_2:=hcc15 2 _ rfl;(try simp only [show (k58).sz=4 from rfl,Nat.mul_one,Nat.add_zero] at hx15_2);have hf15_2:=hfr15 2;(try simp only [show (k58).sz=4 from rfl,Nat.mul_one,Nat.add_zero] at hf15_2);have hx15_3:=hcc15 3 _ rfl;(try simp only [show (k58).sz=4 from rfl,Nat.mul_one,Nat.add_zero] at hx15_3);have hf15_3:=hfr15 3;(try simp only [show (k58).sz=4 from rfl,Nat.mul_one,Nat.add_zero] at hf15_3);clear hcl15 hcc15 hfr15 hM15)|((with_reducible refine gate_store (t:=58) (p:=15) rfl ?_);refine store_event (t:=58) (p:=15) (v:=?vo_w16) (w1:=((((w14.setCell ⟨go9,(t196:Int).toNat * 4,none⟩ (.int .i64 t199)).setCell ⟨go9,(t196:Int).toNat * 4 + 1,none⟩ (.int .i64 t200)).setCell ⟨go9,(t196:Int).toNat * 4 + 2,none⟩ (.int .i64 t201)).setCell ⟨go9,(t196:Int).toNat * 4 + 3,none⟩ (.int .i64 t202))) ?hg ?ho ?hn ?hr ?_;(case ho=>rfl);(case hg=>rfl);(case hn=>rfl);(case hr=>first|(go_simp;done)|(go_simp;rfl));intro w16 hw;have hg:w14.grownBy w16 (some go9):=(by rw [hw];exact HP15.2);have hp_:Kd.R k58 58 w16 w.heap.size (fun _=>True) (.slice (some ⟨go9,0,none⟩) t188.length co12) y205:=(by rw [hw,Ny205.out];exact HP15.1);clear HP15;have n0_:=am (IsS83.grown (by exact sI830 HI0.out) hg (IsS83.own_ne HI0.out HO190.out (by decide)));have n1_:=am (hp_);have n2_:=am ((by rw [hw];exact below_set (below_set (below_set (below_set (HB.out) (Nat.le_trans HL.out GB9.out)) (Nat.le_trans HL.out GB9.out)) (Nat.le_trans HL.out GB9.out)) (Nat.le_trans HL.out GB9.out):Below w0.heap.size w0 w16));have n3_:=am (KeepBut.trans (by exact sK0 HK.out) (KeepBut.of_grown hg g) (Kd.R_base2 HO190.out));clear HI0;clear HO190;clear HB;clear HK;have HI0:=n0_;have HO190:=n1_;have HB:=n2_;have HK:=n3_;clear n0_ n1_ n2_ n3_;clear hg hw hp_))
  go_ret;exact ⟨_,rA,rK HO190,by exact sI830 HI0.out,by exact sB1 HB.out (IsS83.ge HI0.out),by exact sK0 HK.out⟩
 replace c4:=Bool.eq_false_iff.mpr c4;subst c4;rw [if_neg Bool.false_ne_true] at H;simp only [Option.some.injEq,Prod.mk.injEq] at H;obtain ⟨rfl,rfl,rfl⟩:=H;go_enter Tryz.func67,Tryz.ntmps67;go_wp2_with (first|((with_reducible refine gc 74 ?_);refine gL (some 5) Tryz.func74 #[.pointer (some ⟨g,0,none⟩)] ?_;(with_reducible refine (spec_l5Draw.calls k g s0_0 s0_1 s0_2 t188 t191 t192 w0 _ ?_ ?_ A2.out).mono ?_);exact sI830 HI0.out;exact sB1 HB.out (IsS83.ge HI0.out);rintro e w17 ⟨v189,rfl,ho0,hi,hb,hk⟩;refine ⟨_,rfl,?_⟩;have HO190:=am (Kd.R_lower ho0 (keep_size (w:=w) (g:=g) (row:=none) (by exact sK0 HK.out)));replace HK:=am (KeepBut.trans (by exact sK0 HK.out) hk (.inl rfl));replace HB:=am (hb);replace HI0:=am (hi);(try clear hb);(try clear hk);(try clear hi);(try clear ho0))|((with_reducible refine gc 59 ?_);refine gL (some 7) Tryz.func59 #[.pointer (some ⟨g,0,none⟩),.int .i64 6] ?_;(with_reducible refine (spec_l1Once.calls g s0_0 t191 t192 6 false t194 t195 w0 _ ?_ ?_ A3.out).mono ?_);exact sI830 HI0.out;exact sB1 HB.out (IsS83.ge HI0.out);rintro e w18 ⟨rfl,hi,hb,hk⟩;refine ⟨_,rfl,?_⟩;replace HO190:=am (Kd.R_mono (Kd.R_keep (IsS83.apart (show IsS83 w0 _ g s0_0 t191 t192 from by exact sI830 HI0.out) (rK HO190) (by decide)) hk (fun _ h=>h.2)) (fun _ h=>h.1));replace HK:=am (KeepBut.trans (by exact sK0 HK.out) hk (.inl rfl));replace HB:=am (hb);replace HI0:=am (hi);(try clear hb);(try clear hk);(try clear hi)));go_ret;exact ⟨_,rA,rK HO190,by exact sI830 HI0.out,by exact sB1 HB.out (IsS83.ge HI0.out),by exact sK0 HK.out⟩

/-! ### spec_l1In: function 101 -/
def spec_l1In.f (a0:Int) (a1:Int) (a2:Int):Option (Bool):=if a0≥a1 then (some (decide (a0≤a2))) else (some false)
set_option maxHeartbeats 8000000 in
set_option maxRecDepth 100000 in
theorem spec_l1In.calls (a0:Int) (a1:Int) (a2:Int) (r:Bool) (w:World) (h:spec_l1In.f a0 a1 a2=some r) :
  Calls Tryz.prog 101 #[.int .i64 a0,.int .i64 a1,.int .i64 a2] w fun e w'=>e=.returned (.bool r)∧Drawn0 w w':=by
 unfold spec_l1In.f at h;have H:=h;clear h;by_cases c4:a0≥a1
 ·rw [if_pos c4] at H;have c4b0:=dt c4;clear c4;obtain rfl:=oj H;go_enter Tryz.func101,Tryz.ntmps101;go_wp2;go_ret;exact ⟨rS,dD⟩
 rw [if_neg c4] at H;have c4b0:=df c4;clear c4;obtain rfl:=oj H;go_enter Tryz.func101,Tryz.ntmps101;go_wp2;go_ret;exact ⟨rS,dD⟩

/-! ### spec_IsPath: function 93 -/
def spec_IsPath.f (a0_0:Int) (a0_1:Int) (a0_2:Int) (a0_3:Int):Option (Bool):=(spec_l1In.f a0_0 1 20).bind fun t207=>(if t207=true then ((spec_l1In.f a0_1 1 3).bind fun t208=>(if t208=true then ((spec_l1In.f a0_2 0 3).bind fun t209=>(if t209=true then ((spec_l1In.f a0_3 0 3).bind fun t210=>(if t210=true then (some ((a0_2 == a0_3) == (a0_1 == 2))) else (some false))) else (some false))) else (some false))) else (some false))
set_option maxHeartbeats 8000000 in
set_option maxRecDepth 100000 in
theorem spec_IsPath.calls (a0_0:Int) (a0_1:Int) (a0_2:Int) (a0_3:Int) (r:Bool) (w:World) (h:spec_IsPath.f a0_0 a0_1 a0_2 a0_3=some r) :
  Calls Tryz.prog 93 #[.agg #[.int .i64 a0_0,.int .i64 a0_1,.int .i64 a0_2,.int .i64 a0_3]] w fun e w'=>e=.returned (.bool r)∧Below w.heap.size w w':=by
 have hu58:=Tryz.underlying58;have HB:=am (Below.refl w.heap.size w);unfold spec_IsPath.f at h;have H:=h;clear h;obtain ⟨t207,A2,H⟩:=bindE H;try dsimp only at H
 by_cases c3:t207=true
 ·subst c3;rw [if_pos rfl] at H;obtain ⟨t208,A4,H⟩:=bindE H;try dsimp only at H
  by_cases c5:t208=true
  ·subst c5;rw [if_pos rfl] at H;obtain ⟨t209,A6,H⟩:=bindE H;try dsimp only at H
   by_cases c7:t209=true
   ·subst c7;rw [if_pos rfl] at H;obtain ⟨t210,A8,H⟩:=bindE H;try dsimp only at H
    by_cases c9:t210=true
    ·subst c9;rw [if_pos rfl] at H;obtain rfl:=oj H;go_enter Tryz.func93,Tryz.ntmps93;go_wp2_with (first|((with_reducible refine gd 1 ?_);refine bF w 1 #[.int .i64 a0_0,.int .i64 a0_1,.int .i64 a0_2,.int .i64 a0_3] 58 ?_;rintro gb206 w10 BK206 GW206 GE206 hb hg;replace HB:=bs HB hb;clear hb hg;obtain ⟨_,_,_,_,_,_,_,_⟩:=blkc4 BK206)|((with_reducible refine gc 101 ?_);refine gL (some 5) Tryz.func101 #[.int .i64 a0_0,.int .i64 1,.int .i64 20] ?_;(with_reducible refine (spec_l1In.calls a0_0 1 20 true _ A2.out).mono ?_);rintro e w' ⟨rfl,⟨nd,rfl⟩⟩;refine ⟨_,rfl,?_⟩)|(go_at_call 101;(with_reducible refine (spec_l1In.calls a0_1 1 3 true _ A4.out).mono ?_);rintro e w' ⟨rfl,⟨nd,rfl⟩⟩)|(go_at_call 101;(with_reducible refine (spec_l1In.calls a0_2 0 3 true _ A6.out).mono ?_);rintro e w' ⟨rfl,⟨nd,rfl⟩⟩)|(go_at_call 101;(with_reducible refine (spec_l1In.calls a0_3 0 3 true _ A8.out).mono ?_);rintro e w' ⟨rfl,⟨nd,rfl⟩⟩));go_ret;exact ⟨rA,bG⟩
    replace c9:=Bool.eq_false_iff.mpr c9;subst c9;rw [if_neg Bool.false_ne_true] at H;obtain rfl:=oj H;go_enter Tryz.func93,Tryz.ntmps93;go_wp2_with (first|((with_reducible refine gd 1 ?_);refine bF w 1 #[.int .i64 a0_0,.int .i64 a0_1,.int .i64 a0_2,.int .i64 a0_3] 58 ?_;rintro gb206 w12 BK206 GW206 GE206 hb hg;replace HB:=bs HB hb;clear hb hg;obtain ⟨_,_,_,_,_,_,_,_⟩:=blkc4 BK206)|((with_reducible refine gc 101 ?_);refine gL (some 5) Tryz.func101 #[.int .i64 a0_0,.int .i64 1,.int .i64 20] ?_;(with_reducible refine (spec_l1In.calls a0_0 1 20 true _ A2.out).mono ?_);rintro e w' ⟨rfl,⟨nd,rfl⟩⟩;refine ⟨_,rfl,?_⟩)|(go_at_call 101;(with_reducible refine (spec_l1In.calls a0_1 1 3 true _ A4.out).mono ?_);rintro e w' ⟨rfl,⟨nd,rfl⟩⟩)|(go_at_call 101;(with_reducible refine (spec_l1In.calls a0_2 0 3 true _ A6.out).mono ?_);rintro e w' ⟨rfl,⟨nd,rfl⟩⟩)|(go_at_call 101;(with_reducible refine (spec_l1In.calls a0_3 0 3 false _ A8.out).mono ?_);rintro e w' ⟨rfl,⟨nd,rfl⟩⟩));go_ret;exact ⟨rA,bG⟩
   replace c7:=Bool.eq_false_iff.mpr c7;subst c7;rw [if_neg Bool.false_ne_true] at H;obtain rfl:=oj H;go_enter Tryz.func93,Tryz.ntmps93;go_wp2_with (first|((with_reducible refine gd 1 ?_);refine bF w 1 #[.int .i64 a0_0,.int .i64 a0_1,.int .i64 a0_2,.int .i64 a0_3] 58 ?_;rintro gb206 w14 BK206 GW206 GE206 hb hg;replace HB:=bs HB hb;clear hb hg;obtain ⟨_,_,_,_,_,_,_,_⟩:=blkc4 BK206)|((with_reducible refine gc 101 ?_);refine gL (some 5) Tryz.func101 #[.int .i64 a0_0,.int .i64 1,.int .i64 20] ?_;(with_reducible refine (spec_l1In.calls a0_0 1 20 true _ A2.out).mono ?_);rintro e w' ⟨rfl,⟨nd,rfl⟩⟩;refine ⟨_,rfl,?_⟩)|(go_at_call 101;(with_reducible refine (spec_l1In.calls a0_1 1 3 true _ A4.out).mono ?_);rintro e w' ⟨rfl,⟨nd,rfl⟩⟩)|(go_at_call 101;(with_reducible refine (spec_l1In.calls a0_2 0 3 false _ A6.out).mono ?_);rintro e w' ⟨rfl,⟨nd,rfl⟩⟩));go_ret;exact ⟨rA,bG⟩
  replace c5:=Bool.eq_false_iff.mpr c5;subst c5;rw [if_neg Bool.false_ne_true] at H;obtain rfl:=oj H;go_enter Tryz.func93,Tryz.ntmps93;go_wp2_with (first|((with_reducible refine gd 1 ?_);refine bF w 1 #[.int .i64 a0_0,.int .i64 a0_1,.int .i64 a0_2,.int .i64 a0_3] 58 ?_;rintro gb206 w16 BK206 GW206 GE206 hb hg;replace HB:=bs HB hb;clear hb hg;obtain ⟨_,_,_,_,_,_,_,_⟩:=blkc4 BK206)|((with_reducible refine gc 101 ?_);refine gL (some 5) Tryz.func101 #[.int .i64 a0_0,.int .i64 1,.int .i64 20] ?_;(with_reducible refine (spec_l1In.calls a0_0 1 20 true _ A2.out).mono ?_);rintro e w' ⟨rfl,⟨nd,rfl⟩⟩;refine ⟨_,rfl,?_⟩)|(go_at_call 101;(with_reducible refine (spec_l1In.calls a0_1 1 3 false _ A4.out).mono ?_);rintro e w' ⟨rfl,⟨nd,rfl⟩⟩));go_ret;exact ⟨rA,bG⟩
 replace c3:=Bool.eq_false_iff.mpr c3;subst c3;rw [if_neg Bool.false_ne_true] at H;obtain rfl:=oj H;go_enter Tryz.func93,Tryz.ntmps93;go_wp2_with (first|((with_reducible refine gd 1 ?_);refine bF w 1 #[.int .i64 a0_0,.int .i64 a0_1,.int .i64 a0_2,.int .i64 a0_3] 58 ?_;rintro gb206 w18 BK206 GW206 GE206 hb hg;replace HB:=bs HB hb;clear hb hg;obtain ⟨_,_,_,_,_,_,_,_⟩:=blkc4 BK206)|((with_reducible refine gc 101 ?_);refine gL (some 5) Tryz.func101 #[.int .i64 a0_0,.int .i64 1,.int .i64 20] ?_;(with_reducible refine (spec_l1In.calls a0_0 1 20 false _ A2.out).mono ?_);rintro e w' ⟨rfl,⟨nd,rfl⟩⟩;refine ⟨_,rfl,?_⟩));go_ret;exact ⟨rA,bG⟩

/-! ### spec_ArePaths: function 83 -/
def spec_ArePaths.l0:Nat→List (S58)→Int→Option (Bool)
 | 0,_,_=>none
 | k + 1,x0,x3=>if x3 < (x0.length:Int) then (if 0≤x3 then ((spec_IsPath.f ((rd_T58 x0 x3).f0) ((rd_T58 x0 x3).f1) ((rd_T58 x0 x3).f2) ((rd_T58 x0 x3).f3)).bind fun t212=>(if t212=true then (if x3 > 0 then (if 0≤(wrap64 (x3 - 1)) then (if (wrap64 (x3 - 1)) < (x0.length:Int) then (if ((rd_T58 x0 (wrap64 (x3 - 1))).f0)≥((rd_T58 x0 x3).f0) then (some false) else (spec_ArePaths.l0 k x0 (wrap64 (x3 + 1)))) else (none)) else (none)) else (spec_ArePaths.l0 k x0 (wrap64 (x3 + 1)))) else (some false))) else (none)) else (some (decide ((x0.length:Int)≤12)))
def spec_ArePaths.f (k:Nat) (l0:List (S58)):Option (Bool):=spec_ArePaths.l0 k l0 0
theorem spec_ArePaths.mono_l:∀ k,(∀ y0 y1,LeO (spec_ArePaths.l0 k y0 y1) (spec_ArePaths.l0 (k + 1) y0 y1))
 | 0=>fun _ _ r h=>by simp [spec_ArePaths.l0] at h
 | k + 1=>by
  have ih0:=spec_ArePaths.mono_l k
  ·intro y0 y1;unfold spec_ArePaths.l0;exact mz1 ih0
theorem spec_ArePaths.mono:∀ a0 k,LeO (spec_ArePaths.f k a0) (spec_ArePaths.f (k + 1) a0):=by
 intro a0 k;have ih0:=spec_ArePaths.mono_l k;unfold spec_ArePaths.f;exact mz1 ih0
def spec_ArePaths.T4:Bool × List (List Nat × List Nat):=(true,[([],[]),([],[]),([0,1],[0,1]),([2],[2]),([3],[3]),([4],[4]),([5,4],[5]),([6],[6]),([7,6],[6,7]),([8,6,6],[6,8]),([9],[9]),([9],[9]),([11,9],[9,11]),([10,12,9],[9,10,12]),([13,9],[9,13]),([14,9],[9,14]),([9],[9]),([9],[9]),([16,17,9],[9,16,17]),([18,9],[9,18]),([19,9],[9,19]),([15,20,9],[9,15,20]),([9,21,6],[6,9,21]),([6,22],[6,22])])
def spec_ArePaths.B4:List Nat:=[0,0,3,7,15,31,63,127,255,511,1023,1023,3071,8191,16383,32767,1023,1023,197631,459775,984063,2097151,4194303,8388607]
theorem spec_ArePaths.tab4:rtab .any (opsOf Tryz.f83 4)=spec_ArePaths.T4:=by kernel_rfl
theorem spec_ArePaths.bits4:waitsOk spec_ArePaths.T4.2 spec_ArePaths.B4=true:=by kernel_rfl
set_option maxHeartbeats 8000000 in
set_option maxRecDepth 100000 in
theorem spec_ArePaths.calls (k:Nat) (A0:Option Addr) (c0:Nat) (l0:List (S58)) (r:Bool) (w:World) (hr0:Kd.C k58 w A0 l0.length l0) (hc0:l0.length≤c0) (h:spec_ArePaths.f k l0=some r) :
  Calls Tryz.prog 83 #[.slice A0 l0.length c0] w fun e w'=>e=.returned (.bool r)∧Below w.heap.size w w':=by
 have hu58:=Tryz.underlying58;have HR0:=am hr0;have HC0:=am hc0;clear hr0 hc0;have HB:=am (Below.refl w.heap.size w);unfold spec_ArePaths.f at h;have H:=h;clear h;have H':=am H;clear H;go_enter Tryz.func83,Tryz.ntmps83;go_wp2;go_loopg [3] k (fun kq v3 w'=>∃ (x3_1:Int),v3=.int .i64 x3_1∧Aside0 (spec_ArePaths.l0 kq l0 x3_1=some r)∧Aside0 (kq≤k)∧Aside0 (Below w.heap.size w w'))
 case atStart=>exact ⟨(0),rS,H',⟨Nat.le_refl _⟩,⟨bA⟩⟩
 case round =>
  clear H';obtain ⟨x3_1,rfl,HA,HK1,HB⟩:=hrel
  cases gk with
  | zero=>exact absurd HA.out (by simp [spec_ArePaths.l0])
  | succ k1 =>
   have H:=HA.out;clear HA;simp only [spec_ArePaths.l0] at H;by_cases c2:x3_1 < (l0.length:Int)
   ·rw [if_pos c2] at H;have c2b0:=dt c2;clear c2;have c3b0:=ifC H;replace H:=ifT H;obtain ⟨t212,A4,H⟩:=bindE H;try dsimp only at H
    by_cases c5:t212=true
    ·subst c5;rw [if_pos rfl] at H;by_cases c6:x3_1 > 0
     ·rw [if_pos c6] at H;have c6b0:=dt c6;clear c6;obtain ⟨ji7,hji7⟩:∃ j_:Int,(wrap64 (x3_1 - 1))=j_:=⟨_,rfl⟩;replace H:(if 0≤(ji7) then (if (ji7) < (l0.length:Int) then (if ((rd_T58 l0 (ji7)).f0)≥((rd_T58 l0 x3_1).f0) then (some false) else (spec_ArePaths.l0 k1 l0 (wrap64 (x3_1 + 1)))) else (none)) else (none))=some r:=by first|(rw [hji7] at H;exact H)|(simp only [hji7] at H ⊢;exact H)
      (try rw [hji7] at A4);have hji7w:(IntKind.i64.wrap (x3_1 - 1))=ji7:=(i64_w _).trans hji7;have c8b0:=ifC H;replace H:=ifT H;have c9b0:=ifC H;replace H:=ifT H;by_cases c10:((rd_T58 l0 (ji7)).f0)≥((rd_T58 l0 x3_1).f0)
      ·rw [if_pos c10] at H;have c10b0:=dt c10;clear c10;obtain rfl:=oj H;try go_wp2
       have HBo:=HB;replace HB:=db HB;obtain ⟨p211,q211⟩:=pq x3_1 l0;obtain ⟨ad211,e211,hx211_0,hx211_1,hx211_2,hx211_3⟩:=at_T58 HR0.out x3_1 p211 q211;have hw211_3:=hx211_3;have hw211_2:=hx211_2;have hw211_1:=hx211_1;have hw211_0:=hx211_0;cases e211;replace hx211_0:=hC HB hx211_0;replace hx211_1:=hC HB hx211_1;replace hx211_2:=hC HB hx211_2;replace hx211_3:=hC HB hx211_3;obtain ⟨p211,q211⟩:=eT p211 q211;obtain ⟨p213,q213⟩:=pq (ji7) l0;obtain ⟨ad213,e213,hx213_0,hx213_1,hx213_2,hx213_3⟩:=at_T58 HR0.out (ji7) p213 q213;have hw213_3:=hx213_3;have hw213_2:=hx213_2;have hw213_1:=hx213_1;have hw213_0:=hx213_0;obtain rfl:ad211=ad213:=(by injection e213);replace hx213_0:=hC HB hx213_0;replace hx213_1:=hC HB hx213_1;replace hx213_2:=hC HB hx213_2;replace hx213_3:=hC HB hx213_3;obtain ⟨p213,q213⟩:=eT p213 q213;obtain ⟨p214,q214⟩:=pq x3_1 l0;obtain ⟨ad214,e214,hx214_0,hx214_1,hx214_2,hx214_3⟩:=at_T58 HR0.out x3_1 p214 q214;have hw214_3:=hx214_3;have hw214_2:=hx214_2;have hw214_1:=hx214_1;have hw214_0:=hx214_0;obtain rfl:ad211=ad214:=(by injection e214);replace hx214_0:=hC HB hx214_0;replace hx214_1:=hC HB hx214_1;replace hx214_2:=hC HB hx214_2;replace hx214_3:=hC HB hx214_3;obtain ⟨p214,q214⟩:=eT p214 q214;refine sw (ds:=[]) 24 (mb 24 0) spec_ArePaths.tab4 spec_ArePaths.bits4 (h1c (hC HB hw211_0) (h1c (hC HB hw211_1) (h1c (hC HB hw211_2) (h1c (hC HB hw211_3) (h1c (hC HB hw213_0) (h1c (hC HB hw213_1) (h1c (hC HB hw213_2) (h1c (hC HB hw213_3) (h1c (hC HB hw214_0) (h1c (hC HB hw214_1) (h1c (hC HB hw214_2) (h1 (hC HB hw214_3))))))))))))) (fun hHeld HT_ HW_=>?_);generalize wr.drew=w11 at HB hx211_0 hx211_1 hx211_2 hx211_3 hx213_0 hx213_1 hx213_2 hx213_3 hx214_0 hx214_1 hx214_2 hx214_3 hHeld ⊢;refine pz [0,1,2,3] ?_;refine oa 4 14 (mb 24 31) HT_ (fun K hK=>?_);refine gA Tryz.func93 #[.agg #[.int .i64 ((rd_T58 l0 x3_1).f0),.int .i64 ((rd_T58 l0 x3_1).f1),.int .i64 ((rd_T58 l0 x3_1).f2),.int .i64 ((rd_T58 l0 x3_1).f3)]] ?_;(with_reducible refine (spec_IsPath.calls ((rd_T58 l0 x3_1).f0) ((rd_T58 l0 x3_1).f1) ((rd_T58 l0 x3_1).f2) ((rd_T58 l0 x3_1).f3) true _ A4.out).mono ?_);rintro e w12 ⟨rfl,hb⟩;refine ⟨_,rfl,?_⟩;replace HB:=bs HB hb;(try clear hb);refine hK.out _ _ hL (fun hHeld=>?_);clear hK K;refine nB ?_;refine pz [5,6,7,8,9,10,11,12,13,14,16,17,18,19,15,20,21,22,23] ?_;refine eA HT_ ?_;try go_wp2
       go_ret;exact ⟨by first|rfl|(simp [errW_none,errW_some] <;> rfl)|(simp only [← hji7];first|rfl|(simp [errW_none,errW_some] <;> rfl))|(simp [*,errW_none,errW_some] <;> rfl),bA⟩
      rw [if_neg c10] at H;have c10b0:=df c10;clear c10;have H':=am H;clear H;try go_wp2
      have HBo:=HB;replace HB:=db HB;obtain ⟨p211,q211⟩:=pq x3_1 l0;obtain ⟨ad211,e211,hx211_0,hx211_1,hx211_2,hx211_3⟩:=at_T58 HR0.out x3_1 p211 q211;have hw211_3:=hx211_3;have hw211_2:=hx211_2;have hw211_1:=hx211_1;have hw211_0:=hx211_0;cases e211;replace hx211_0:=hC HB hx211_0;replace hx211_1:=hC HB hx211_1;replace hx211_2:=hC HB hx211_2;replace hx211_3:=hC HB hx211_3;obtain ⟨p211,q211⟩:=eT p211 q211;obtain ⟨p213,q213⟩:=pq (ji7) l0;obtain ⟨ad213,e213,hx213_0,hx213_1,hx213_2,hx213_3⟩:=at_T58 HR0.out (ji7) p213 q213;have hw213_3:=hx213_3;have hw213_2:=hx213_2;have hw213_1:=hx213_1;have hw213_0:=hx213_0;obtain rfl:ad211=ad213:=(by injection e213);replace hx213_0:=hC HB hx213_0;replace hx213_1:=hC HB hx213_1;replace hx213_2:=hC HB hx213_2;replace hx213_3:=hC HB hx213_3;obtain ⟨p213,q213⟩:=eT p213 q213;obtain ⟨p214,q214⟩:=pq x3_1 l0;obtain ⟨ad214,e214,hx214_0,hx214_1,hx214_2,hx214_3⟩:=at_T58 HR0.out x3_1 p214 q214;have hw214_3:=hx214_3;have hw214_2:=hx214_2;have hw214_1:=hx214_1;have hw214_0:=hx214_0;obtain rfl:ad211=ad214:=(by injection e214);replace hx214_0:=hC HB hx214_0;replace hx214_1:=hC HB hx214_1;replace hx214_2:=hC HB hx214_2;replace hx214_3:=hC HB hx214_3;obtain ⟨p214,q214⟩:=eT p214 q214;refine sw (ds:=[]) 24 (mb 24 0) spec_ArePaths.tab4 spec_ArePaths.bits4 (h1c (hC HB hw211_0) (h1c (hC HB hw211_1) (h1c (hC HB hw211_2) (h1c (hC HB hw211_3) (h1c (hC HB hw213_0) (h1c (hC HB hw213_1) (h1c (hC HB hw213_2) (h1c (hC HB hw213_3) (h1c (hC HB hw214_0) (h1c (hC HB hw214_1) (h1c (hC HB hw214_2) (h1 (hC HB hw214_3))))))))))))) (fun hHeld HT_ HW_=>?_);generalize wr.drew=w13 at HB hx211_0 hx211_1 hx211_2 hx211_3 hx213_0 hx213_1 hx213_2 hx213_3 hx214_0 hx214_1 hx214_2 hx214_3 hHeld ⊢;refine pz [0,1,2,3] ?_;refine oa 4 14 (mb 24 31) HT_ (fun K hK=>?_);refine gA Tryz.func93 #[.agg #[.int .i64 ((rd_T58 l0 x3_1).f0),.int .i64 ((rd_T58 l0 x3_1).f1),.int .i64 ((rd_T58 l0 x3_1).f2),.int .i64 ((rd_T58 l0 x3_1).f3)]] ?_;(with_reducible refine (spec_IsPath.calls ((rd_T58 l0 x3_1).f0) ((rd_T58 l0 x3_1).f1) ((rd_T58 l0 x3_1).f2) ((rd_T58 l0 x3_1).f3) true _ A4.out).mono ?_);rintro e w14 ⟨rfl,hb⟩;refine ⟨_,rfl,?_⟩;replace HB:=bs HB hb;(try clear hb);refine hK.out _ _ hL (fun hHeld=>?_);clear hK K;refine nB ?_;refine pz [5,6,7,8,9,10,11,12,13,14,16,17,18,19,15,20,21,22,23] ?_;refine eA HT_ ?_;try go_wp2
      go_roundg k1
      case measure=>have:=HK1.out;omega
      case rel=>exact ⟨(wrap64 (x3_1 + 1)),rS,H',⟨by have:=HK1.out;omega⟩,⟨bA⟩⟩
     rw [if_neg c6] at H;have c6b0:=df c6;clear c6;have H':=am H;clear H;try go_wp2
     have HBo:=HB;replace HB:=db HB;obtain ⟨p211,q211⟩:=pq x3_1 l0;obtain ⟨ad211,e211,hx211_0,hx211_1,hx211_2,hx211_3⟩:=at_T58 HR0.out x3_1 p211 q211;have hw211_3:=hx211_3;have hw211_2:=hx211_2;have hw211_1:=hx211_1;have hw211_0:=hx211_0;cases e211;replace hx211_0:=hC HB hx211_0;replace hx211_1:=hC HB hx211_1;replace hx211_2:=hC HB hx211_2;replace hx211_3:=hC HB hx211_3;obtain ⟨p211,q211⟩:=eT p211 q211;refine sw (ds:=[]) 24 (mb 24 0) spec_ArePaths.tab4 spec_ArePaths.bits4 (h1c (hC HB hw211_0) (h1c (hC HB hw211_1) (h1c (hC HB hw211_2) (h1 (hC HB hw211_3))))) (fun hHeld HT_ HW_=>?_);generalize wr.drew=w15 at HB hx211_0 hx211_1 hx211_2 hx211_3 hHeld ⊢;refine pz [0,1,2,3] ?_;refine oa 4 14 (mb 24 31) HT_ (fun K hK=>?_);refine gA Tryz.func93 #[.agg #[.int .i64 ((rd_T58 l0 x3_1).f0),.int .i64 ((rd_T58 l0 x3_1).f1),.int .i64 ((rd_T58 l0 x3_1).f2),.int .i64 ((rd_T58 l0 x3_1).f3)]] ?_;(with_reducible refine (spec_IsPath.calls ((rd_T58 l0 x3_1).f0) ((rd_T58 l0 x3_1).f1) ((rd_T58 l0 x3_1).f2) ((rd_T58 l0 x3_1).f3) true _ A4.out).mono ?_);rintro e w16 ⟨rfl,hb⟩;refine ⟨_,rfl,?_⟩;replace HB:=bs HB hb;(try clear hb);refine hK.out _ _ hL (fun hHeld=>?_);clear hK K;refine nB ?_;refine pz [5,6,7,8,9,10,11,12,13,14,15,16,17,18,19,20,21,22,23] ?_;refine eA HT_ ?_;try go_wp2
     go_roundg k1
     case measure=>have:=HK1.out;omega
     case rel=>exact ⟨(wrap64 (x3_1 + 1)),rS,H',⟨by have:=HK1.out;omega⟩,⟨bA⟩⟩
    replace c5:=Bool.eq_false_iff.mpr c5;subst c5;rw [if_neg Bool.false_ne_true] at H;obtain rfl:=oj H;try go_wp2
    have HBo:=HB;replace HB:=db HB;obtain ⟨p211,q211⟩:=pq x3_1 l0;obtain ⟨ad211,e211,hx211_0,hx211_1,hx211_2,hx211_3⟩:=at_T58 HR0.out x3_1 p211 q211;have hw211_3:=hx211_3;have hw211_2:=hx211_2;have hw211_1:=hx211_1;have hw211_0:=hx211_0;cases e211;replace hx211_0:=hC HB hx211_0;replace hx211_1:=hC HB hx211_1;replace hx211_2:=hC HB hx211_2;replace hx211_3:=hC HB hx211_3;obtain ⟨p211,q211⟩:=eT p211 q211;refine sw (ds:=[]) 24 (mb 24 0) spec_ArePaths.tab4 spec_ArePaths.bits4 (h1c (hC HB hw211_0) (h1c (hC HB hw211_1) (h1c (hC HB hw211_2) (h1 (hC HB hw211_3))))) (fun hHeld HT_ HW_=>?_);generalize wr.drew=w17 at HB hx211_0 hx211_1 hx211_2 hx211_3 hHeld ⊢;refine pz [0,1,2,3] ?_;refine oa 4 14 (mb 24 31) HT_ (fun K hK=>?_);refine gA Tryz.func93 #[.agg #[.int .i64 ((rd_T58 l0 x3_1).f0),.int .i64 ((rd_T58 l0 x3_1).f1),.int .i64 ((rd_T58 l0 x3_1).f2),.int .i64 ((rd_T58 l0 x3_1).f3)]] ?_;(with_reducible refine (spec_IsPath.calls ((rd_T58 l0 x3_1).f0) ((rd_T58 l0 x3_1).f1) ((rd_T58 l0 x3_1).f2) ((rd_T58 l0 x3_1).f3) false _ A4.out).mono ?_);rintro e w18 ⟨rfl,hb⟩;refine ⟨_,rfl,?_⟩;replace HB:=bs HB hb;(try clear hb);refine hK.out _ _ hL (fun hHeld=>?_);clear hK K;refine nB ?_;refine pz [5,6,7,8,9,10,11,12,13,14,15,16,17,18,19,20,21,22,23] ?_;refine eA HT_ ?_;try go_wp2
    go_ret;exact ⟨rA,bA⟩
   rw [if_neg c2] at H;have c2b0:=df c2;clear c2;obtain rfl:=oj H;go_wp2;go_ret;exact ⟨rA,bA⟩

/-! ### spec_FindPath: function 96 -/
def spec_FindPath.l0:Nat→List (S58)→Int→Int→Option (Int)
 | 0,_,_,_=>none
 | k + 1,x0,x1,x5=>if x5 < (x0.length:Int) then (if 0≤x5 then (if ((rd_T58 x0 x5).f0)=x1 then (some x5) else (spec_FindPath.l0 k x0 x1 (wrap64 (x5 + 1)))) else (none)) else (some (-1))
def spec_FindPath.f (k:Nat) (l0:List (S58)) (a1:Int):Option (Int):=spec_FindPath.l0 k l0 a1 0
theorem spec_FindPath.mono_l:∀ k,(∀ y0 y1 y2,LeO (spec_FindPath.l0 k y0 y1 y2) (spec_FindPath.l0 (k + 1) y0 y1 y2))
 | 0=>fun _ _ _ r h=>by simp [spec_FindPath.l0] at h
 | k + 1=>by
  have ih0:=spec_FindPath.mono_l k
  ·intro y0 y1 y2;unfold spec_FindPath.l0;exact mz1 ih0
theorem spec_FindPath.mono:∀ a0 a1 k,LeO (spec_FindPath.f k a0 a1) (spec_FindPath.f (k + 1) a0 a1):=by
 intro a0 a1 k;have ih0:=spec_FindPath.mono_l k;unfold spec_FindPath.f;exact mz1 ih0
set_option maxHeartbeats 8000000 in
set_option maxRecDepth 100000 in
theorem spec_FindPath.calls (k:Nat) (A0:Option Addr) (c0:Nat) (l0:List (S58)) (a1:Int) (r:Int) (w:World) (hr0:Kd.C k58 w A0 l0.length l0) (hc0:l0.length≤c0) (h:spec_FindPath.f k l0 a1=some r) :
  Calls Tryz.prog 96 #[.slice A0 l0.length c0,.int .i64 a1] w fun e w'=>e=.returned (.int .i64 r)∧Drawn0 w w':=by
 have HR0:=am hr0;have HC0:=am hc0;clear hr0 hc0;unfold spec_FindPath.f at h;have H:=h;clear h;have H':=am H;clear H;go_enter Tryz.func96,Tryz.ntmps96;go_wp2;go_loopg [5] k (fun kq v5 w'=>∃ (x5_1:Int),v5=.int .i64 x5_1∧Aside0 (spec_FindPath.l0 kq l0 a1 x5_1=some r)∧Aside0 (kq≤k)∧Drawn0 w w')
 case atStart=>exact ⟨(0),rS,H',⟨Nat.le_refl _⟩,by repeat (first|exact Drawn0.refl _|apply Drawn0.step)⟩
 case round =>
  clear H';obtain ⟨x5_1,rfl,HA,HK1,⟨m1,rfl⟩⟩:=hrel
  cases gk with
  | zero=>exact absurd HA.out (by simp [spec_FindPath.l0])
  | succ k1 =>
   have H:=HA.out;clear HA;simp only [spec_FindPath.l0] at H;by_cases c3:x5_1 < (l0.length:Int)
   ·rw [if_pos c3] at H;have c3b0:=dt c3;clear c3;have c4b0:=ifC H;replace H:=ifT H;by_cases c5:((rd_T58 l0 x5_1).f0)=a1
    ·rw [if_pos c5] at H;obtain ⟨c5b0,c5b1⟩:=eI c5;clear c5;obtain rfl:=oj H;obtain ⟨p215,q215⟩:=pq x5_1 l0;obtain ⟨ad215,e215,hx215_0,hx215_1,hx215_2,hx215_3⟩:=at_T58 HR0.out x5_1 p215 q215;cases e215;obtain ⟨p215,q215⟩:=eT p215 q215;go_wp2;go_ret;exact ⟨rS,dD⟩
    rw [if_neg c5] at H;obtain ⟨c5b0,c5b1⟩:=nI c5;have H':=am H;clear H;obtain ⟨p215,q215⟩:=pq x5_1 l0;obtain ⟨ad215,e215,hx215_0,hx215_1,hx215_2,hx215_3⟩:=at_T58 HR0.out x5_1 p215 q215;cases e215;obtain ⟨p215,q215⟩:=eT p215 q215;go_wp2;go_roundg k1
    case measure=>have:=HK1.out;omega
    case rel=>exact ⟨(wrap64 (x5_1 + 1)),rS,H',⟨by have:=HK1.out;omega⟩,by repeat (first|exact Drawn0.refl _|apply Drawn0.step)⟩
   rw [if_neg c3] at H;have c3b0:=df c3;clear c3;obtain rfl:=oj H;go_wp2;go_ret;exact ⟨rS,dD⟩

/-! ### spec_Interleave: function 104 -/
mutual
def spec_Interleave.l0:Nat→Int→Int→Int→Int→List Int→Int→Option (Bool)
 | 0,_,_,_,_,_,_=>none
 | k + 1,x0,x1,x2,x3,x9,x10=>if x10 < 4 then (spec_Interleave.l1 k x0 x1 x2 x3 x9 x10 0) else (spec_Interleave.l2 k x1 x2 x3 0 (Int.tmod (wrap64 (x0 + 1)) 8))
def spec_Interleave.l1:Nat→Int→Int→Int→Int→List Int→Int→Int→Option (Bool)
 | 0,_,_,_,_,_,_,_=>none
 | k + 1,x0,x1,x2,x3,x9,x10,x11=>if x11 < x10 then (if 0≤x10 then (if x10 < (x9.length:Int) then (if 0≤x11 then (if x11 < (x9.length:Int) then (if (rd x9 x10)=(rd x9 x11) then (some false) else (spec_Interleave.l1 k x0 x1 x2 x3 x9 x10 (wrap64 (x11 + 1)))) else (none)) else (none)) else (none)) else (none)) else (if 0≤x10 then (if x10 < (x9.length:Int) then ((spec_l1In.f (rd x9 x10) 0 7).bind fun t222=>(if t222=true then (spec_Interleave.l0 k x0 x1 x2 x3 x9 (wrap64 (x10 + 1))) else (some false))) else (none)) else (none))
def spec_Interleave.l2:Nat→Int→Int→Int→Int→Int→Option (Bool)
 | 0,_,_,_,_,_=>none
 | k + 1,x1,x2,x3,x12,x13=>if x13=x1 then (some (x12 == 1)) else (if x13=x2 then (spec_Interleave.l2 k x1 x2 x3 (wrap64 (x12 + 1)) (Int.tmod (wrap64 (x13 + 1)) 8)) else (if x13=x3 then (spec_Interleave.l2 k x1 x2 x3 (wrap64 (x12 + 1)) (Int.tmod (wrap64 (x13 + 1)) 8)) else (spec_Interleave.l2 k x1 x2 x3 x12 (Int.tmod (wrap64 (x13 + 1)) 8))))
end
def spec_Interleave.f (k:Nat) (a0:Int) (a1:Int) (a2:Int) (a3:Int):Option (Bool):=spec_Interleave.l0 k a0 a1 a2 a3 (([a0,a1,a2,a3]:List Int)) 0
theorem spec_Interleave.mono_l:∀ k,(∀ y0 y1 y2 y3 y4 y5,LeO (spec_Interleave.l0 k y0 y1 y2 y3 y4 y5) (spec_Interleave.l0 (k + 1) y0 y1 y2 y3 y4 y5))∧(∀ y0 y1 y2 y3 y4 y5 y6,LeO (spec_Interleave.l1 k y0 y1 y2 y3 y4 y5 y6) (spec_Interleave.l1 (k + 1) y0 y1 y2 y3 y4 y5 y6))∧(∀ y0 y1 y2 y3 y4,LeO (spec_Interleave.l2 k y0 y1 y2 y3 y4) (spec_Interleave.l2 (k + 1) y0 y1 y2 y3 y4))
 | 0=>⟨fun _ _ _ _ _ _ r h=>by simp [spec_Interleave.l0] at h,fun _ _ _ _ _ _ _ r h=>by simp [spec_Interleave.l1] at h,fun _ _ _ _ _ r h=>by simp [spec_Interleave.l2] at h⟩
 | k + 1=>by
  obtain ⟨ih0,ih1,ih2⟩:=spec_Interleave.mono_l k;refine ⟨?_,?_,?_⟩
  ·intro y0 y1 y2 y3 y4 y5;unfold spec_Interleave.l0;exact mz3 ih0 ih1 ih2
  ·intro y0 y1 y2 y3 y4 y5 y6;unfold spec_Interleave.l1;exact mz3 ih0 ih1 ih2
  ·intro y0 y1 y2 y3 y4;unfold spec_Interleave.l2;exact mz3 ih0 ih1 ih2
theorem spec_Interleave.mono:∀ a0 a1 a2 a3 k,LeO (spec_Interleave.f k a0 a1 a2 a3) (spec_Interleave.f (k + 1) a0 a1 a2 a3):=by
 intro a0 a1 a2 a3 k;obtain ⟨ih0,ih1,ih2⟩:=spec_Interleave.mono_l k;unfold spec_Interleave.f;exact mz3 ih0 ih1 ih2
set_option maxHeartbeats 8000000 in
set_option maxRecDepth 100000 in
theorem spec_Interleave.calls (k:Nat) (a0:Int) (a1:Int) (a2:Int) (a3:Int) (r:Bool) (w:World) (h:spec_Interleave.f k a0 a1 a2 a3=some r) :
  Calls Tryz.prog 104 #[.int .i64 a0,.int .i64 a1,.int .i64 a2,.int .i64 a3] w fun e w'=>e=.returned (.bool r)∧Below w.heap.size w w':=by
 have HB:=am (Below.refl w.heap.size w);unfold spec_Interleave.f at h;have H:=h;clear h;obtain ⟨y216,hy216⟩:∃ y_:List Int,y_=(([a0,a1,a2,a3]:List Int)):=⟨_,rfl⟩;replace H:=rF H hy216;have Ny216:=am hy216;clear hy216;have H':=am H;clear H;go_enter Tryz.func104,Tryz.ntmps104;go_wp2_with (first|((with_reducible refine gd 18 ?_);refine Kd.R_lit (Kd.int .i64) _ 3 ?hg (N:=18) ?hd (xs:=([a0,a1,a2,a3]:List Int)) (inner:=[.int .i64 a0,.int .i64 a1,.int .i64 a2,.int .i64 a3]) (ok:=fun _=>True) (okp:=fun _=>True) ?hr ?hp (fun _ hk=>hk) trivial (Below.refl _ _) (Nat.le_refl _) (by simp) ?_;(case hd=>rfl);(case hg=>rfl);(case hr=>first|(go_simp;done)|(go_simp;rfl));(case hp=>exact (Reps.one (show Kd.M (Kd.int .i64) _ _ _ a0 [.int .i64 a0] from rfl) (Reps.one (show Kd.M (Kd.int .i64) _ _ _ a1 [.int .i64 a1] from rfl) (Reps.one (show Kd.M (Kd.int .i64) _ _ _ a2 [.int .i64 a2] from rfl) (Reps.one (show Kd.M (Kd.int .i64) _ _ _ a3 [.int .i64 a3] from rfl) (Reps.none _ _))))));intro v217 w5 ho6 hb hg_ hnew_;clear hg_ hnew_;(first|rw [← Ny216.out] at ho6|(simp only [Int.reduceToNat] at ho6;rw [← Ny216.out] at ho6));have HO218:=rl w ho6;replace HB:=bs HB hb;clear hb ho6));repeat (go_quiet (first|((with_reducible refine gd 18 ?_);refine Kd.R_lit (Kd.int .i64) _ 3 ?hg (N:=18) ?hd (xs:=([a0,a1,a2,a3]:List Int)) (inner:=[.int .i64 a0,.int .i64 a1,.int .i64 a2,.int .i64 a3]) (ok:=fun _=>True) (okp:=fun _=>True) ?hr ?hp (fun _ hk=>hk) trivial (Below.refl _ _) (Nat.le_refl _) (by simp) ?_;(case hd=>rfl);(case hg=>rfl);(case hr=>first|(go_simp;done)|(go_simp;rfl));(case hp=>exact (Reps.one (show Kd.M (Kd.int .i64) _ _ _ a0 [.int .i64 a0] from rfl) (Reps.one (show Kd.M (Kd.int .i64) _ _ _ a1 [.int .i64 a1] from rfl) (Reps.one (show Kd.M (Kd.int .i64) _ _ _ a2 [.int .i64 a2] from rfl) (Reps.one (show Kd.M (Kd.int .i64) _ _ _ a3 [.int .i64 a3] from rfl) (Reps.none _ _))))));intro v217 w5 ho6 hb hg_ hnew_;clear hg_ hnew_;(first|rw [← Ny216.out] at ho6|(simp only [Int.reduceToNat] at ho6;rw [← Ny216.out] at ho6));have HO218:=rl w ho6;replace HB:=bs HB hb;clear hb ho6));try go_wp2_with (first|((with_reducible refine gd 18 ?_);refine Kd.R_lit (Kd.int .i64) _ 3 ?hg (N:=18) ?hd (xs:=([a0,a1,a2,a3]:List Int)) (inner:=[.int .i64 a0,.int .i64 a1,.int .i64 a2,.int .i64 a3]) (ok:=fun _=>True) (okp:=fun _=>True) ?hr ?hp (fun _ hk=>hk) trivial (Below.refl _ _) (Nat.le_refl _) (by simp) ?_;(case hd=>rfl);(case hg=>rfl);(case hr=>first|(go_simp;done)|(go_simp;rfl));(case hp=>exact (Reps.one (show Kd.M (Kd.int .i64) _ _ _ a0 [.int .i64 a0] from rfl) (Reps.one (show Kd.M (Kd.int .i64) _ _ _ a1 [.int .i64 a1] from rfl) (Reps.one (show Kd.M (Kd.int .i64) _ _ _ a2 [.int .i64 a2] from rfl) (Reps.one (show Kd.M (Kd.int .i64) _ _ _ a3 [.int .i64 a3] from rfl) (Reps.none _ _))))));intro v217 w5 ho6 hb hg_ hnew_;clear hg_ hnew_;(first|rw [← Ny216.out] at ho6|(simp only [Int.reduceToNat] at ho6;rw [← Ny216.out] at ho6));have HO218:=rl w ho6;replace HB:=bs HB hb;clear hb ho6)))
 go_loopg [10] k (fun kq v10 w'=>∃ (x10_1:Int),v10=.int .i64 x10_1∧Aside0 (spec_Interleave.l0 kq a0 a1 a2 a3 y216 x10_1=some r)∧Aside0 (kq≤k)∧Aside0 (Kd.R (Kd.int .i64) 3 w' w.heap.size (fun _=>True) v217 y216)∧Aside0 (Below w.heap.size w w'))
 case atStart=>exact ⟨(0),rS,H',⟨Nat.le_refl _⟩,⟨rK HO218⟩,⟨bA⟩⟩
 case round =>
  clear H';obtain ⟨x10_1,rfl,HA,HK1,HO_9,HB⟩:=hrel
  cases gk with
  | zero=>exact absurd HA.out (by simp [spec_Interleave.l0])
  | succ k1 =>
   have H:=HA.out;clear HA;simp only [spec_Interleave.l0] at H;by_cases c7:x10_1 < 4
   ·rw [if_pos c7] at H;have c7b0:=dt c7;clear c7;have H':=am H;clear H;go_wp2;repeat (go_quiet (fail);try go_wp2)
    go_loopg [11] k1 (fun kq v11 w'=>∃ (x11_2:Int),v11=.int .i64 x11_2∧Aside0 (spec_Interleave.l1 kq a0 a1 a2 a3 y216 x10_1 x11_2=some r)∧Aside0 (kq≤k1)∧Aside0 (Kd.R (Kd.int .i64) 3 w' w.heap.size (fun _=>True) v217 y216)∧Aside0 (Below w.heap.size w w'))
    case atStart=>exact ⟨(0),rS,H',⟨Nat.le_refl _⟩,⟨rK HO_9⟩,⟨bA⟩⟩
    case round =>
     clear H';obtain ⟨x11_2,rfl,HA,HK2,HO_9,HB⟩:=hrel
     cases gk with
     | zero=>exact absurd HA.out (by simp [spec_Interleave.l1])
     | succ k2 =>
      have H:=HA.out;clear HA;simp only [spec_Interleave.l1] at H;by_cases c8:x11_2 < x10_1
      ·rw [if_pos c8] at H;have c8b0:=dt c8;clear c8;have c9b0:=ifC H;replace H:=ifT H;have c10b0:=ifC H;replace H:=ifT H;have c11b0:=ifC H;replace H:=ifT H;have c12b0:=ifC H;replace H:=ifT H;by_cases c13:(rd y216 x10_1)=(rd y216 x11_2)
       ·rw [if_pos c13] at H;obtain ⟨c13b0,c13b1⟩:=eI c13;clear c13;obtain rfl:=oj H;obtain ⟨Ao14,co14,eo14⟩:=Kd.R_slice HO_9.out;subst eo14;obtain ⟨p219,q219⟩:=pq x10_1 y216;obtain ⟨ad219,e219,hx219_0⟩:=Kd.at_int (Kd.R_reads' HO_9.out).2.2 x10_1 p219 q219;cases e219;obtain ⟨p219,q219⟩:=eT p219 q219;obtain ⟨p220,q220⟩:=pq x11_2 y216;obtain ⟨ad220,e220,hx220_0⟩:=Kd.at_int (Kd.R_reads' HO_9.out).2.2 x11_2 p220 q220;obtain rfl:ad219=ad220:=(by injection e220);obtain ⟨p220,q220⟩:=eT p220 q220;go_wp2;repeat (go_quiet (fail);try go_wp2)
        go_ret;exact ⟨rA,bA⟩
       rw [if_neg c13] at H;obtain ⟨c13b0,c13b1⟩:=nI c13;have H':=am H;clear H;obtain ⟨Ao15,co15,eo15⟩:=Kd.R_slice HO_9.out;subst eo15;obtain ⟨p219,q219⟩:=pq x10_1 y216;obtain ⟨ad219,e219,hx219_0⟩:=Kd.at_int (Kd.R_reads' HO_9.out).2.2 x10_1 p219 q219;cases e219;obtain ⟨p219,q219⟩:=eT p219 q219;obtain ⟨p220,q220⟩:=pq x11_2 y216;obtain ⟨ad220,e220,hx220_0⟩:=Kd.at_int (Kd.R_reads' HO_9.out).2.2 x11_2 p220 q220;obtain rfl:ad219=ad220:=(by injection e220);obtain ⟨p220,q220⟩:=eT p220 q220;go_wp2;repeat (go_quiet (fail);try go_wp2)
       go_roundg k2
       case measure=>have:=HK1.out;have:=HK2.out;omega
       case rel=>exact ⟨(wrap64 (x11_2 + 1)),rS,H',⟨by have:=HK1.out;have:=HK2.out;omega⟩,⟨rK HO_9⟩,⟨bA⟩⟩
      rw [if_neg c8] at H;have c8b0:=df c8;clear c8;have c16b0:=ifC H;replace H:=ifT H;have c17b0:=ifC H;replace H:=ifT H;obtain ⟨t222,A18,H⟩:=bindE H;try dsimp only at H
      by_cases c19:t222=true
      ·subst c19;rw [if_pos rfl] at H;have H':=am H;clear H;obtain ⟨Ao20,co20,eo20⟩:=Kd.R_slice HO_9.out;subst eo20;obtain ⟨p221,q221⟩:=pq x10_1 y216;obtain ⟨ad221,e221,hx221_0⟩:=Kd.at_int (Kd.R_reads' HO_9.out).2.2 x10_1 p221 q221;cases e221;obtain ⟨p221,q221⟩:=eT p221 q221;go_wp2_with (first|(go_at_call 101;(with_reducible refine (spec_l1In.calls (rd y216 x10_1) 0 7 true _ A18.out).mono ?_);rintro e w' ⟨rfl,⟨nd,rfl⟩⟩;(try first|exact ⟨rfl,_,World.drewN_drewN _ _ _⟩|exact ⟨rfl,_,Eq.trans (World.drewN_drewN _ _ _) (congrArg (World.drewN _) (Nat.add_assoc _ _ _))⟩)));repeat (go_quiet (first|(go_at_call 101;(with_reducible refine (spec_l1In.calls (rd y216 x10_1) 0 7 true _ A18.out).mono ?_);rintro e w' ⟨rfl,⟨nd,rfl⟩⟩;(try first|exact ⟨rfl,_,World.drewN_drewN _ _ _⟩|exact ⟨rfl,_,Eq.trans (World.drewN_drewN _ _ _) (congrArg (World.drewN _) (Nat.add_assoc _ _ _))⟩)));try go_wp2_with (first|(go_at_call 101;(with_reducible refine (spec_l1In.calls (rd y216 x10_1) 0 7 true _ A18.out).mono ?_);rintro e w' ⟨rfl,⟨nd,rfl⟩⟩;(try first|exact ⟨rfl,_,World.drewN_drewN _ _ _⟩|exact ⟨rfl,_,Eq.trans (World.drewN_drewN _ _ _) (congrArg (World.drewN _) (Nat.add_assoc _ _ _))⟩))))
       go_roundg k2
       case measure=>have:=HK1.out;have:=HK2.out;omega
       case rel=>exact ⟨(wrap64 (x10_1 + 1)),rS,H',⟨by have:=HK1.out;have:=HK2.out;omega⟩,⟨rK HO_9⟩,⟨bA⟩⟩
      replace c19:=Bool.eq_false_iff.mpr c19;subst c19;rw [if_neg Bool.false_ne_true] at H;obtain rfl:=oj H;obtain ⟨Ao21,co21,eo21⟩:=Kd.R_slice HO_9.out;subst eo21;obtain ⟨p221,q221⟩:=pq x10_1 y216;obtain ⟨ad221,e221,hx221_0⟩:=Kd.at_int (Kd.R_reads' HO_9.out).2.2 x10_1 p221 q221;cases e221;obtain ⟨p221,q221⟩:=eT p221 q221;go_wp2_with (first|(go_at_call 101;(with_reducible refine (spec_l1In.calls (rd y216 x10_1) 0 7 false _ A18.out).mono ?_);rintro e w' ⟨rfl,⟨nd,rfl⟩⟩;(try first|exact ⟨rfl,_,World.drewN_drewN _ _ _⟩|exact ⟨rfl,_,Eq.trans (World.drewN_drewN _ _ _) (congrArg (World.drewN _) (Nat.add_assoc _ _ _))⟩)));repeat (go_quiet (first|(go_at_call 101;(with_reducible refine (spec_l1In.calls (rd y216 x10_1) 0 7 false _ A18.out).mono ?_);rintro e w' ⟨rfl,⟨nd,rfl⟩⟩;(try first|exact ⟨rfl,_,World.drewN_drewN _ _ _⟩|exact ⟨rfl,_,Eq.trans (World.drewN_drewN _ _ _) (congrArg (World.drewN _) (Nat.add_assoc _ _ _))⟩)));try go_wp2_with (first|(go_at_call 101;(with_reducible refine (spec_l1In.calls (rd y216 x10_1) 0 7 false _ A18.out).mono ?_);rintro e w' ⟨rfl,⟨nd,rfl⟩⟩;(try first|exact ⟨rfl,_,World.drewN_drewN _ _ _⟩|exact ⟨rfl,_,Eq.trans (World.drewN_drewN _ _ _) (congrArg (World.drewN _) (Nat.add_assoc _ _ _))⟩))))
      go_ret;exact ⟨rA,bA⟩
   rw [if_neg c7] at H;have c7b0:=df c7;clear c7;have H':=am H;clear H;go_wp2;repeat (go_quiet (fail);try go_wp2)
   go_loopg [12,13] k1 (fun kq v12 v13 w'=>∃ (x12_2:Int) (x13_2:Int),v12=.int .i64 x12_2∧v13=.int .i64 x13_2∧Aside0 (spec_Interleave.l2 kq a1 a2 a3 x12_2 x13_2=some r)∧Aside0 (kq≤k1)∧Aside0 (Below w.heap.size w w'))
   case atStart=>exact ⟨(0),(Int.tmod (wrap64 (a0 + 1)) 8),rS,rS,H',⟨Nat.le_refl _⟩,⟨bA⟩⟩
   case round =>
    clear H';obtain ⟨x12_2,x13_2,rfl,rfl,HA,HK2,HB⟩:=hrel
    cases gk with
    | zero=>exact absurd HA.out (by simp [spec_Interleave.l2])
    | succ k2 =>
     have H:=HA.out;clear HA;simp only [spec_Interleave.l2] at H;by_cases c22:x13_2=a1
     ·rw [if_pos c22] at H;obtain ⟨c22b0,c22b1⟩:=eI c22;clear c22;obtain rfl:=oj H;go_wp2;repeat (go_quiet (fail);try go_wp2)
      go_ret;exact ⟨rA,bA⟩
     rw [if_neg c22] at H;obtain ⟨c22b0,c22b1⟩:=nI c22;by_cases c23:x13_2=a2
     ·rw [if_pos c23] at H;obtain ⟨c23b0,c23b1⟩:=eI c23;clear c23;have H':=am H;clear H;go_wp2;repeat (go_quiet (fail);try go_wp2)
      go_roundg k2
      case measure=>have:=HK1.out;have:=HK2.out;omega
      case rel=>exact ⟨(wrap64 (x12_2 + 1)),(Int.tmod (wrap64 (x13_2 + 1)) 8),rS,rS,H',⟨by have:=HK1.out;have:=HK2.out;omega⟩,⟨bA⟩⟩
     rw [if_neg c23] at H;obtain ⟨c23b0,c23b1⟩:=nI c23;by_cases c24:x13_2=a3
     ·rw [if_pos c24] at H;obtain ⟨c24b0,c24b1⟩:=eI c24;clear c24;have H':=am H;clear H;go_wp2;repeat (go_quiet (fail);try go_wp2)
      go_roundg k2
      case measure=>have:=HK1.out;have:=HK2.out;omega
      case rel=>exact ⟨(wrap64 (x12_2 + 1)),(Int.tmod (wrap64 (x13_2 + 1)) 8),rS,rS,H',⟨by have:=HK1.out;have:=HK2.out;omega⟩,⟨bA⟩⟩
     rw [if_neg c24] at H;obtain ⟨c24b0,c24b1⟩:=nI c24;have H':=am H;clear H;go_wp2;repeat (go_quiet (fail);try go_wp2)
     go_roundg k2
     case measure=>have:=HK1.out;have:=HK2.out;omega
     case rel=>exact ⟨(x12_2),(Int.tmod (wrap64 (x13_2 + 1)) 8),rS,rS,H',⟨by have:=HK1.out;have:=HK2.out;omega⟩,⟨bA⟩⟩

/-! ### spec_InPlace: function 105 -/
def spec_InPlace.f (a0:Int):Option (Int):=(spec_l1In.f a0 0 3).bind fun t223=>(if t223=true then (some (wrap64 (2 * a0))) else (some (-1)))
set_option maxHeartbeats 8000000 in
set_option maxRecDepth 100000 in
theorem spec_InPlace.calls (a0:Int) (r:Int) (w:World) (h:spec_InPlace.f a0=some r) :
  Calls Tryz.prog 105 #[.int .i64 a0] w fun e w'=>e=.returned (.int .i64 r)∧Drawn0 w w':=by
 unfold spec_InPlace.f at h;have H:=h;clear h;obtain ⟨t223,A2,H⟩:=bindE H;try dsimp only at H
 by_cases c3:t223=true
 ·subst c3;rw [if_pos rfl] at H;obtain rfl:=oj H;go_enter Tryz.func105,Tryz.ntmps105;go_wp2_with (first|((with_reducible refine gc 101 ?_);refine gL (some 4) Tryz.func101 #[.int .i64 a0,.int .i64 0,.int .i64 3] ?_;(with_reducible refine (spec_l1In.calls a0 0 3 true _ A2.out).mono ?_);rintro e w' ⟨rfl,⟨nd,rfl⟩⟩;refine ⟨_,rfl,?_⟩));go_ret;exact ⟨rS,dD⟩
 replace c3:=Bool.eq_false_iff.mpr c3;subst c3;rw [if_neg Bool.false_ne_true] at H;obtain rfl:=oj H;go_enter Tryz.func105,Tryz.ntmps105;go_wp2_with (first|((with_reducible refine gc 101 ?_);refine gL (some 4) Tryz.func101 #[.int .i64 a0,.int .i64 0,.int .i64 3] ?_;(with_reducible refine (spec_l1In.calls a0 0 3 false _ A2.out).mono ?_);rintro e w' ⟨rfl,⟨nd,rfl⟩⟩;refine ⟨_,rfl,?_⟩));go_ret;exact ⟨rS,dD⟩

/-! ### spec_OutPlace: function 106 -/
def spec_OutPlace.f (a0:Int):Option (Int):=(spec_l1In.f a0 0 3).bind fun t224=>(if t224=true then (some (wrap64 ((wrap64 (2 * a0)) + 1))) else (some (-1)))
set_option maxHeartbeats 8000000 in
set_option maxRecDepth 100000 in
theorem spec_OutPlace.calls (a0:Int) (r:Int) (w:World) (h:spec_OutPlace.f a0=some r) :
  Calls Tryz.prog 106 #[.int .i64 a0] w fun e w'=>e=.returned (.int .i64 r)∧Drawn0 w w':=by
 unfold spec_OutPlace.f at h;have H:=h;clear h;obtain ⟨t224,A2,H⟩:=bindE H;try dsimp only at H
 by_cases c3:t224=true
 ·subst c3;rw [if_pos rfl] at H;obtain rfl:=oj H;go_enter Tryz.func106,Tryz.ntmps106;go_wp2_with (first|((with_reducible refine gc 101 ?_);refine gL (some 4) Tryz.func101 #[.int .i64 a0,.int .i64 0,.int .i64 3] ?_;(with_reducible refine (spec_l1In.calls a0 0 3 true _ A2.out).mono ?_);rintro e w' ⟨rfl,⟨nd,rfl⟩⟩;refine ⟨_,rfl,?_⟩));go_ret;exact ⟨rS,dD⟩
 replace c3:=Bool.eq_false_iff.mpr c3;subst c3;rw [if_neg Bool.false_ne_true] at H;obtain rfl:=oj H;go_enter Tryz.func106,Tryz.ntmps106;go_wp2_with (first|((with_reducible refine gc 101 ?_);refine gL (some 4) Tryz.func101 #[.int .i64 a0,.int .i64 0,.int .i64 3] ?_;(with_reducible refine (spec_l1In.calls a0 0 3 false _ A2.out).mono ?_);rintro e w' ⟨rfl,⟨nd,rfl⟩⟩;refine ⟨_,rfl,?_⟩));go_ret;exact ⟨rS,dD⟩

/-! ### spec_Conflict: function 97 -/
def spec_Conflict.j0:Nat→Bool→Int→Int→Int→Int→Int→Int→Int→Int→Option (Bool)
 | 0,_,_,_,_,_,_,_,_,_=>none
 | k + 1,x5,x226000,x226001,x226002,x226003,x227000,x227001,x227002,x227003=>if x5=true then (some false) else (if x226001=2 then (if x227002=x226002 then (some true) else (some (x227003 == x226002))) else (if x227001=2 then (if x226002=x227002 then (some true) else (some (x226003 == x227002))) else (if x226002=x227002 then (some false) else (if x226003=x227003 then (some true) else ((spec_InPlace.f x226002).bind fun t229=>((spec_OutPlace.f x226003).bind fun t230=>((spec_InPlace.f x227002).bind fun t231=>((spec_OutPlace.f x227003).bind fun t232=>((spec_Interleave.f k t229 t230 t231 t232).bind fun t233=>(some t233))))))))))
def spec_Conflict.f (k:Nat) (a0_0:Int) (a0_1:Int) (a0_2:Int) (a0_3:Int) (a1_0:Int) (a1_1:Int) (a1_2:Int) (a1_3:Int):Option (Bool):=(spec_IsPath.f a0_0 a0_1 a0_2 a0_3).bind fun t227=>(if t227=true then ((spec_IsPath.f a1_0 a1_1 a1_2 a1_3).bind fun t228=>(if t228=true then (if a0_1=2 then (spec_Conflict.j0 k (a1_1 == 2) a0_0 a0_1 a0_2 a0_3 a1_0 a1_1 a1_2 a1_3) else (spec_Conflict.j0 k false a0_0 a0_1 a0_2 a0_3 a1_0 a1_1 a1_2 a1_3)) else (spec_Conflict.j0 k true a0_0 a0_1 a0_2 a0_3 a1_0 a1_1 a1_2 a1_3))) else (spec_Conflict.j0 k true a0_0 a0_1 a0_2 a0_3 a1_0 a1_1 a1_2 a1_3))
theorem spec_Conflict.mono_l:∀ k,(∀ y0 y1 y2 y3 y4 y5 y6 y7 y8,LeO (spec_Conflict.j0 k y0 y1 y2 y3 y4 y5 y6 y7 y8) (spec_Conflict.j0 (k + 1) y0 y1 y2 y3 y4 y5 y6 y7 y8))
 | 0=>fun _ _ _ _ _ _ _ _ _ r h=>by simp [spec_Conflict.j0] at h
 | k + 1=>by
  have ih0:=spec_Conflict.mono_l k
  ·intro y0 y1 y2 y3 y4 y5 y6 y7 y8;unfold spec_Conflict.j0;exact mz2 ih0 spec_Interleave.mono
theorem spec_Conflict.mono:∀ a0 a1 a2 a3 a4 a5 a6 a7 k,LeO (spec_Conflict.f k a0 a1 a2 a3 a4 a5 a6 a7) (spec_Conflict.f (k + 1) a0 a1 a2 a3 a4 a5 a6 a7):=by
 intro a0 a1 a2 a3 a4 a5 a6 a7 k;have ih0:=spec_Conflict.mono_l k;unfold spec_Conflict.f;exact mz2 ih0 spec_Interleave.mono
def spec_Conflict.T11:Bool × List (List Nat × List Nat):=(true,[([],[]),([0],[0]),([1],[1]),([],[]),([3],[3]),([4,2],[4]),([],[]),([6],[6]),([7,5],[7]),([],[]),([9],[9]),([10,8],[10]),([2,5,8,11,11],[2,5,8,11]),([12,12,0,1,2,3,4,5,6,7,8,9,10,11,12],[12])])
def spec_Conflict.B11:List Nat:=[0,1,3,0,8,31,0,64,255,0,512,2047,4095,8191]
theorem spec_Conflict.tab11:rtab .any (opsOf Tryz.f97 11)=spec_Conflict.T11:=by kernel_rfl
theorem spec_Conflict.bits11:waitsOk spec_Conflict.T11.2 spec_Conflict.B11=true:=by kernel_rfl
set_option maxHeartbeats 8000000 in
set_option maxRecDepth 100000 in
theorem spec_Conflict.calls (k:Nat) (a0_0:Int) (a0_1:Int) (a0_2:Int) (a0_3:Int) (a1_0:Int) (a1_1:Int) (a1_2:Int) (a1_3:Int) (r:Bool) (w:World) (h:spec_Conflict.f k a0_0 a0_1 a0_2 a0_3 a1_0 a1_1 a1_2 a1_3=some r) :
  Calls Tryz.prog 97 #[.agg #[.int .i64 a0_0,.int .i64 a0_1,.int .i64 a0_2,.int .i64 a0_3],.agg #[.int .i64 a1_0,.int .i64 a1_1,.int .i64 a1_2,.int .i64 a1_3]] w fun e w'=>e=.returned (.bool r)∧Below w.heap.size w w':=by
 have hu58:=Tryz.underlying58;have HB:=am (Below.refl w.heap.size w);unfold spec_Conflict.f at h;have H:=h;clear h;have HC3:=am H;clear H;go_enter Tryz.func97,Tryz.ntmps97;go_upto_region 1 with (first|((with_reducible refine gd 2 ?_);refine bF w 2 #[.int .i64 a0_0,.int .i64 a0_1,.int .i64 a0_2,.int .i64 a0_3] 58 ?_;rintro gb225 w4 BK225 GW225 GE225 hb hg;replace HB:=bs HB hb;clear hb hg)|((with_reducible refine gd 3 ?_);refine bF w 3 #[.int .i64 a1_0,.int .i64 a1_1,.int .i64 a1_2,.int .i64 a1_3] 58 ?_;rintro gb226 w5 BK226 GW226 GE226 hb hg;replace HB:=bs HB hb;have NB225_226:=nl BK225 hg;have NB226_225:=nr BK225 hg;replace BK225:=kb BK225 hb;clear hb hg));(try simp only [Act.put,List.setIfInBounds_toArray,List.set_cons_zero,List.set_cons_succ]);go_cut [5] (fun v5 wc=>∃ (kq:Nat) (x5_2:Bool),v5=.bool x5_2∧Aside0 (spec_Conflict.j0 kq x5_2 a0_0 a0_1 a0_2 a0_3 a1_0 a1_1 a1_2 a1_3=some r)∧Aside0 (kq≤k)∧Aside0 (wc.heap[gb225]?=some (.cells #[.int .i64 a0_0,.int .i64 a0_1,.int .i64 a0_2,.int .i64 a0_3] 58 (0,0)))∧Aside0 (wc.heap[gb226]?=some (.cells #[.int .i64 a1_0,.int .i64 a1_1,.int .i64 a1_2,.int .i64 a1_3] 58 (0,0)))∧Aside0 (Below w.heap.size w wc))
 case first =>
  have H:=HC3.out;clear HC3;obtain ⟨t227,A6,H⟩:=bindE H;try dsimp only at H
  by_cases c7:t227=true
  ·subst c7;rw [if_pos rfl] at H;obtain ⟨t228,A8,H⟩:=bindE H;try dsimp only at H
   by_cases c9:t228=true
   ·subst c9;rw [if_pos rfl] at H;by_cases c10:a0_1=2
    ·rw [if_pos c10] at H;obtain ⟨c10b0,c10b1⟩:=eI c10;clear c10;(first|rw [c10b0]|(simp only [i64_w,i32_w];rw [c10b0])|skip);have H':=am H;clear H;have hnb11:=NB225_226.out;have hnc11:=NB226_225.out;obtain ⟨_,_,_,_,_,_,_,_⟩:=blkc4 BK225;go_wp2_with (first|((with_reducible refine gc 93 ?_);refine gL (some 7) Tryz.func93 #[.agg #[.int .i64 a0_0,.int .i64 a0_1,.int .i64 a0_2,.int .i64 a0_3]] ?_;(with_reducible refine (spec_IsPath.calls a0_0 a0_1 a0_2 a0_3 true _ A6.out).mono ?_);rintro e w13 ⟨rfl,hb⟩;refine ⟨_,rfl,?_⟩;replace BK225:=kb BK225 hb;replace BK226:=kb BK226 hb;replace HB:=bs HB hb;(try clear hb);obtain ⟨_,_,_,_,_,_,_,_⟩:=blkc4 BK226)|(go_at_call 93;(with_reducible refine (spec_IsPath.calls a1_0 a1_1 a1_2 a1_3 true _ A8.out).mono ?_);rintro e w15 ⟨rfl,hb⟩;replace BK225:=kb BK225 hb;replace BK226:=kb BK226 hb;replace HB:=bs HB hb;(try clear hb);obtain ⟨_,_,_,_,_,_,_,_⟩:=blkc4 BK225;obtain ⟨_,_,_,_,_,_,_,_⟩:=blkc4 BK226))
     go_meet
     case rel=>exact ⟨_,((a1_1 == 2)),rS,H',⟨oL⟩,⟨bK BK225⟩,⟨bK BK226⟩,⟨bG⟩⟩
    rw [if_neg c10] at H;obtain ⟨c10b0,c10b1⟩:=nI c10;(first|rw [c10b0]|(simp only [i64_w,i32_w];rw [c10b0])|skip);have H':=am H;clear H;have hnb18:=NB225_226.out;have hnc18:=NB226_225.out;obtain ⟨_,_,_,_,_,_,_,_⟩:=blkc4 BK225;go_wp2_with (first|((with_reducible refine gc 93 ?_);refine gL (some 7) Tryz.func93 #[.agg #[.int .i64 a0_0,.int .i64 a0_1,.int .i64 a0_2,.int .i64 a0_3]] ?_;(with_reducible refine (spec_IsPath.calls a0_0 a0_1 a0_2 a0_3 true _ A6.out).mono ?_);rintro e w20 ⟨rfl,hb⟩;refine ⟨_,rfl,?_⟩;replace BK225:=kb BK225 hb;replace BK226:=kb BK226 hb;replace HB:=bs HB hb;(try clear hb);obtain ⟨_,_,_,_,_,_,_,_⟩:=blkc4 BK226)|(go_at_call 93;(with_reducible refine (spec_IsPath.calls a1_0 a1_1 a1_2 a1_3 true _ A8.out).mono ?_);rintro e w22 ⟨rfl,hb⟩;replace BK225:=kb BK225 hb;replace BK226:=kb BK226 hb;replace HB:=bs HB hb;(try clear hb);obtain ⟨_,_,_,_,_,_,_,_⟩:=blkc4 BK225))
    go_meet
    case rel=>exact ⟨_,(false),rS,H',⟨oL⟩,⟨bK BK225⟩,⟨bK BK226⟩,⟨bG⟩⟩
   replace c9:=Bool.eq_false_iff.mpr c9;subst c9;rw [if_neg Bool.false_ne_true] at H;have H':=am H;clear H;have hnb24:=NB225_226.out;have hnc24:=NB226_225.out;obtain ⟨_,_,_,_,_,_,_,_⟩:=blkc4 BK225;go_wp2_with (first|((with_reducible refine gc 93 ?_);refine gL (some 7) Tryz.func93 #[.agg #[.int .i64 a0_0,.int .i64 a0_1,.int .i64 a0_2,.int .i64 a0_3]] ?_;(with_reducible refine (spec_IsPath.calls a0_0 a0_1 a0_2 a0_3 true _ A6.out).mono ?_);rintro e w26 ⟨rfl,hb⟩;refine ⟨_,rfl,?_⟩;replace BK225:=kb BK225 hb;replace BK226:=kb BK226 hb;replace HB:=bs HB hb;(try clear hb);obtain ⟨_,_,_,_,_,_,_,_⟩:=blkc4 BK226)|(go_at_call 93;(with_reducible refine (spec_IsPath.calls a1_0 a1_1 a1_2 a1_3 false _ A8.out).mono ?_);rintro e w28 ⟨rfl,hb⟩;replace BK225:=kb BK225 hb;replace BK226:=kb BK226 hb;replace HB:=bs HB hb;(try clear hb)))
   go_meet
   case rel=>exact ⟨_,(true),rS,H',⟨oL⟩,⟨bK BK225⟩,⟨bK BK226⟩,⟨bG⟩⟩
  replace c7:=Bool.eq_false_iff.mpr c7;subst c7;rw [if_neg Bool.false_ne_true] at H;have H':=am H;clear H;have hnb29:=NB225_226.out;have hnc29:=NB226_225.out;obtain ⟨_,_,_,_,_,_,_,_⟩:=blkc4 BK225;go_wp2_with (first|((with_reducible refine gc 93 ?_);refine gL (some 7) Tryz.func93 #[.agg #[.int .i64 a0_0,.int .i64 a0_1,.int .i64 a0_2,.int .i64 a0_3]] ?_;(with_reducible refine (spec_IsPath.calls a0_0 a0_1 a0_2 a0_3 false _ A6.out).mono ?_);rintro e w31 ⟨rfl,hb⟩;refine ⟨_,rfl,?_⟩;replace BK225:=kb BK225 hb;replace BK226:=kb BK226 hb;replace HB:=bs HB hb;(try clear hb)))
  go_meet
  case rel=>exact ⟨_,(true),rS,H',⟨oL⟩,⟨bK BK225⟩,⟨bK BK226⟩,⟨bG⟩⟩
 case rest =>
  clear HC3;obtain ⟨kq,x5_2,rfl,HA,HJ2,BK225,BK226,HB⟩:=hcut
  cases kq with
  | zero=>exact absurd HA.out (by simp [spec_Conflict.j0])
  | succ kj2 =>
   have H:=HA.out;clear HA;simp only [spec_Conflict.j0] at H;by_cases c32:x5_2=true
   ·subst c32;rw [if_pos rfl] at H;obtain rfl:=oj H;go_wp2;go_ret;exact ⟨rA,bG⟩
   replace c32:=Bool.eq_false_iff.mpr c32;subst c32;rw [if_neg Bool.false_ne_true] at H;by_cases c33:a0_1=2
   ·rw [if_pos c33] at H;obtain ⟨c33b0,c33b1⟩:=eI c33;clear c33;by_cases c34:a1_2=a0_2
    ·rw [if_pos c34] at H;obtain ⟨c34b0,c34b1⟩:=eI c34;clear c34;obtain rfl:=oj H;have hnb35:=NB225_226.out;have hnc35:=NB226_225.out;obtain ⟨_,_,_,_,_,_,_,_⟩:=blkc4 BK225;obtain ⟨_,_,_,_,_,_,_,_⟩:=blkc4 BK226;go_wp2;go_ret;exact ⟨rA,bG⟩
    rw [if_neg c34] at H;obtain ⟨c34b0,c34b1⟩:=nI c34;obtain rfl:=oj H;have hnb38:=NB225_226.out;have hnc38:=NB226_225.out;obtain ⟨_,_,_,_,_,_,_,_⟩:=blkc4 BK225;obtain ⟨_,_,_,_,_,_,_,_⟩:=blkc4 BK226;go_wp2;go_ret;exact ⟨rA,bG⟩
   rw [if_neg c33] at H;obtain ⟨c33b0,c33b1⟩:=nI c33;by_cases c41:a1_1=2
   ·rw [if_pos c41] at H;obtain ⟨c41b0,c41b1⟩:=eI c41;clear c41;by_cases c42:a0_2=a1_2
    ·rw [if_pos c42] at H;obtain ⟨c42b0,c42b1⟩:=eI c42;clear c42;obtain rfl:=oj H;have hnb43:=NB225_226.out;have hnc43:=NB226_225.out;obtain ⟨_,_,_,_,_,_,_,_⟩:=blkc4 BK225;obtain ⟨_,_,_,_,_,_,_,_⟩:=blkc4 BK226;go_wp2;go_ret;exact ⟨rA,bG⟩
    rw [if_neg c42] at H;obtain ⟨c42b0,c42b1⟩:=nI c42;obtain rfl:=oj H;have hnb46:=NB225_226.out;have hnc46:=NB226_225.out;obtain ⟨_,_,_,_,_,_,_,_⟩:=blkc4 BK225;obtain ⟨_,_,_,_,_,_,_,_⟩:=blkc4 BK226;go_wp2;go_ret;exact ⟨rA,bG⟩
   rw [if_neg c41] at H;obtain ⟨c41b0,c41b1⟩:=nI c41;by_cases c49:a0_2=a1_2
   ·rw [if_pos c49] at H;obtain ⟨c49b0,c49b1⟩:=eI c49;clear c49;obtain rfl:=oj H;have hnb50:=NB225_226.out;have hnc50:=NB226_225.out;obtain ⟨_,_,_,_,_,_,_,_⟩:=blkc4 BK225;obtain ⟨_,_,_,_,_,_,_,_⟩:=blkc4 BK226;go_wp2;go_ret;exact ⟨rA,bG⟩
   rw [if_neg c49] at H;obtain ⟨c49b0,c49b1⟩:=nI c49;by_cases c53:a0_3=a1_3
   ·rw [if_pos c53] at H;obtain ⟨c53b0,c53b1⟩:=eI c53;clear c53;obtain rfl:=oj H;have hnb54:=NB225_226.out;have hnc54:=NB226_225.out;obtain ⟨_,_,_,_,_,_,_,_⟩:=blkc4 BK225;obtain ⟨_,_,_,_,_,_,_,_⟩:=blkc4 BK226;go_wp2;go_ret;exact ⟨rA,bG⟩
   rw [if_neg c53] at H;obtain ⟨c53b0,c53b1⟩:=nI c53;obtain ⟨t229,A57,H⟩:=bindE H;try dsimp only at H
   obtain ⟨t230,A58,H⟩:=bindE H;try dsimp only at H
   obtain ⟨t231,A59,H⟩:=bindE H;try dsimp only at H
   obtain ⟨t232,A60,H⟩:=bindE H;try dsimp only at H
   obtain ⟨t233,A61,H⟩:=bindE H;try dsimp only at H
   obtain rfl:=oj H;have hnb62:=NB225_226.out;have hnc62:=NB226_225.out;obtain ⟨_,_,_,_,_,_,_,_⟩:=blkc4 BK225;obtain ⟨_,_,_,_,_,_,_,_⟩:=blkc4 BK226;try go_wp2
   replace BK225:=dk BK225;replace BK226:=dk BK226;have HBo:=HB;replace HB:=db HB;refine sw (ds:=[]) 14 (mb 14 0) spec_Conflict.tab11 spec_Conflict.bits11 (h4c BK225 (h4 BK226)) (fun hHeld HT_ HW_=>?_);generalize wc.drew=w65 at BK225 BK226 HB hHeld ⊢;refine pz [0,3,6,9,1,4,7,10] ?_;refine oa 2 70 (mb 14 1759) HT_ (fun K hK=>?_);refine gA Tryz.func105 #[.int .i64 a0_2] ?_;(with_reducible refine (spec_InPlace.calls a0_2 t229 _ A57.out).mono ?_);rintro e w' ⟨rfl,⟨nd,rfl⟩⟩;refine ⟨_,rfl,?_⟩;refine hK.out _ _ (cm4 BK225 (cn4 BK226)) (fun hHeld=>?_);clear hK K;refine nB ?_;refine oa 5 73 (mb 14 1791) HT_ (fun K hK=>?_);refine gA Tryz.func106 #[.int .i64 a0_3] ?_;(with_reducible refine (spec_OutPlace.calls a0_3 t230 _ A58.out).mono ?_);rintro e w' ⟨rfl,⟨nd,rfl⟩⟩;refine ⟨_,rfl,?_⟩;refine hK.out _ _ (cm4 BK225 (cn4 BK226)) (fun hHeld=>?_);clear hK K;refine nB ?_;refine oa 8 76 (mb 14 2047) HT_ (fun K hK=>?_);refine gA Tryz.func105 #[.int .i64 a1_2] ?_;(with_reducible refine (spec_InPlace.calls a1_2 t231 _ A59.out).mono ?_);rintro e w' ⟨rfl,⟨nd,rfl⟩⟩;refine ⟨_,rfl,?_⟩;refine hK.out _ _ (cm4 BK225 (cn4 BK226)) (fun hHeld=>?_);clear hK K;refine nB ?_;refine oa 11 79 (mb 14 4095) HT_ (fun K hK=>?_);refine gA Tryz.func106 #[.int .i64 a1_3] ?_;(with_reducible refine (spec_OutPlace.calls a1_3 t232 _ A60.out).mono ?_);rintro e w' ⟨rfl,⟨nd,rfl⟩⟩;refine ⟨_,rfl,?_⟩;refine hK.out _ _ (cm4 BK225 (cn4 BK226)) (fun hHeld=>?_);clear hK K;refine nB ?_;refine oa 12 80 (mb 14 8191) HT_ (fun K hK=>?_);refine gA Tryz.func104 #[.int .i64 t229,.int .i64 t230,.int .i64 t231,.int .i64 t232] ?_;(with_reducible refine (spec_Interleave.calls kj2 t229 t230 t231 t232 t233 _ A61.out).mono ?_);rintro e w66 ⟨rfl,hb⟩;refine ⟨_,rfl,?_⟩;replace BK225:=kb BK225 hb;replace BK226:=kb BK226 hb;replace HB:=bs HB hb;(try clear hb);refine hK.out _ _ (cm4 BK225 (cn4 BK226)) (fun hHeld=>?_);clear hK K;refine nB ?_;refine pz [13] ?_;refine eA HT_ ?_;try go_wp2
   go_ret;exact ⟨rA,bG⟩

/-! ### spec_IsTogether: function 87 -/
mutual
def spec_IsTogether.l0:Nat→List (S58)→List Int→Int→Option (Bool)
 | 0,_,_,_=>none
 | k + 1,x0,x1,x5=>if x5 < (x1.length:Int) then (if 0≤x5 then ((spec_FindPath.f k x0 (rd x1 x5)).bind fun t236=>(if t236 < 0 then (spec_IsTogether.j1 k x0 x1 x5 t236 true) else (if x5 > 0 then (if 0≤(wrap64 (x5 - 1)) then (if (wrap64 (x5 - 1)) < (x1.length:Int) then (spec_IsTogether.j1 k x0 x1 x5 t236 (decide ((rd x1 (wrap64 (x5 - 1)))≥(rd x1 x5)))) else (none)) else (none)) else (spec_IsTogether.j1 k x0 x1 x5 t236 false)))) else (none)) else ((spec_ArePaths.f k x0).bind fun t234=>(some t234))
def spec_IsTogether.j1:Nat→List (S58)→List Int→Int→Int→Bool→Option (Bool)
 | 0,_,_,_,_,_=>none
 | k + 1,x0,x1,x5,x6,x37=>if x37=true then (some false) else (spec_IsTogether.l1 k x0 x1 x5 x6 0)
def spec_IsTogether.l1:Nat→List (S58)→List Int→Int→Int→Int→Option (Bool)
 | 0,_,_,_,_,_=>none
 | k + 1,x0,x1,x5,x6,x7=>if x7 < x5 then (if 0≤x6 then (if x6 < (x0.length:Int) then (if 0≤x7 then (if x7 < (x1.length:Int) then ((spec_FindPath.f k x0 (rd x1 x7)).bind fun t241=>(if 0≤t241 then (if t241 < (x0.length:Int) then ((spec_Conflict.f k ((rd_T58 x0 x6).f0) ((rd_T58 x0 x6).f1) ((rd_T58 x0 x6).f2) ((rd_T58 x0 x6).f3) ((rd_T58 x0 t241).f0) ((rd_T58 x0 t241).f1) ((rd_T58 x0 t241).f2) ((rd_T58 x0 t241).f3)).bind fun t243=>(if t243=true then (some false) else (spec_IsTogether.l1 k x0 x1 x5 x6 (wrap64 (x7 + 1))))) else (none)) else (none))) else (none)) else (none)) else (none)) else (none)) else (spec_IsTogether.l0 k x0 x1 (wrap64 (x5 + 1)))
end
def spec_IsTogether.f (k:Nat) (l0:List (S58)) (l1:List Int):Option (Bool):=spec_IsTogether.l0 k l0 l1 0
theorem spec_IsTogether.mono_l:∀ k,(∀ y0 y1 y2,LeO (spec_IsTogether.l0 k y0 y1 y2) (spec_IsTogether.l0 (k + 1) y0 y1 y2))∧(∀ y0 y1 y2 y3 y4,LeO (spec_IsTogether.j1 k y0 y1 y2 y3 y4) (spec_IsTogether.j1 (k + 1) y0 y1 y2 y3 y4))∧(∀ y0 y1 y2 y3 y4,LeO (spec_IsTogether.l1 k y0 y1 y2 y3 y4) (spec_IsTogether.l1 (k + 1) y0 y1 y2 y3 y4))
 | 0=>⟨fun _ _ _ r h=>by simp [spec_IsTogether.l0] at h,fun _ _ _ _ _ r h=>by simp [spec_IsTogether.j1] at h,fun _ _ _ _ _ r h=>by simp [spec_IsTogether.l1] at h⟩
 | k + 1=>by
  obtain ⟨ih0,ih1,ih2⟩:=spec_IsTogether.mono_l k;refine ⟨?_,?_,?_⟩
  ·intro y0 y1 y2;unfold spec_IsTogether.l0;exact mz6 ih0 ih1 ih2 spec_ArePaths.mono spec_Conflict.mono spec_FindPath.mono
  ·intro y0 y1 y2 y3 y4;unfold spec_IsTogether.j1;exact mz6 ih0 ih1 ih2 spec_ArePaths.mono spec_Conflict.mono spec_FindPath.mono
  ·intro y0 y1 y2 y3 y4;unfold spec_IsTogether.l1;exact mz6 ih0 ih1 ih2 spec_ArePaths.mono spec_Conflict.mono spec_FindPath.mono
theorem spec_IsTogether.mono:∀ a0 a1 k,LeO (spec_IsTogether.f k a0 a1) (spec_IsTogether.f (k + 1) a0 a1):=by
 intro a0 a1 k;obtain ⟨ih0,ih1,ih2⟩:=spec_IsTogether.mono_l k;unfold spec_IsTogether.f;exact mz6 ih0 ih1 ih2 spec_ArePaths.mono spec_Conflict.mono spec_FindPath.mono
def spec_IsTogether.T5:Bool × List (List Nat × List Nat):=(true,[([],[]),([0],[0]),([1],[1]),([2],[2]),([3,2],[2,3]),([4,2,2],[2,4]),([5],[5]),([5],[5]),([7,5],[5,7]),([6,8,5],[5,6,8]),([9,5],[5,9]),([5],[5]),([5],[5]),([11,12,5],[5,11,12]),([13,5],[5,13]),([10,14,5],[5,10,14]),([5,15,2],[2,5,15]),([2,16],[2,16])])
def spec_IsTogether.B5:List Nat:=[0,1,3,7,15,31,63,63,191,511,1023,63,63,6207,14399,32767,65535,131071]
theorem spec_IsTogether.tab5:rtab .any (opsOf Tryz.f87 5)=spec_IsTogether.T5:=by kernel_rfl
theorem spec_IsTogether.bits5:waitsOk spec_IsTogether.T5.2 spec_IsTogether.B5=true:=by kernel_rfl
def spec_IsTogether.T10:Bool × List (List Nat × List Nat):=(true,[([],[]),([],[]),([0,1],[0,1]),([2],[2]),([],[]),([],[]),([],[]),([],[]),([6,7],[6,7]),([8],[8]),([5,9],[5,9]),([4,10],[4,10]),([11],[11]),([3,12,10],[3,12])])
def spec_IsTogether.B10:List Nat:=[0,0,3,7,0,0,0,0,192,448,992,2032,4080,8191]
theorem spec_IsTogether.tab10:rtab .any (opsOf Tryz.f87 10)=spec_IsTogether.T10:=by kernel_rfl
theorem spec_IsTogether.bits10:waitsOk spec_IsTogether.T10.2 spec_IsTogether.B10=true:=by kernel_rfl
set_option maxHeartbeats 8000000 in
set_option maxRecDepth 100000 in
theorem spec_IsTogether.calls (k:Nat) (A0:Option Addr) (c0:Nat) (l0:List (S58)) (A1:Option Addr) (c1:Nat) (l1:List Int) (r:Bool) (w:World) (hr0:Kd.C k58 w A0 l0.length l0) (hc0:l0.length≤c0) (hr1:Kd.C (Kd.int .i64) w A1 l1.length l1) (hc1:l1.length≤c1) (h:spec_IsTogether.f k l0 l1=some r) :
  Calls Tryz.prog 87 #[.slice A0 l0.length c0,.slice A1 l1.length c1] w fun e w'=>e=.returned (.bool r)∧Below w.heap.size w w':=by
 have hu58:=Tryz.underlying58;have HR0:=am hr0;have HC0:=am hc0;clear hr0 hc0;have HR1:=am hr1;have HC1:=am hc1;clear hr1 hc1;have HB:=am (Below.refl w.heap.size w);unfold spec_IsTogether.f at h;have H:=h;clear h;have H':=am H;clear H;go_enter Tryz.func87,Tryz.ntmps87;go_wp2;go_loopg [5] k (fun kq v5 w'=>∃ (x5_1:Int),v5=.int .i64 x5_1∧Aside0 (spec_IsTogether.l0 kq l0 l1 x5_1=some r)∧Aside0 (kq≤k)∧Aside0 (Below w.heap.size w w'))
 case atStart=>exact ⟨(0),rS,H',⟨Nat.le_refl _⟩,⟨bA⟩⟩
 case round =>
  clear H';obtain ⟨x5_1,rfl,HA,HK1,HB⟩:=hrel
  cases gk with
  | zero=>exact absurd HA.out (by simp [spec_IsTogether.l0])
  | succ k1 =>
   have H:=HA.out;clear HA;simp only [spec_IsTogether.l0] at H;by_cases c3:x5_1 < (l1.length:Int)
   ·rw [if_pos c3] at H;have c3b0:=dt c3;clear c3;have c4b0:=ifC H;replace H:=ifT H;obtain ⟨t236,A5,H⟩:=bindE H;try dsimp only at H
    have HC6:=am H;clear H;obtain ⟨p235,q235⟩:=pq x5_1 l1;obtain ⟨ad235,e235,hx235_0⟩:=Kd.at_int (Kd.C_below HR1.out HB.out) x5_1 p235 q235;cases e235;obtain ⟨p235,q235⟩:=eT p235 q235;go_upto_region 5 with (first|((with_reducible refine gc 96 ?_);refine gL (some 19) Tryz.func96 #[.slice A0 l0.length c0,.int .i64 (rd l1 x5_1)] ?_;(with_reducible refine (spec_FindPath.calls k1 _ _ l0 (rd l1 x5_1) t236 _ ?_ ?_ A5.out).mono ?_);exact cB HR0;exact HC0.out;rintro e w' ⟨rfl,⟨nd,rfl⟩⟩;refine ⟨_,rfl,?_⟩));(try simp only [Act.put,List.setIfInBounds_toArray,List.set_cons_zero,List.set_cons_succ]);go_cut [37] (fun v37 wc=>∃ (kq:Nat) (x37_5:Bool),v37=.bool x37_5∧Aside0 (spec_IsTogether.j1 kq l0 l1 x5_1 t236 x37_5=some r)∧Aside0 (kq≤k1)∧Aside0 (Below w.heap.size w wc))
    case first =>
     have H:=HC6.out;clear HC6;by_cases c7:t236 < 0
     ·rw [if_pos c7] at H;have c7b0:=dt c7;clear c7;(first|rw [c7b0]|(simp only [i64_w,i32_w];rw [c7b0])|skip);have H':=am H;clear H;try go_wp2
      have HBo:=HB;replace HB:=db HB;refine sw (ds:=[]) 18 (mb 18 0) spec_IsTogether.tab5 spec_IsTogether.bits5 h0 (fun hHeld HT_ HW_=>?_);generalize wr.drew=w8 at HB hHeld ⊢;refine pz [0,1,2,3,4,5,6,7,8,9,10,11,12,13,14,15,16,17] ?_;refine eA HT_ ?_;try go_wp2
      go_meet
      case rel=>exact ⟨_,(true),rS,H',⟨by have:=HK1.out;first|omega|exact Nat.le_refl _⟩,⟨bA⟩⟩
     rw [if_neg c7] at H;have c7b0:=df c7;clear c7;(first|rw [c7b0]|(simp only [i64_w,i32_w];rw [c7b0])|skip);by_cases c9:x5_1 > 0
     ·rw [if_pos c9] at H;have c9b0:=dt c9;clear c9;obtain ⟨ji10,hji10⟩:∃ j_:Int,(wrap64 (x5_1 - 1))=j_:=⟨_,rfl⟩;replace H:(if 0≤(ji10) then (if (ji10) < (l1.length:Int) then (spec_IsTogether.j1 k1 l0 l1 x5_1 t236 (decide ((rd l1 (ji10))≥(rd l1 x5_1)))) else (none)) else (none))=some r:=by first|(rw [hji10] at H;exact H)|(simp only [hji10] at H ⊢;exact H)
      have hji10w:(IntKind.i64.wrap (x5_1 - 1))=ji10:=(i64_w _).trans hji10;have c11b0:=ifC H;replace H:=ifT H;have c12b0:=ifC H;replace H:=ifT H;have H':=am H;clear H;try go_wp2
      have HBo:=HB;replace HB:=db HB;obtain ⟨p237,q237⟩:=pq (ji10) l1;obtain ⟨ad237,e237,hx237_0⟩:=Kd.at_int HR1.out (ji10) p237 q237;have hw237_0:=hx237_0;obtain rfl:ad235=ad237:=(by injection e237);replace hx237_0:=hC HB hx237_0;obtain ⟨p237,q237⟩:=eT p237 q237;obtain ⟨p238,q238⟩:=pq x5_1 l1;obtain ⟨ad238,e238,hx238_0⟩:=Kd.at_int HR1.out x5_1 p238 q238;have hw238_0:=hx238_0;obtain rfl:ad235=ad238:=(by injection e238);replace hx238_0:=hC HB hx238_0;obtain ⟨p238,q238⟩:=eT p238 q238;refine sw (ds:=[]) 18 (mb 18 0) spec_IsTogether.tab5 spec_IsTogether.bits5 (h1c (hC HB hw237_0) (h1 (hC HB hw238_0))) (fun hHeld HT_ HW_=>?_);generalize wr.drew=w13 at HB hx237_0 hx238_0 hHeld ⊢;refine pz [0,1,2,3,4,5,6,7,8,9,11,12,13,10,14,15,16,17] ?_;refine eA HT_ ?_;try go_wp2
      go_meet
      case rel=>exact ⟨_,(decide ((rd l1 (ji10))≥(rd l1 x5_1))),(by first|rfl|(simp;done)|(simp only [← hji10] <;> (first|rfl|simp))|(simp [*];done)),H',⟨by have:=HK1.out;first|omega|exact Nat.le_refl _⟩,⟨bA⟩⟩
     rw [if_neg c9] at H;have c9b0:=df c9;clear c9;have H':=am H;clear H;try go_wp2
     have HBo:=HB;replace HB:=db HB;refine sw (ds:=[]) 18 (mb 18 0) spec_IsTogether.tab5 spec_IsTogether.bits5 h0 (fun hHeld HT_ HW_=>?_);generalize wr.drew=w14 at HB hHeld ⊢;refine pz [0,1,2,3,4,5,6,7,8,9,10,11,12,13,14,15,16,17] ?_;refine eA HT_ ?_;try go_wp2
     go_meet
     case rel=>exact ⟨_,(false),rS,H',⟨by have:=HK1.out;first|omega|exact Nat.le_refl _⟩,⟨bA⟩⟩
    case rest =>
     clear HC6;obtain ⟨kq,x37_5,rfl,HA,HJ5,HB⟩:=hcut
     cases kq with
     | zero=>exact absurd HA.out (by simp [spec_IsTogether.j1])
     | succ kj5 =>
      have H:=HA.out;clear HA;simp only [spec_IsTogether.j1] at H;by_cases c15:x37_5=true
      ·subst c15;rw [if_pos rfl] at H;obtain rfl:=oj H;go_wp2;go_ret;exact ⟨rA,bA⟩
      replace c15:=Bool.eq_false_iff.mpr c15;subst c15;rw [if_neg Bool.false_ne_true] at H;have H':=am H;clear H;go_wp2;go_loopg [7] kj5 (fun kq v7 w'=>∃ (x7_3:Int),v7=.int .i64 x7_3∧Aside0 (spec_IsTogether.l1 kq l0 l1 x5_1 t236 x7_3=some r)∧Aside0 (kq≤kj5)∧Aside0 (Below w.heap.size w w'))
      case atStart=>exact ⟨(0),rS,H',⟨Nat.le_refl _⟩,⟨bA⟩⟩
      case round =>
       clear H';obtain ⟨x7_3,rfl,HA,HK3,HB⟩:=hrel
       cases gk with
       | zero=>exact absurd HA.out (by simp [spec_IsTogether.l1])
       | succ k3 =>
        have H:=HA.out;clear HA;simp only [spec_IsTogether.l1] at H;by_cases c16:x7_3 < x5_1
        ·rw [if_pos c16] at H;have c16b0:=dt c16;clear c16;have c17b0:=ifC H;replace H:=ifT H;have c18b0:=ifC H;replace H:=ifT H;have c19b0:=ifC H;replace H:=ifT H;have c20b0:=ifC H;replace H:=ifT H;obtain ⟨t241,A21,H⟩:=bindE H;try dsimp only at H
         have c22b0:=ifC H;replace H:=ifT H;have c23b0:=ifC H;replace H:=ifT H;obtain ⟨t243,A24,H⟩:=bindE H;try dsimp only at H
         by_cases c25:t243=true
         ·subst c25;rw [if_pos rfl] at H;obtain rfl:=oj H;try go_wp2
          have HBo:=HB;replace HB:=db HB;obtain ⟨p239,q239⟩:=pq t236 l0;obtain ⟨ad239,e239,hx239_0,hx239_1,hx239_2,hx239_3⟩:=at_T58 HR0.out t236 p239 q239;have hw239_3:=hx239_3;have hw239_2:=hx239_2;have hw239_1:=hx239_1;have hw239_0:=hx239_0;cases e239;replace hx239_0:=hC HB hx239_0;replace hx239_1:=hC HB hx239_1;replace hx239_2:=hC HB hx239_2;replace hx239_3:=hC HB hx239_3;obtain ⟨p239,q239⟩:=eT p239 q239;obtain ⟨p240,q240⟩:=pq x7_3 l1;obtain ⟨ad240,e240,hx240_0⟩:=Kd.at_int HR1.out x7_3 p240 q240;have hw240_0:=hx240_0;obtain rfl:ad235=ad240:=(by injection e240);replace hx240_0:=hC HB hx240_0;obtain ⟨p240,q240⟩:=eT p240 q240;obtain ⟨p242,q242⟩:=pq t241 l0;obtain ⟨ad242,e242,hx242_0,hx242_1,hx242_2,hx242_3⟩:=at_T58 HR0.out t241 p242 q242;have hw242_3:=hx242_3;have hw242_2:=hx242_2;have hw242_1:=hx242_1;have hw242_0:=hx242_0;obtain rfl:ad239=ad242:=(by injection e242);replace hx242_0:=hC HB hx242_0;replace hx242_1:=hC HB hx242_1;replace hx242_2:=hC HB hx242_2;replace hx242_3:=hC HB hx242_3;obtain ⟨p242,q242⟩:=eT p242 q242;refine sw (ds:=[]) 14 (mb 14 0) spec_IsTogether.tab10 spec_IsTogether.bits10 (h1c (hC HB hw239_0) (h1c (hC HB hw239_1) (h1c (hC HB hw239_2) (h1c (hC HB hw239_3) (h1c (hC HB hw240_0) (h1c (hC HB hw242_0) (h1c (hC HB hw242_1) (h1c (hC HB hw242_2) (h1 (hC HB hw242_3)))))))))) (fun hHeld HT_ HW_=>?_);generalize wr.drew=w26 at HB hx239_0 hx239_1 hx239_2 hx239_3 hx240_0 hx242_0 hx242_1 hx242_2 hx242_3 hHeld ⊢;refine pz [0,1,2,4,5,6,7,8,3,9] ?_;refine oa 10 53 (mb 14 2047) HT_ (fun K hK=>?_);refine gA Tryz.func96 #[.slice (some ad239) l0.length c0,.int .i64 (rd l1 x7_3)] ?_;(with_reducible refine (spec_FindPath.calls k3 _ _ l0 (rd l1 x7_3) t241 _ ?_ ?_ A21.out).mono ?_);exact cB HR0;exact HC0.out;rintro e w' ⟨rfl,⟨nd,rfl⟩⟩;refine ⟨_,rfl,?_⟩;refine hK.out _ _ hL (fun hHeld=>?_);clear hK K;refine nB ?_;refine pz [11,12] ?_;refine oa 13 56 (mb 14 16383) HT_ (fun K hK=>?_);refine gA Tryz.func97 #[.agg #[.int .i64 ((rd_T58 l0 t236).f0),.int .i64 ((rd_T58 l0 t236).f1),.int .i64 ((rd_T58 l0 t236).f2),.int .i64 ((rd_T58 l0 t236).f3)],.agg #[.int .i64 ((rd_T58 l0 t241).f0),.int .i64 ((rd_T58 l0 t241).f1),.int .i64 ((rd_T58 l0 t241).f2),.int .i64 ((rd_T58 l0 t241).f3)]] ?_;(with_reducible refine (spec_Conflict.calls k3 ((rd_T58 l0 t236).f0) ((rd_T58 l0 t236).f1) ((rd_T58 l0 t236).f2) ((rd_T58 l0 t236).f3) ((rd_T58 l0 t241).f0) ((rd_T58 l0 t241).f1) ((rd_T58 l0 t241).f2) ((rd_T58 l0 t241).f3) true _ A24.out).mono ?_);rintro e w27 ⟨rfl,hb⟩;refine ⟨_,rfl,?_⟩;replace HB:=bs HB hb;(try clear hb);refine hK.out _ _ hL (fun hHeld=>?_);clear hK K;refine nB ?_;refine eA HT_ ?_;try go_wp2
          go_ret;exact ⟨rA,bA⟩
         replace c25:=Bool.eq_false_iff.mpr c25;subst c25;rw [if_neg Bool.false_ne_true] at H;have H':=am H;clear H;try go_wp2
         have HBo:=HB;replace HB:=db HB;obtain ⟨p239,q239⟩:=pq t236 l0;obtain ⟨ad239,e239,hx239_0,hx239_1,hx239_2,hx239_3⟩:=at_T58 HR0.out t236 p239 q239;have hw239_3:=hx239_3;have hw239_2:=hx239_2;have hw239_1:=hx239_1;have hw239_0:=hx239_0;cases e239;replace hx239_0:=hC HB hx239_0;replace hx239_1:=hC HB hx239_1;replace hx239_2:=hC HB hx239_2;replace hx239_3:=hC HB hx239_3;obtain ⟨p239,q239⟩:=eT p239 q239;obtain ⟨p240,q240⟩:=pq x7_3 l1;obtain ⟨ad240,e240,hx240_0⟩:=Kd.at_int HR1.out x7_3 p240 q240;have hw240_0:=hx240_0;obtain rfl:ad235=ad240:=(by injection e240);replace hx240_0:=hC HB hx240_0;obtain ⟨p240,q240⟩:=eT p240 q240;obtain ⟨p242,q242⟩:=pq t241 l0;obtain ⟨ad242,e242,hx242_0,hx242_1,hx242_2,hx242_3⟩:=at_T58 HR0.out t241 p242 q242;have hw242_3:=hx242_3;have hw242_2:=hx242_2;have hw242_1:=hx242_1;have hw242_0:=hx242_0;obtain rfl:ad239=ad242:=(by injection e242);replace hx242_0:=hC HB hx242_0;replace hx242_1:=hC HB hx242_1;replace hx242_2:=hC HB hx242_2;replace hx242_3:=hC HB hx242_3;obtain ⟨p242,q242⟩:=eT p242 q242;refine sw (ds:=[]) 14 (mb 14 0) spec_IsTogether.tab10 spec_IsTogether.bits10 (h1c (hC HB hw239_0) (h1c (hC HB hw239_1) (h1c (hC HB hw239_2) (h1c (hC HB hw239_3) (h1c (hC HB hw240_0) (h1c (hC HB hw242_0) (h1c (hC HB hw242_1) (h1c (hC HB hw242_2) (h1 (hC HB hw242_3)))))))))) (fun hHeld HT_ HW_=>?_);generalize wr.drew=w28 at HB hx239_0 hx239_1 hx239_2 hx239_3 hx240_0 hx242_0 hx242_1 hx242_2 hx242_3 hHeld ⊢;refine pz [0,1,2,4,5,6,7,8,3,9] ?_;refine oa 10 53 (mb 14 2047) HT_ (fun K hK=>?_);refine gA Tryz.func96 #[.slice (some ad239) l0.length c0,.int .i64 (rd l1 x7_3)] ?_;(with_reducible refine (spec_FindPath.calls k3 _ _ l0 (rd l1 x7_3) t241 _ ?_ ?_ A21.out).mono ?_);exact cB HR0;exact HC0.out;rintro e w' ⟨rfl,⟨nd,rfl⟩⟩;refine ⟨_,rfl,?_⟩;refine hK.out _ _ hL (fun hHeld=>?_);clear hK K;refine nB ?_;refine pz [11,12] ?_;refine oa 13 56 (mb 14 16383) HT_ (fun K hK=>?_);refine gA Tryz.func97 #[.agg #[.int .i64 ((rd_T58 l0 t236).f0),.int .i64 ((rd_T58 l0 t236).f1),.int .i64 ((rd_T58 l0 t236).f2),.int .i64 ((rd_T58 l0 t236).f3)],.agg #[.int .i64 ((rd_T58 l0 t241).f0),.int .i64 ((rd_T58 l0 t241).f1),.int .i64 ((rd_T58 l0 t241).f2),.int .i64 ((rd_T58 l0 t241).f3)]] ?_;(with_reducible refine (spec_Conflict.calls k3 ((rd_T58 l0 t236).f0) ((rd_T58 l0 t236).f1) ((rd_T58 l0 t236).f2) ((rd_T58 l0 t236).f3) ((rd_T58 l0 t241).f0) ((rd_T58 l0 t241).f1) ((rd_T58 l0 t241).f2) ((rd_T58 l0 t241).f3) false _ A24.out).mono ?_);rintro e w29 ⟨rfl,hb⟩;refine ⟨_,rfl,?_⟩;replace HB:=bs HB hb;(try clear hb);refine hK.out _ _ hL (fun hHeld=>?_);clear hK K;refine nB ?_;refine eA HT_ ?_;try go_wp2
         go_roundg k3
         case measure=>have:=HK1.out;have:=HJ5.out;have:=HK3.out;omega
         case rel=>exact ⟨(wrap64 (x7_3 + 1)),rS,H',⟨by have:=HK1.out;have:=HJ5.out;have:=HK3.out;omega⟩,⟨bA⟩⟩
        rw [if_neg c16] at H;have c16b0:=df c16;clear c16;have H':=am H;clear H;go_wp2;go_roundg k3
        case measure=>have:=HK1.out;have:=HJ5.out;have:=HK3.out;omega
        case rel=>exact ⟨(wrap64 (x5_1 + 1)),rS,H',⟨by have:=HK1.out;have:=HJ5.out;have:=HK3.out;omega⟩,⟨bA⟩⟩
   rw [if_neg c3] at H;have c3b0:=df c3;clear c3;obtain ⟨t234,A30,H⟩:=bindE H;try dsimp only at H
   obtain rfl:=oj H;go_wp2_with (first|((with_reducible refine gc 83 ?_);refine gL (some 58) Tryz.func83 #[.slice A0 l0.length c0] ?_;(with_reducible refine (spec_ArePaths.calls k1 _ _ l0 t234 _ ?_ ?_ A30.out).mono ?_);exact cB HR0;exact HC0.out;rintro e w31 ⟨rfl,hb⟩;refine ⟨_,rfl,?_⟩;replace HB:=bs HB hb;(try clear hb)));go_ret;exact ⟨rA,bA⟩

/-! ### spec_l6Has: function 102 -/
def spec_l6Has.l0:Nat→List Int→Int→Int→Option (Bool)
 | 0,_,_,_=>none
 | k + 1,x0,x1,x5=>if x5 < (x0.length:Int) then (if 0≤x5 then (if (rd x0 x5)=x1 then (some true) else (spec_l6Has.l0 k x0 x1 (wrap64 (x5 + 1)))) else (none)) else (some false)
def spec_l6Has.f (k:Nat) (l0:List Int) (a1:Int):Option (Bool):=spec_l6Has.l0 k l0 a1 0
theorem spec_l6Has.mono_l:∀ k,(∀ y0 y1 y2,LeO (spec_l6Has.l0 k y0 y1 y2) (spec_l6Has.l0 (k + 1) y0 y1 y2))
 | 0=>fun _ _ _ r h=>by simp [spec_l6Has.l0] at h
 | k + 1=>by
  have ih0:=spec_l6Has.mono_l k
  ·intro y0 y1 y2;unfold spec_l6Has.l0;exact mz1 ih0
theorem spec_l6Has.mono:∀ a0 a1 k,LeO (spec_l6Has.f k a0 a1) (spec_l6Has.f (k + 1) a0 a1):=by
 intro a0 a1 k;have ih0:=spec_l6Has.mono_l k;unfold spec_l6Has.f;exact mz1 ih0
set_option maxHeartbeats 8000000 in
set_option maxRecDepth 100000 in
theorem spec_l6Has.calls (k:Nat) (A0:Option Addr) (c0:Nat) (l0:List Int) (a1:Int) (r:Bool) (w:World) (hr0:Kd.C (Kd.int .i64) w A0 l0.length l0) (hc0:l0.length≤c0) (h:spec_l6Has.f k l0 a1=some r) :
  Calls Tryz.prog 102 #[.slice A0 l0.length c0,.int .i64 a1] w fun e w'=>e=.returned (.bool r)∧Drawn0 w w':=by
 have HR0:=am hr0;have HC0:=am hc0;clear hr0 hc0;unfold spec_l6Has.f at h;have H:=h;clear h;have H':=am H;clear H;go_enter Tryz.func102,Tryz.ntmps102;go_wp2;go_loopg [5] k (fun kq v5 w'=>∃ (x5_1:Int),v5=.int .i64 x5_1∧Aside0 (spec_l6Has.l0 kq l0 a1 x5_1=some r)∧Aside0 (kq≤k)∧Drawn0 w w')
 case atStart=>exact ⟨(0),rS,H',⟨Nat.le_refl _⟩,by repeat (first|exact Drawn0.refl _|apply Drawn0.step)⟩
 case round =>
  clear H';obtain ⟨x5_1,rfl,HA,HK1,⟨m1,rfl⟩⟩:=hrel
  cases gk with
  | zero=>exact absurd HA.out (by simp [spec_l6Has.l0])
  | succ k1 =>
   have H:=HA.out;clear HA;simp only [spec_l6Has.l0] at H;by_cases c3:x5_1 < (l0.length:Int)
   ·rw [if_pos c3] at H;have c3b0:=dt c3;clear c3;have c4b0:=ifC H;replace H:=ifT H;by_cases c5:(rd l0 x5_1)=a1
    ·rw [if_pos c5] at H;obtain ⟨c5b0,c5b1⟩:=eI c5;clear c5;obtain rfl:=oj H;obtain ⟨p244,q244⟩:=pq x5_1 l0;obtain ⟨ad244,e244,hx244_0⟩:=Kd.at_int HR0.out x5_1 p244 q244;cases e244;obtain ⟨p244,q244⟩:=eT p244 q244;go_wp2;go_ret;exact ⟨rS,dD⟩
    rw [if_neg c5] at H;obtain ⟨c5b0,c5b1⟩:=nI c5;have H':=am H;clear H;obtain ⟨p244,q244⟩:=pq x5_1 l0;obtain ⟨ad244,e244,hx244_0⟩:=Kd.at_int HR0.out x5_1 p244 q244;cases e244;obtain ⟨p244,q244⟩:=eT p244 q244;go_wp2;go_roundg k1
    case measure=>have:=HK1.out;omega
    case rel=>exact ⟨(wrap64 (x5_1 + 1)),rS,H',⟨by have:=HK1.out;omega⟩,by repeat (first|exact Drawn0.refl _|apply Drawn0.step)⟩
   rw [if_neg c3] at H;have c3b0:=df c3;clear c3;obtain rfl:=oj H;go_wp2;go_ret;exact ⟨rS,dD⟩

/-! ### spec_l6Put: function 103 -/
def spec_l6Put.l0:Nat→List Int→Int→Int→Option (List Int)
 | 0,_,_,_=>none
 | k + 1,x0,x1,x5=>if x5 < (x0.length:Int) then (if 0≤x5 then (if (rd x0 x5) < x1 then (spec_l6Put.l0 k x0 x1 (wrap64 (x5 + 1))) else (if (rd x0 x5)=x1 then ((some (([]:List Int):List Int)).bind fun y247=>(if y247.length + x0.length < 17592186044416 then (some (y247 ++ x0)) else (none))) else ((some (([]:List Int):List Int)).bind fun y253=>(if x5≤(x0.length:Int) then (if y253.length + (x0.take (x5:Int).toNat).length < 17592186044416 then ((some (y253 ++ (x0.take (x5:Int).toNat):List Int)).bind fun y257=>((some (([x1]:List Int):List Int)).bind fun y260=>(if y257.length + y260.length < 17592186044416 then ((some (y257 ++ y260:List Int)).bind fun y263=>(if y263.length + (x0.drop (x5:Int).toNat).length < 17592186044416 then (some (y263 ++ (x0.drop (x5:Int).toNat))) else (none))) else (none)))) else (none)) else (none))))) else (none)) else ((some (([]:List Int):List Int)).bind fun y270=>(if 0≤x5 then (if x5≤(x0.length:Int) then (if y270.length + (x0.take (x5:Int).toNat).length < 17592186044416 then ((some (y270 ++ (x0.take (x5:Int).toNat):List Int)).bind fun y274=>((some (([x1]:List Int):List Int)).bind fun y277=>(if y274.length + y277.length < 17592186044416 then ((some (y274 ++ y277:List Int)).bind fun y280=>(if y280.length + (x0.drop (x5:Int).toNat).length < 17592186044416 then (some (y280 ++ (x0.drop (x5:Int).toNat))) else (none))) else (none)))) else (none)) else (none)) else (none)))
def spec_l6Put.f (k:Nat) (l0:List Int) (a1:Int):Option (List Int):=spec_l6Put.l0 k l0 a1 0
theorem spec_l6Put.mono_l:∀ k,(∀ y0 y1 y2,LeO (spec_l6Put.l0 k y0 y1 y2) (spec_l6Put.l0 (k + 1) y0 y1 y2))
 | 0=>fun _ _ _ r h=>by simp [spec_l6Put.l0] at h
 | k + 1=>by
  have ih0:=spec_l6Put.mono_l k
  ·intro y0 y1 y2;unfold spec_l6Put.l0;exact mz1 ih0
theorem spec_l6Put.mono:∀ a0 a1 k,LeO (spec_l6Put.f k a0 a1) (spec_l6Put.f (k + 1) a0 a1):=by
 intro a0 a1 k;have ih0:=spec_l6Put.mono_l k;unfold spec_l6Put.f;exact mz1 ih0
def spec_l6Put.T6:Bool × List (List Nat × List Nat):=(true,[([],[]),([],[]),([],[]),([1,2],[1,2]),([0,3],[0,3]),([],[]),([5],[5]),([4,6,4],[4,6]),([],[]),([],[]),([8,9],[8,9]),([7,10,7],[7,10]),([11,11,0,1,2,3,4,5,6,7,8,9,10,11],[11])])
def spec_l6Put.B6:List Nat:=[0,0,0,6,15,0,32,127,0,0,768,2047,4095]
theorem spec_l6Put.tab6:rtab .any (opsOf Tryz.f103 6)=spec_l6Put.T6:=by kernel_rfl
theorem spec_l6Put.bits6:waitsOk spec_l6Put.T6.2 spec_l6Put.B6=true:=by kernel_rfl
set_option maxHeartbeats 8000000 in
set_option maxRecDepth 100000 in
theorem spec_l6Put.calls (k:Nat) (A0:Option Addr) (c0:Nat) (l0:List Int) (a1:Int) (r:List Int) (w:World) (hr0:Kd.C (Kd.int .i64) w A0 l0.length l0) (hc0:l0.length≤c0) (h:spec_l6Put.f k l0 a1=some r) :
  Calls Tryz.prog 103 #[.slice A0 l0.length c0,.int .i64 a1] w fun e w'=>∃ v0_:Value,e=.returned (v0_)∧Kd.R (Kd.int .i64) 3 w' w.heap.size (fun _=>True) v0_ r∧Below w.heap.size w w':=by
 have HR0:=am hr0;have HC0:=am hc0;clear hr0 hc0;have HB:=am (Below.refl w.heap.size w);unfold spec_l6Put.f at h;have H:=h;clear h;have H':=am H;clear H;go_enter Tryz.func103,Tryz.ntmps103;go_wp2;go_loopg [5] k (fun kq v5 w'=>∃ (x5_1:Int),v5=.int .i64 x5_1∧Aside0 (spec_l6Put.l0 kq l0 a1 x5_1=some r)∧Aside0 (kq≤k)∧Aside0 (Below w.heap.size w w'))
 case atStart=>exact ⟨(0),rS,H',⟨Nat.le_refl _⟩,⟨bA⟩⟩
 case round =>
  clear H';obtain ⟨x5_1,rfl,HA,HK1,HB⟩:=hrel
  cases gk with
  | zero=>exact absurd HA.out (by simp [spec_l6Put.l0])
  | succ k1 =>
   have H:=HA.out;clear HA;simp only [spec_l6Put.l0] at H;by_cases c3:x5_1 < (l0.length:Int)
   ·rw [if_pos c3] at H;have c3b0:=dt c3;clear c3;have c4b0:=ifC H;replace H:=ifT H;by_cases c5:(rd l0 x5_1) < a1
    ·rw [if_pos c5] at H;have c5b0:=dt c5;clear c5;have H':=am H;clear H;obtain ⟨p245,q245⟩:=pq x5_1 l0;obtain ⟨ad245,e245,hx245_0⟩:=Kd.at_int (Kd.C_below HR0.out HB.out) x5_1 p245 q245;cases e245;obtain ⟨p245,q245⟩:=eT p245 q245;go_wp2;go_roundg k1
     case measure=>have:=HK1.out;omega
     case rel=>exact ⟨(wrap64 (x5_1 + 1)),rS,H',⟨by have:=HK1.out;omega⟩,⟨bA⟩⟩
    rw [if_neg c5] at H;have c5b0:=df c5;clear c5;by_cases c6:(rd l0 x5_1)=a1
    ·rw [if_pos c6] at H;obtain ⟨c6b0,c6b1⟩:=eI c6;clear c6;obtain ⟨y247,hy247⟩:∃ y_:List Int,y_=(([]:List Int)):=⟨_,rfl⟩;replace H:(if y247.length + l0.length < 17592186044416 then (some (y247 ++ l0)) else (none))=some r:=rH H hy247;have Ny247:=am hy247;clear hy247;have c7:y247.length + l0.length < 17592186044416:=ifN H;replace H:=ifT H;have LMc7:=am c7;clear c7;obtain ⟨y250,hy250⟩:∃ y_:List Int,y_=(y247 ++ l0):=⟨_,rfl⟩;replace H:=rF H hy250;have Ny250:=am hy250;clear hy250;obtain rfl:=oj H;obtain ⟨p245,q245⟩:=pq x5_1 l0;obtain ⟨ad245,e245,hx245_0⟩:=Kd.at_int (Kd.C_below HR0.out HB.out) x5_1 p245 q245;cases e245;obtain ⟨p245,q245⟩:=eT p245 q245;obtain ⟨p246,q246⟩:=pq x5_1 l0;obtain ⟨ad246,e246,hx246_0⟩:=Kd.at_int (Kd.C_below HR0.out HB.out) x5_1 p246 q246;obtain rfl:ad245=ad246:=(by injection e246);obtain ⟨p246,q246⟩:=eT p246 q246;go_wp2_with (first|((with_reducible refine gd 32 ?_);refine Kd.R_lit (Kd.int .i64) _ 3 ?hg (N:=32) ?hd (xs:=([]:List Int)) (inner:=[]) (ok:=fun _=>True) (okp:=fun _=>True) ?hr ?hp (fun _ hk=>hk) trivial (Below.refl _ _) (Nat.le_refl _) (by simp) ?_;(case hd=>rfl);(case hg=>rfl);(case hr=>first|(go_simp;done)|(go_simp;rfl));(case hp=>exact (Reps.none _ _));intro v248 w8 ho9 hb hg_ hnew_;clear hg_ hnew_;(first|rw [← Ny247.out] at ho9|(simp only [Int.reduceToNat] at ho9;rw [← Ny247.out] at ho9));have HO249:=rl w ho9;replace HB:=bs HB hb;clear hb ho9)|((with_reducible refine gate_builtin (b:=.append) (xs:=#[.tmp 32,.tmp 33]) rfl ?_);at_builtin;refine Kd.R_append_rows (Kd.int .i64) (w0:=w) w.heap.size rfl (.tmp 32) (.tmp 33) 25 3 (.int .i64 0) 8 rfl Tryz.underlying25 info3 rfl (by decide) (by omega) v248 y247 l0 _ _ _ (fun _=>True) (fun _=>False) rfl rfl ?aO ?aR (fun _ _ h=>h) (fun _ h=>h.elim) ?aF ?aB ?aS ?aL ?_;(case aR=>repeat (first|exact (Kd.C_below HR0.out HB.out)|(with_reducible refine Kd.C_alloc ?_ _)|(with_reducible refine Kd.C_drewN ?_ _)|(with_reducible refine Kd.C_drew ?_)));(case aB=>exact bA);(case aF=>exact (fun _ _=>trivial));(case aO=>exact (rK HO249));(case aS=>exact (below_size bA));(case aL=>have:=LMc7.out;omega);intro v251 w10 ho hb hg hat;rw [← Ny250.out] at ho;have n0_:=am (hb);have n1_:=am (ho);clear HB;clear HO249;have HB:=n0_;have HO252:=n1_;clear n0_ n1_;clear ho hb hg hat));go_ret;exact ⟨_,rA,rK HO252,bA⟩
    rw [if_neg c6] at H;obtain ⟨c6b0,c6b1⟩:=nI c6;obtain ⟨y253,hy253⟩:∃ y_:List Int,y_=(([]:List Int)):=⟨_,rfl⟩;replace H:(if x5_1≤(l0.length:Int) then (if y253.length + (l0.take (x5_1:Int).toNat).length < 17592186044416 then ((some (y253 ++ (l0.take (x5_1:Int).toNat):List Int)).bind fun y257=>((some (([a1]:List Int):List Int)).bind fun y260=>(if y257.length + y260.length < 17592186044416 then ((some (y257 ++ y260:List Int)).bind fun y263=>(if y263.length + (l0.drop (x5_1:Int).toNat).length < 17592186044416 then (some (y263 ++ (l0.drop (x5_1:Int).toNat))) else (none))) else (none)))) else (none)) else (none))=some r:=rH H hy253;have Ny253:=am hy253;clear hy253;have c11b0:=eq_true (dA:0≤x5_1);have c12:x5_1≤(l0.length:Int):=ifN H;replace H:=ifT H;have c12b0:=eq_true c12;have c12b1:=dt c12;clear c12;have c13:y253.length + (l0.take (x5_1:Int).toNat).length < 17592186044416:=ifN H;replace H:=ifT H;have LMc13:=am c13;clear c13;obtain ⟨y257,hy257⟩:∃ y_:List Int,y_=(y253 ++ (l0.take (x5_1:Int).toNat)):=⟨_,rfl⟩;replace H:=rF H hy257;have Ny257:=am hy257;clear hy257;obtain ⟨y260,hy260⟩:∃ y_:List Int,y_=(([a1]:List Int)):=⟨_,rfl⟩;replace H:=rF H hy260;have Ny260:=am hy260;clear hy260;have c14:y257.length + y260.length < 17592186044416:=ifN H;replace H:=ifT H;have LMc14:=am c14;clear c14;obtain ⟨y263,hy263⟩:∃ y_:List Int,y_=(y257 ++ y260):=⟨_,rfl⟩;replace H:=rF H hy263;have Ny263:=am hy263;clear hy263;have c15b0:=eq_true (dA:0≤x5_1);have c16b0:=eq_true (dA:x5_1≤(l0.length:Int));have c17:y263.length + (l0.drop (x5_1:Int).toNat).length < 17592186044416:=ifN H;replace H:=ifT H;have LMc17:=am c17;clear c17;obtain ⟨y267,hy267⟩:∃ y_:List Int,y_=(y263 ++ (l0.drop (x5_1:Int).toNat)):=⟨_,rfl⟩;replace H:=rF H hy267;have Ny267:=am hy267;clear hy267;obtain rfl:=oj H;obtain ⟨p245,q245⟩:=pq x5_1 l0;obtain ⟨ad245,e245,hx245_0⟩:=Kd.at_int (Kd.C_below HR0.out HB.out) x5_1 p245 q245;cases e245;obtain ⟨p245,q245⟩:=eT p245 q245;obtain ⟨p246,q246⟩:=pq x5_1 l0;obtain ⟨ad246,e246,hx246_0⟩:=Kd.at_int (Kd.C_below HR0.out HB.out) x5_1 p246 q246;obtain rfl:ad245=ad246:=(by injection e246);obtain ⟨p246,q246⟩:=eT p246 q246;try go_wp2
    have HBo:=HB;replace HB:=db HB;obtain ⟨i019,hi019,_,hsz19,_⟩:=info_parts info3;obtain ⟨hcut19,hA19,hC19⟩:=print_take_of (P:=Tryz.prog) (Value.int .i64) 0 25 3 .i64 Tryz.underlying25 hi019 hsz19 (some ad245) c0 l0 x5_1 (dA) (dA) HC0.out;have HR256:=am (Kd.C_of_reads (h1:=fun _=>rfl) (hA19 _ (Kd.reads_of_C HR0.out)));have HC256:=am hC19;clear hA19 hC19 hi019 hsz19;have HL256:=am (show (x5_1:Int)≤(l0.length:Int) from (dA));obtain ⟨i020,hi020,_,hsz20,_⟩:=info_parts info3;obtain ⟨A20,hcut20,hA20,hC20⟩:=print_drop_of (P:=Tryz.prog) (Value.int .i64) 0 25 3 .i64 Tryz.underlying25 hi020 hsz20 (some ad245) c0 l0 x5_1 (dA) (dA) HC0.out;have HR266:=am (Kd.C_of_reads (h1:=fun _=>rfl) (hA20 _ (Kd.reads_of_C HR0.out)));have HC266:=am hC20;clear hA20 hC20 hi020 hsz20;refine sw (ds:=[]) 13 (mb 13 0) spec_l6Put.tab6 spec_l6Put.bits6 h0 (fun hHeld HT_ HW_=>?_);generalize wr.drew=w18 at HB HR256 HR266 hHeld ⊢;refine pz [1,2,3,5,8,9,10] ?_;refine join_ (σ:=Value × Value × Value) 3 (mb 13 1919) (fun s_=>[(35,s_.1),(39,s_.2.1),(41,s_.2.2)]) (fun s_ w'=>(Kd.R (Kd.int .i64) 3 w' w.heap.size (n1 s_.2.2) s_.2.1 y257)∧(Kd.R (Kd.int .i64) 3 w' w.heap.size (n1 s_.2.1) s_.2.2 y260)∧(Below w.heap.size w w')) ?_ ?_;rotate_left
    ·intro hCont;refine two_ (i:=0) (j:=6) (Ni:=some 35) (Nj:=some 41) (mb 13 1839) (mb 13 1902) rfl rfl rfl rfl (two_of HT_.out (by kernel_rfl)) (by decide) (by decide) (fun K hK=>?_) (fun K hK=>?_)
     ·skip
      refine Kd.R_lit_step (Kd.int .i64) _ 3 ?hg (N:=35) ?hd (xs:=([]:List Int)) (inner:=[]) (ok:=fun _=>True) (okp:=fun _=>True) ?hr ?hp (fun _ hk=>hk) trivial (Below.refl _ _) (Nat.le_refl _) (by simp) ?_;(case hd=>rfl);(case hg=>rfl);(case hr=>first|(go_simp;done)|(go_simp;rfl));(case hp=>exact (Reps.none _ _));intro v254 w21 ho22 hb hg_ hnew_;clear hg_ hnew_;(first|rw [← Ny253.out] at ho22|(simp only [Int.reduceToNat] at ho22;rw [← Ny253.out] at ho22));have HO255:=rl w ho22;replace HB:=bs HB hb;clear hb ho22;refine hK.out _ _ trivial (fun hHeld=>?_);clear hK K;refine nB ?_;refine two_ (i:=4) (j:=6) (Ni:=some 39) (Nj:=some 41) (mb 13 1855) (mb 13 1903) rfl rfl rfl rfl (two_of HT_.out (by kernel_rfl)) (by decide) (by decide) (fun K hK=>?_) (fun K hK=>?_)
      ·skip
       refine Kd.R_append_rows_step (Kd.int .i64) (w0:=w) w.heap.size (by rfl) (.tmp 35) (.tmp 38) 25 3 (.int .i64 0) 8 rfl Tryz.underlying25 info3 rfl (by decide) (by omega) v254 y253 (l0.take (x5_1:Int).toNat) _ _ _ (fun _=>True) (fun _=>False) rfl rfl ?aO ?aR (fun _ _ h=>h) (fun _ h=>h.elim) ?aF ?aB ?aS ?aL ?_;(case aR=>(have hr_:=HR256.out;rw [show (l0.take (x5_1:Int).toNat).length=x5_1.toNat from (by rw [List.length_take];have h_:(x5_1:Int)≤(l0.length:Int):=dA;omega)] at hr_;(repeat (first|exact (Kd.C_below hr_ HB.out)|(with_reducible refine Kd.C_alloc ?_ _)|(with_reducible refine Kd.C_drewN ?_ _)|(with_reducible refine Kd.C_drew ?_)));done));(case aB=>exact bA);(case aF=>exact (fun _ _=>trivial));(case aO=>exact (rK HO255));(case aS=>exact (below_size bA));(case aL=>have:=LMc13.out;have hlx_:=(show (l0.take (x5_1:Int).toNat).length=x5_1.toNat from (by rw [List.length_take];have h_:(x5_1:Int)≤(l0.length:Int):=dA;omega));omega);intro v258 w23 ho hb hg hat;rw [← Ny257.out] at ho;have n0_:=am (hb);have n1_:=am (ho);clear HB;clear HO255;have HB:=n0_;have HO259:=n1_;clear n0_ n1_;clear ho hb hg hat;refine hK.out _ _ trivial (fun hHeld=>?_);clear hK K;refine nB ?_;refine oa 6 41 (mb 13 1919) HT_ (fun K hK=>?_);refine Kd.R_lit_step (Kd.int .i64) _ 3 ?hg (N:=41) ?hd (xs:=([a1]:List Int)) (inner:=[.int .i64 a1]) (ok:=fun _=>True) (okp:=fun _=>True) ?hr ?hp (fun _ hk=>hk) trivial (Below.refl _ _) (Nat.le_refl _) (by simp) ?_;(case hd=>rfl);(case hg=>rfl);(case hr=>first|(go_simp;done)|(go_simp;rfl));(case hp=>exact (Reps.one (show Kd.M (Kd.int .i64) _ _ _ a1 [.int .i64 a1] from rfl) (Reps.none _ _)));intro v261 w24 ho25 hb hg_ hnew_;clear hg_ hnew_;(first|rw [← Ny260.out] at ho25|(simp only [Int.reduceToNat] at ho25;rw [← Ny260.out] at ho25));have HO262:=rl w (rn ho25 HO259);replace HO259:=re HO259 ho25 hb;replace HB:=bs HB hb;clear hb ho25;refine hK.out _ _ trivial (fun hHeld=>?_);clear hK K;refine nB ?_;exact mB (hCont (v254,v258,v261) _ ⟨(rm HO259 (fun _ hk=>hk.2)),(rm HO262 (fun _ hk=>hk.2)),bA⟩)
      ·skip
       refine Kd.R_lit_step (Kd.int .i64) _ 3 ?hg (N:=41) ?hd (xs:=([a1]:List Int)) (inner:=[.int .i64 a1]) (ok:=fun _=>True) (okp:=fun _=>True) ?hr ?hp (fun _ hk=>hk) trivial (Below.refl _ _) (Nat.le_refl _) (by simp) ?_;(case hd=>rfl);(case hg=>rfl);(case hr=>first|(go_simp;done)|(go_simp;rfl));(case hp=>exact (Reps.one (show Kd.M (Kd.int .i64) _ _ _ a1 [.int .i64 a1] from rfl) (Reps.none _ _)));intro v261 w23 ho24 hb hg_ hnew_;clear hg_ hnew_;(first|rw [← Ny260.out] at ho24|(simp only [Int.reduceToNat] at ho24;rw [← Ny260.out] at ho24));have HO262:=rl w (rn ho24 HO255);replace HO255:=re HO255 ho24 hb;replace HB:=bs HB hb;clear hb ho24;refine hK.out _ _ trivial (fun hHeld=>?_);clear hK K;refine nB ?_;refine oa 4 39 (mb 13 1919) HT_ (fun K hK=>?_);refine Kd.R_append_rows_step (Kd.int .i64) (w0:=w) w.heap.size (by rfl) (.tmp 35) (.tmp 38) 25 3 (.int .i64 0) 8 rfl Tryz.underlying25 info3 rfl (by decide) (by omega) v254 y253 (l0.take (x5_1:Int).toNat) _ _ _ (n1 v261) (fun _=>False) rfl rfl ?aO ?aR (fun _ _ h=>h) (fun _ h=>h.elim) ?aF ?aB ?aS ?aL ?_;(case aR=>(have hr_:=HR256.out;rw [show (l0.take (x5_1:Int).toNat).length=x5_1.toNat from (by rw [List.length_take];have h_:(x5_1:Int)≤(l0.length:Int):=dA;omega)] at hr_;(repeat (first|exact (Kd.C_below hr_ HB.out)|(with_reducible refine Kd.C_alloc ?_ _)|(with_reducible refine Kd.C_drewN ?_ _)|(with_reducible refine Kd.C_drew ?_)));done));(case aB=>exact bA);(case aF=>exact (fun k_ hk=>Kd.fresh' (Kd.R_lt (rK HO262)) k_ hk));(case aO=>exact (rm HO255 (fun _ hk=>hk.2)));(case aS=>exact (below_size bA));(case aL=>have:=LMc13.out;have hlx_:=(show (l0.take (x5_1:Int).toNat).length=x5_1.toNat from (by rw [List.length_take];have h_:(x5_1:Int)≤(l0.length:Int):=dA;omega));omega);intro v258 w25 ho hb hg hat;rw [← Ny257.out] at ho;have n0_:=am (Kd.R_after (ok:=(fun _=>True)) (rK HO262) hg hat);have n1_:=am (hb);have n2_:=am (ho);clear HO262;clear HB;clear HO255;have HO262:=n0_;have HB:=n1_;have HO259:=n2_;clear n0_ n1_ n2_;clear ho hb hg hat;refine hK.out _ _ trivial (fun hHeld=>?_);clear hK K;refine nB ?_;exact mB (hCont (v254,v258,v261) _ ⟨(rK HO259),(rm HO262 (fun _ hk=>hk.2)),bA⟩)
     ·skip
      refine Kd.R_lit_step (Kd.int .i64) _ 3 ?hg (N:=41) ?hd (xs:=([a1]:List Int)) (inner:=[.int .i64 a1]) (ok:=fun _=>True) (okp:=fun _=>True) ?hr ?hp (fun _ hk=>hk) trivial (Below.refl _ _) (Nat.le_refl _) (by simp) ?_;(case hd=>rfl);(case hg=>rfl);(case hr=>first|(go_simp;done)|(go_simp;rfl));(case hp=>exact (Reps.one (show Kd.M (Kd.int .i64) _ _ _ a1 [.int .i64 a1] from rfl) (Reps.none _ _)));intro v261 w21 ho22 hb hg_ hnew_;clear hg_ hnew_;(first|rw [← Ny260.out] at ho22|(simp only [Int.reduceToNat] at ho22;rw [← Ny260.out] at ho22));have HO262:=rl w ho22;replace HB:=bs HB hb;clear hb ho22;refine hK.out _ _ trivial (fun hHeld=>?_);clear hK K;refine nB ?_;refine oa 0 35 (mb 13 1903) HT_ (fun K hK=>?_);refine Kd.R_lit_step (Kd.int .i64) _ 3 ?hg (N:=35) ?hd (xs:=([]:List Int)) (inner:=[]) (ok:=fun _=>True) (okp:=fun _=>True) ?hr ?hp (fun _ hk=>hk) trivial (Below.refl _ _) (Nat.le_refl _) (by simp) ?_;(case hd=>rfl);(case hg=>rfl);(case hr=>first|(go_simp;done)|(go_simp;rfl));(case hp=>exact (Reps.none _ _));intro v254 w23 ho24 hb hg_ hnew_;clear hg_ hnew_;(first|rw [← Ny253.out] at ho24|(simp only [Int.reduceToNat] at ho24;rw [← Ny253.out] at ho24));have HO255:=rl w (rn ho24 HO262);replace HO262:=re HO262 ho24 hb;replace HB:=bs HB hb;clear hb ho24;refine hK.out _ _ trivial (fun hHeld=>?_);clear hK K;refine nB ?_;refine oa 4 39 (mb 13 1919) HT_ (fun K hK=>?_);refine Kd.R_append_rows_step (Kd.int .i64) (w0:=w) w.heap.size (by rfl) (.tmp 35) (.tmp 38) 25 3 (.int .i64 0) 8 rfl Tryz.underlying25 info3 rfl (by decide) (by omega) v254 y253 (l0.take (x5_1:Int).toNat) _ _ _ (n1 v261) (fun _=>False) rfl rfl ?aO ?aR (fun _ _ h=>h) (fun _ h=>h.elim) ?aF ?aB ?aS ?aL ?_;(case aR=>(have hr_:=HR256.out;rw [show (l0.take (x5_1:Int).toNat).length=x5_1.toNat from (by rw [List.length_take];have h_:(x5_1:Int)≤(l0.length:Int):=dA;omega)] at hr_;(repeat (first|exact (Kd.C_below hr_ HB.out)|(with_reducible refine Kd.C_alloc ?_ _)|(with_reducible refine Kd.C_drewN ?_ _)|(with_reducible refine Kd.C_drew ?_)));done));(case aB=>exact bA);(case aF=>exact (fun k_ hk=>Kd.fresh' (Kd.R_lt (rK HO262)) k_ hk));(case aO=>exact (rm HO255 (fun _ hk=>hk.2)));(case aS=>exact (below_size bA));(case aL=>have:=LMc13.out;have hlx_:=(show (l0.take (x5_1:Int).toNat).length=x5_1.toNat from (by rw [List.length_take];have h_:(x5_1:Int)≤(l0.length:Int):=dA;omega));omega);intro v258 w25 ho hb hg hat;rw [← Ny257.out] at ho;have n0_:=am (Kd.R_after (ok:=(fun _=>True)) (rK HO262) hg hat);have n1_:=am (hb);have n2_:=am (ho);clear HO262;clear HB;clear HO255;have HO262:=n0_;have HB:=n1_;have HO259:=n2_;clear n0_ n1_ n2_;clear ho hb hg hat;refine hK.out _ _ trivial (fun hHeld=>?_);clear hK K;refine nB ?_;exact mB (hCont (v254,v258,v261) _ ⟨(rK HO259),(rm HO262 (fun _ hk=>hk.2)),bA⟩)
    rintro ⟨v254,v258,v261⟩ w26 ⟨h0_,h1_,h2_⟩;have n0_:Aside0 (Kd.R (Kd.int .i64) 3 w26 w.heap.size (n1 v261) v258 y257):=⟨h0_⟩;have n1_:Aside0 (Kd.R (Kd.int .i64) 3 w26 w.heap.size (n1 v258) v261 y260):=⟨h1_⟩;have n2_:Aside0 (Below w.heap.size w w26):=⟨h2_⟩;clear HB;clear h0_ h1_ h2_;have HO259:=n0_;have HO262:=n1_;have HB:=n2_;clear n0_ n1_ n2_;have hHeld:=trivial;obtain ⟨Ao28,co28,eo28⟩:=Kd.R_slice HO262.out;(first|subst eo28|(injection eo28 with f1_ f2_ f3_;have f4_:=f1_.symm;have f5_:=f3_.symm;clear f1_ f2_ f3_;subst f4_;subst f5_));refine norm_ (a':=?_) ?_ ?_;rotate_left
    ·simp only [putAll,Act.put,List.setIfInBounds_toArray,List.set_cons_zero,List.set_cons_succ]
     rfl
    refine oa 7 42 (mb 13 2047) HT_ (fun K hK=>?_);refine Kd.R_append_rows_step (Kd.int .i64) (w0:=w) w.heap.size (by rfl) (.tmp 39) (.tmp 41) 25 3 (.int .i64 0) 8 rfl Tryz.underlying25 info3 rfl (by decide) (by omega) v258 y257 y260 _ _ _ (n1 (.slice Ao28 y260.length co28)) (fun _=>False) rfl rfl ?aO ?aR (fun _ _ h=>h) (fun _ h=>h.elim) ?aF ?aB ?aS ?aL ?_;(case aR=>repeat (first|exact (Kd.R_reads' HO262.out).2.2|(with_reducible refine Kd.C_alloc ?_ _)|(with_reducible refine Kd.C_drewN ?_ _)|(with_reducible refine Kd.C_drew ?_)));(case aB=>exact bA);(case aF=>exact (fun k_ hk=>Kd.fresh' (Kd.R_lt (rK HO262)) k_ hk));(case aO=>exact (rK HO259));(case aS=>exact (below_size bA));(case aL=>have:=LMc14.out;omega);intro v264 w27 ho hb hg hat;rw [← Ny263.out] at ho;have n0_:=am (Kd.R_after (ok:=(fun _=>True)) (rm HO262 (fun _ hk=>⟨trivial,hk⟩)) hg hat);have n1_:=am (hb);have n2_:=am (ho);clear HO262;clear HB;clear HO259;have HO262:=n0_;have HB:=n1_;have HO265:=n2_;clear n0_ n1_ n2_;clear ho hb hg hat;refine hK.out _ _ trivial (fun hHeld=>?_);clear hK K;refine nB ?_;refine oa 11 46 (mb 13 4095) HT_ (fun K hK=>?_);refine Kd.R_append_rows_step (Kd.int .i64) (w0:=w) w.heap.size (by rfl) (.tmp 42) (.tmp 45) 25 3 (.int .i64 0) 8 rfl Tryz.underlying25 info3 rfl (by decide) (by omega) v264 y263 (l0.drop (x5_1:Int).toNat) _ _ _ (n1 (.slice Ao28 y260.length co28)) (fun _=>False) rfl rfl ?aO ?aR (fun _ _ h=>h) (fun _ h=>h.elim) ?aF ?aB ?aS ?aL ?_;(case aR=>(have hr_:=HR266.out;rw [show (l0.drop (x5_1:Int).toNat).length=(l0.length - x5_1.toNat) from List.length_drop] at hr_;(repeat (first|exact (Kd.C_below hr_ HB.out)|(with_reducible refine Kd.C_alloc ?_ _)|(with_reducible refine Kd.C_drewN ?_ _)|(with_reducible refine Kd.C_drew ?_)));done));(case aB=>exact bA);(case aF=>exact (fun k_ hk=>Kd.fresh' (Kd.R_lt (rK HO262)) k_ hk));(case aO=>exact (rK HO265));(case aS=>exact (below_size bA));(case aL=>have:=LMc17.out;have hlx_:=(show (l0.drop (x5_1:Int).toNat).length=(l0.length - x5_1.toNat) from List.length_drop);omega);intro v268 w29 ho hb hg hat;rw [← Ny267.out] at ho;have n0_:=am (Kd.R_after (ok:=(fun _=>True)) (rK HO262) hg hat);have n1_:=am (hb);have n2_:=am (ho);clear HO262;clear HB;clear HO265;have HO262:=n0_;have HB:=n1_;have HO269:=n2_;clear n0_ n1_ n2_;clear ho hb hg hat;refine hK.out _ _ trivial (fun hHeld=>?_);clear hK K;refine nB ?_;refine pz [12] ?_;refine eA HT_ ?_;try go_wp2
    go_ret;exact ⟨_,rA,rm HO269 (fun _ hk=>trivial),bA⟩
   rw [if_neg c3] at H;have c3b0:=df c3;clear c3;obtain ⟨y270,hy270⟩:∃ y_:List Int,y_=(([]:List Int)):=⟨_,rfl⟩;replace H:(if 0≤x5_1 then (if x5_1≤(l0.length:Int) then (if y270.length + (l0.take (x5_1:Int).toNat).length < 17592186044416 then ((some (y270 ++ (l0.take (x5_1:Int).toNat):List Int)).bind fun y274=>((some (([a1]:List Int):List Int)).bind fun y277=>(if y274.length + y277.length < 17592186044416 then ((some (y274 ++ y277:List Int)).bind fun y280=>(if y280.length + (l0.drop (x5_1:Int).toNat).length < 17592186044416 then (some (y280 ++ (l0.drop (x5_1:Int).toNat))) else (none))) else (none)))) else (none)) else (none)) else (none))=some r:=rH H hy270;have Ny270:=am hy270;clear hy270;have c30:0≤x5_1:=ifN H;replace H:=ifT H;have c30b0:=eq_true c30;have c30b1:=dt c30;clear c30;have c31:x5_1≤(l0.length:Int):=ifN H;replace H:=ifT H;have c31b0:=eq_true c31;have c31b1:=dt c31;clear c31;have c32:y270.length + (l0.take (x5_1:Int).toNat).length < 17592186044416:=ifN H;replace H:=ifT H;have LMc32:=am c32;clear c32;obtain ⟨y274,hy274⟩:∃ y_:List Int,y_=(y270 ++ (l0.take (x5_1:Int).toNat)):=⟨_,rfl⟩;replace H:=rF H hy274;have Ny274:=am hy274;clear hy274;obtain ⟨y277,hy277⟩:∃ y_:List Int,y_=(([a1]:List Int)):=⟨_,rfl⟩;replace H:=rF H hy277;have Ny277:=am hy277;clear hy277;have c33:y274.length + y277.length < 17592186044416:=ifN H;replace H:=ifT H;have LMc33:=am c33;clear c33;obtain ⟨y280,hy280⟩:∃ y_:List Int,y_=(y274 ++ y277):=⟨_,rfl⟩;replace H:=rF H hy280;have Ny280:=am hy280;clear hy280;have c34b0:=eq_true (dA:0≤x5_1);have c35b0:=eq_true (dA:x5_1≤(l0.length:Int));have c36:y280.length + (l0.drop (x5_1:Int).toNat).length < 17592186044416:=ifN H;replace H:=ifT H;have LMc36:=am c36;clear c36;obtain ⟨y284,hy284⟩:∃ y_:List Int,y_=(y280 ++ (l0.drop (x5_1:Int).toNat)):=⟨_,rfl⟩;replace H:=rF H hy284;have Ny284:=am hy284;clear hy284;obtain rfl:=oj H;try go_wp2
   have HBo:=HB;replace HB:=db HB;obtain ⟨i038,hi038,_,hsz38,_⟩:=info_parts info3;obtain ⟨hcut38,hA38,hC38⟩:=print_take_of (P:=Tryz.prog) (Value.int .i64) 0 25 3 .i64 Tryz.underlying25 hi038 hsz38 A0 c0 l0 x5_1 (dA) (dA) HC0.out;have HR273:=am (Kd.C_of_reads (h1:=fun _=>rfl) (hA38 _ (Kd.reads_of_C HR0.out)));have HC273:=am hC38;clear hA38 hC38 hi038 hsz38;have HL273:=am (show (x5_1:Int)≤(l0.length:Int) from (dA));obtain ⟨i039,hi039,_,hsz39,_⟩:=info_parts info3;obtain ⟨A39,hcut39,hA39,hC39⟩:=print_drop_of (P:=Tryz.prog) (Value.int .i64) 0 25 3 .i64 Tryz.underlying25 hi039 hsz39 A0 c0 l0 x5_1 (dA) (dA) HC0.out;have HR283:=am (Kd.C_of_reads (h1:=fun _=>rfl) (hA39 _ (Kd.reads_of_C HR0.out)));have HC283:=am hC39;clear hA39 hC39 hi039 hsz39;refine sw (ds:=[]) 13 (mb 13 0) spec_l6Put.tab6 spec_l6Put.bits6 h0 (fun hHeld HT_ HW_=>?_);generalize wr.drew=w37 at HB HR273 HR283 hHeld ⊢;refine pz [1,2,3,5,8,9,10] ?_;refine join_ (σ:=Value × Value × Value) 3 (mb 13 1919) (fun s_=>[(35,s_.1),(39,s_.2.1),(41,s_.2.2)]) (fun s_ w'=>(Kd.R (Kd.int .i64) 3 w' w.heap.size (n1 s_.2.2) s_.2.1 y274)∧(Kd.R (Kd.int .i64) 3 w' w.heap.size (n1 s_.2.1) s_.2.2 y277)∧(Below w.heap.size w w')) ?_ ?_;rotate_left
   ·intro hCont;refine two_ (i:=0) (j:=6) (Ni:=some 35) (Nj:=some 41) (mb 13 1839) (mb 13 1902) rfl rfl rfl rfl (two_of HT_.out (by kernel_rfl)) (by decide) (by decide) (fun K hK=>?_) (fun K hK=>?_)
    ·skip
     refine Kd.R_lit_step (Kd.int .i64) _ 3 ?hg (N:=35) ?hd (xs:=([]:List Int)) (inner:=[]) (ok:=fun _=>True) (okp:=fun _=>True) ?hr ?hp (fun _ hk=>hk) trivial (Below.refl _ _) (Nat.le_refl _) (by simp) ?_;(case hd=>rfl);(case hg=>rfl);(case hr=>first|(go_simp;done)|(go_simp;rfl));(case hp=>exact (Reps.none _ _));intro v271 w40 ho41 hb hg_ hnew_;clear hg_ hnew_;(first|rw [← Ny270.out] at ho41|(simp only [Int.reduceToNat] at ho41;rw [← Ny270.out] at ho41));have HO272:=rl w ho41;replace HB:=bs HB hb;clear hb ho41;refine hK.out _ _ trivial (fun hHeld=>?_);clear hK K;refine nB ?_;refine two_ (i:=4) (j:=6) (Ni:=some 39) (Nj:=some 41) (mb 13 1855) (mb 13 1903) rfl rfl rfl rfl (two_of HT_.out (by kernel_rfl)) (by decide) (by decide) (fun K hK=>?_) (fun K hK=>?_)
     ·skip
      refine Kd.R_append_rows_step (Kd.int .i64) (w0:=w) w.heap.size (by rfl) (.tmp 35) (.tmp 38) 25 3 (.int .i64 0) 8 rfl Tryz.underlying25 info3 rfl (by decide) (by omega) v271 y270 (l0.take (x5_1:Int).toNat) _ _ _ (fun _=>True) (fun _=>False) rfl rfl ?aO ?aR (fun _ _ h=>h) (fun _ h=>h.elim) ?aF ?aB ?aS ?aL ?_;(case aR=>(have hr_:=HR273.out;rw [show (l0.take (x5_1:Int).toNat).length=x5_1.toNat from (by rw [List.length_take];have h_:(x5_1:Int)≤(l0.length:Int):=dA;omega)] at hr_;(repeat (first|exact (Kd.C_below hr_ HB.out)|(with_reducible refine Kd.C_alloc ?_ _)|(with_reducible refine Kd.C_drewN ?_ _)|(with_reducible refine Kd.C_drew ?_)));done));(case aB=>exact bA);(case aF=>exact (fun _ _=>trivial));(case aO=>exact (rK HO272));(case aS=>exact (below_size bA));(case aL=>have:=LMc32.out;have hlx_:=(show (l0.take (x5_1:Int).toNat).length=x5_1.toNat from (by rw [List.length_take];have h_:(x5_1:Int)≤(l0.length:Int):=dA;omega));omega);intro v275 w42 ho hb hg hat;rw [← Ny274.out] at ho;have n0_:=am (hb);have n1_:=am (ho);clear HB;clear HO272;have HB:=n0_;have HO276:=n1_;clear n0_ n1_;clear ho hb hg hat;refine hK.out _ _ trivial (fun hHeld=>?_);clear hK K;refine nB ?_;refine oa 6 41 (mb 13 1919) HT_ (fun K hK=>?_);refine Kd.R_lit_step (Kd.int .i64) _ 3 ?hg (N:=41) ?hd (xs:=([a1]:List Int)) (inner:=[.int .i64 a1]) (ok:=fun _=>True) (okp:=fun _=>True) ?hr ?hp (fun _ hk=>hk) trivial (Below.refl _ _) (Nat.le_refl _) (by simp) ?_;(case hd=>rfl);(case hg=>rfl);(case hr=>first|(go_simp;done)|(go_simp;rfl));(case hp=>exact (Reps.one (show Kd.M (Kd.int .i64) _ _ _ a1 [.int .i64 a1] from rfl) (Reps.none _ _)));intro v278 w43 ho44 hb hg_ hnew_;clear hg_ hnew_;(first|rw [← Ny277.out] at ho44|(simp only [Int.reduceToNat] at ho44;rw [← Ny277.out] at ho44));have HO279:=rl w (rn ho44 HO276);replace HO276:=re HO276 ho44 hb;replace HB:=bs HB hb;clear hb ho44;refine hK.out _ _ trivial (fun hHeld=>?_);clear hK K;refine nB ?_;exact mB (hCont (v271,v275,v278) _ ⟨(rm HO276 (fun _ hk=>hk.2)),(rm HO279 (fun _ hk=>hk.2)),bA⟩)
     ·skip
      refine Kd.R_lit_step (Kd.int .i64) _ 3 ?hg (N:=41) ?hd (xs:=([a1]:List Int)) (inner:=[.int .i64 a1]) (ok:=fun _=>True) (okp:=fun _=>True) ?hr ?hp (fun _ hk=>hk) trivial (Below.refl _ _) (Nat.le_refl _) (by simp) ?_;(case hd=>rfl);(case hg=>rfl);(case hr=>first|(go_simp;done)|(go_simp;rfl));(case hp=>exact (Reps.one (show Kd.M (Kd.int .i64) _ _ _ a1 [.int .i64 a1] from rfl) (Reps.none _ _)));intro v278 w42 ho43 hb hg_ hnew_;clear hg_ hnew_;(first|rw [← Ny277.out] at ho43|(simp only [Int.reduceToNat] at ho43;rw [← Ny277.out] at ho43));have HO279:=rl w (rn ho43 HO272);replace HO272:=re HO272 ho43 hb;replace HB:=bs HB hb;clear hb ho43;refine hK.out _ _ trivial (fun hHeld=>?_);clear hK K;refine nB ?_;refine oa 4 39 (mb 13 1919) HT_ (fun K hK=>?_);refine Kd.R_append_rows_step (Kd.int .i64) (w0:=w) w.heap.size (by rfl) (.tmp 35) (.tmp 38) 25 3 (.int .i64 0) 8 rfl Tryz.underlying25 info3 rfl (by decide) (by omega) v271 y270 (l0.take (x5_1:Int).toNat) _ _ _ (n1 v278) (fun _=>False) rfl rfl ?aO ?aR (fun _ _ h=>h) (fun _ h=>h.elim) ?aF ?aB ?aS ?aL ?_;(case aR=>(have hr_:=HR273.out;rw [show (l0.take (x5_1:Int).toNat).length=x5_1.toNat from (by rw [List.length_take];have h_:(x5_1:Int)≤(l0.length:Int):=dA;omega)] at hr_;(repeat (first|exact (Kd.C_below hr_ HB.out)|(with_reducible refine Kd.C_alloc ?_ _)|(with_reducible refine Kd.C_drewN ?_ _)|(with_reducible refine Kd.C_drew ?_)));done));(case aB=>exact bA);(case aF=>exact (fun k_ hk=>Kd.fresh' (Kd.R_lt (rK HO279)) k_ hk));(case aO=>exact (rm HO272 (fun _ hk=>hk.2)));(case aS=>exact (below_size bA));(case aL=>have:=LMc32.out;have hlx_:=(show (l0.take (x5_1:Int).toNat).length=x5_1.toNat from (by rw [List.length_take];have h_:(x5_1:Int)≤(l0.length:Int):=dA;omega));omega);intro v275 w44 ho hb hg hat;rw [← Ny274.out] at ho;have n0_:=am (Kd.R_after (ok:=(fun _=>True)) (rK HO279) hg hat);have n1_:=am (hb);have n2_:=am (ho);clear HO279;clear HB;clear HO272;have HO279:=n0_;have HB:=n1_;have HO276:=n2_;clear n0_ n1_ n2_;clear ho hb hg hat;refine hK.out _ _ trivial (fun hHeld=>?_);clear hK K;refine nB ?_;exact mB (hCont (v271,v275,v278) _ ⟨(rK HO276),(rm HO279 (fun _ hk=>hk.2)),bA⟩)
    ·skip
     refine Kd.R_lit_step (Kd.int .i64) _ 3 ?hg (N:=41) ?hd (xs:=([a1]:List Int)) (inner:=[.int .i64 a1]) (ok:=fun _=>True) (okp:=fun _=>True) ?hr ?hp (fun _ hk=>hk) trivial (Below.refl _ _) (Nat.le_refl _) (by simp) ?_;(case hd=>rfl);(case hg=>rfl);(case hr=>first|(go_simp;done)|(go_simp;rfl));(case hp=>exact (Reps.one (show Kd.M (Kd.int .i64) _ _ _ a1 [.int .i64 a1] from rfl) (Reps.none _ _)));intro v278 w40 ho41 hb hg_ hnew_;clear hg_ hnew_;(first|rw [← Ny277.out] at ho41|(simp only [Int.reduceToNat] at ho41;rw [← Ny277.out] at ho41));have HO279:=rl w ho41;replace HB:=bs HB hb;clear hb ho41;refine hK.out _ _ trivial (fun hHeld=>?_);clear hK K;refine nB ?_;refine oa 0 35 (mb 13 1903) HT_ (fun K hK=>?_);refine Kd.R_lit_step (Kd.int .i64) _ 3 ?hg (N:=35) ?hd (xs:=([]:List Int)) (inner:=[]) (ok:=fun _=>True) (okp:=fun _=>True) ?hr ?hp (fun _ hk=>hk) trivial (Below.refl _ _) (Nat.le_refl _) (by simp) ?_;(case hd=>rfl);(case hg=>rfl);(case hr=>first|(go_simp;done)|(go_simp;rfl));(case hp=>exact (Reps.none _ _));intro v271 w42 ho43 hb hg_ hnew_;clear hg_ hnew_;(first|rw [← Ny270.out] at ho43|(simp only [Int.reduceToNat] at ho43;rw [← Ny270.out] at ho43));have HO272:=rl w (rn ho43 HO279);replace HO279:=re HO279 ho43 hb;replace HB:=bs HB hb;clear hb ho43;refine hK.out _ _ trivial (fun hHeld=>?_);clear hK K;refine nB ?_;refine oa 4 39 (mb 13 1919) HT_ (fun K hK=>?_);refine Kd.R_append_rows_step (Kd.int .i64) (w0:=w) w.heap.size (by rfl) (.tmp 35) (.tmp 38) 25 3 (.int .i64 0) 8 rfl Tryz.underlying25 info3 rfl (by decide) (by omega) v271 y270 (l0.take (x5_1:Int).toNat) _ _ _ (n1 v278) (fun _=>False) rfl rfl ?aO ?aR (fun _ _ h=>h) (fun _ h=>h.elim) ?aF ?aB ?aS ?aL ?_;(case aR=>(have hr_:=HR273.out;rw [show (l0.take (x5_1:Int).toNat).length=x5_1.toNat from (by rw [List.length_take];have h_:(x5_1:Int)≤(l0.length:Int):=dA;omega)] at hr_;(repeat (first|exact (Kd.C_below hr_ HB.out)|(with_reducible refine Kd.C_alloc ?_ _)|(with_reducible refine Kd.C_drewN ?_ _)|(with_reducible refine Kd.C_drew ?_)));done));(case aB=>exact bA);(case aF=>exact (fun k_ hk=>Kd.fresh' (Kd.R_lt (rK HO279)) k_ hk));(case aO=>exact (rm HO272 (fun _ hk=>hk.2)));(case aS=>exact (below_size bA));(case aL=>have:=LMc32.out;have hlx_:=(show (l0.take (x5_1:Int).toNat).length=x5_1.toNat from (by rw [List.length_take];have h_:(x5_1:Int)≤(l0.length:Int):=dA;omega));omega);intro v275 w44 ho hb hg hat;rw [← Ny274.out] at ho;have n0_:=am (Kd.R_after (ok:=(fun _=>True)) (rK HO279) hg hat);have n1_:=am (hb);have n2_:=am (ho);clear HO279;clear HB;clear HO272;have HO279:=n0_;have HB:=n1_;have HO276:=n2_;clear n0_ n1_ n2_;clear ho hb hg hat;refine hK.out _ _ trivial (fun hHeld=>?_);clear hK K;refine nB ?_;exact mB (hCont (v271,v275,v278) _ ⟨(rK HO276),(rm HO279 (fun _ hk=>hk.2)),bA⟩)
   rintro ⟨v271,v275,v278⟩ w45 ⟨h0_,h1_,h2_⟩;have n0_:Aside0 (Kd.R (Kd.int .i64) 3 w45 w.heap.size (n1 v278) v275 y274):=⟨h0_⟩;have n1_:Aside0 (Kd.R (Kd.int .i64) 3 w45 w.heap.size (n1 v275) v278 y277):=⟨h1_⟩;have n2_:Aside0 (Below w.heap.size w w45):=⟨h2_⟩;clear HB;clear h0_ h1_ h2_;have HO276:=n0_;have HO279:=n1_;have HB:=n2_;clear n0_ n1_ n2_;have hHeld:=trivial;obtain ⟨Ao47,co47,eo47⟩:=Kd.R_slice HO279.out;(first|subst eo47|(injection eo47 with f1_ f2_ f3_;have f4_:=f1_.symm;have f5_:=f3_.symm;clear f1_ f2_ f3_;subst f4_;subst f5_));refine norm_ (a':=?_) ?_ ?_;rotate_left
   ·simp only [putAll,Act.put,List.setIfInBounds_toArray,List.set_cons_zero,List.set_cons_succ]
    rfl
   refine oa 7 42 (mb 13 2047) HT_ (fun K hK=>?_);refine Kd.R_append_rows_step (Kd.int .i64) (w0:=w) w.heap.size (by rfl) (.tmp 39) (.tmp 41) 25 3 (.int .i64 0) 8 rfl Tryz.underlying25 info3 rfl (by decide) (by omega) v275 y274 y277 _ _ _ (n1 (.slice Ao47 y277.length co47)) (fun _=>False) rfl rfl ?aO ?aR (fun _ _ h=>h) (fun _ h=>h.elim) ?aF ?aB ?aS ?aL ?_;(case aR=>repeat (first|exact (Kd.R_reads' HO279.out).2.2|(with_reducible refine Kd.C_alloc ?_ _)|(with_reducible refine Kd.C_drewN ?_ _)|(with_reducible refine Kd.C_drew ?_)));(case aB=>exact bA);(case aF=>exact (fun k_ hk=>Kd.fresh' (Kd.R_lt (rK HO279)) k_ hk));(case aO=>exact (rK HO276));(case aS=>exact (below_size bA));(case aL=>have:=LMc33.out;omega);intro v281 w46 ho hb hg hat;rw [← Ny280.out] at ho;have n0_:=am (Kd.R_after (ok:=(fun _=>True)) (rm HO279 (fun _ hk=>⟨trivial,hk⟩)) hg hat);have n1_:=am (hb);have n2_:=am (ho);clear HO279;clear HB;clear HO276;have HO279:=n0_;have HB:=n1_;have HO282:=n2_;clear n0_ n1_ n2_;clear ho hb hg hat;refine hK.out _ _ trivial (fun hHeld=>?_);clear hK K;refine nB ?_;refine oa 11 46 (mb 13 4095) HT_ (fun K hK=>?_);refine Kd.R_append_rows_step (Kd.int .i64) (w0:=w) w.heap.size (by rfl) (.tmp 42) (.tmp 45) 25 3 (.int .i64 0) 8 rfl Tryz.underlying25 info3 rfl (by decide) (by omega) v281 y280 (l0.drop (x5_1:Int).toNat) _ _ _ (n1 (.slice Ao47 y277.length co47)) (fun _=>False) rfl rfl ?aO ?aR (fun _ _ h=>h) (fun _ h=>h.elim) ?aF ?aB ?aS ?aL ?_;(case aR=>(have hr_:=HR283.out;rw [show (l0.drop (x5_1:Int).toNat).length=(l0.length - x5_1.toNat) from List.length_drop] at hr_;(repeat (first|exact (Kd.C_below hr_ HB.out)|(with_reducible refine Kd.C_alloc ?_ _)|(with_reducible refine Kd.C_drewN ?_ _)|(with_reducible refine Kd.C_drew ?_)));done));(case aB=>exact bA);(case aF=>exact (fun k_ hk=>Kd.fresh' (Kd.R_lt (rK HO279)) k_ hk));(case aO=>exact (rK HO282));(case aS=>exact (below_size bA));(case aL=>have:=LMc36.out;have hlx_:=(show (l0.drop (x5_1:Int).toNat).length=(l0.length - x5_1.toNat) from List.length_drop);omega);intro v285 w48 ho hb hg hat;rw [← Ny284.out] at ho;have n0_:=am (Kd.R_after (ok:=(fun _=>True)) (rK HO279) hg hat);have n1_:=am (hb);have n2_:=am (ho);clear HO279;clear HB;clear HO282;have HO279:=n0_;have HB:=n1_;have HO286:=n2_;clear n0_ n1_ n2_;clear ho hb hg hat;refine hK.out _ _ trivial (fun hHeld=>?_);clear hK K;refine nB ?_;refine pz [12] ?_;refine eA HT_ ?_;try go_wp2
   go_ret;exact ⟨_,rA,rm HO286 (fun _ hk=>trivial),bA⟩

/-! ### spec_IsFullStage: function 94 -/
def spec_IsFullStage.l0:Nat→List (S58)→List Int→Int→Option (Bool)
 | 0,_,_,_=>none
 | k + 1,x0,x1,x5=>if x5 < (x0.length:Int) then (if 0≤x5 then ((spec_l6Has.f k x1 ((rd_T58 x0 x5).f0)).bind fun t289=>(if t289=true then (spec_IsFullStage.l0 k x0 x1 (wrap64 (x5 + 1))) else ((spec_l6Put.f k x1 ((rd_T58 x0 x5).f0)).bind fun t291=>((spec_IsTogether.f k x0 t291).bind fun t294=>(if t294=true then (some false) else (spec_IsFullStage.l0 k x0 x1 (wrap64 (x5 + 1)))))))) else (none)) else ((spec_IsTogether.f k x0 x1).bind fun t287=>(some t287))
def spec_IsFullStage.f (k:Nat) (l0:List (S58)) (l1:List Int):Option (Bool):=spec_IsFullStage.l0 k l0 l1 0
theorem spec_IsFullStage.mono_l:∀ k,(∀ y0 y1 y2,LeO (spec_IsFullStage.l0 k y0 y1 y2) (spec_IsFullStage.l0 (k + 1) y0 y1 y2))
 | 0=>fun _ _ _ r h=>by simp [spec_IsFullStage.l0] at h
 | k + 1=>by
  have ih0:=spec_IsFullStage.mono_l k
  ·intro y0 y1 y2;unfold spec_IsFullStage.l0;exact mz4 ih0 spec_IsTogether.mono spec_l6Has.mono spec_l6Put.mono
theorem spec_IsFullStage.mono:∀ a0 a1 k,LeO (spec_IsFullStage.f k a0 a1) (spec_IsFullStage.f (k + 1) a0 a1):=by
 intro a0 a1 k;have ih0:=spec_IsFullStage.mono_l k;unfold spec_IsFullStage.f;exact mz4 ih0 spec_IsTogether.mono spec_l6Has.mono spec_l6Put.mono
set_option maxHeartbeats 8000000 in
set_option maxRecDepth 100000 in
theorem spec_IsFullStage.calls (k:Nat) (A0:Option Addr) (c0:Nat) (l0:List (S58)) (A1:Option Addr) (c1:Nat) (l1:List Int) (r:Bool) (w:World) (hr0:Kd.C k58 w A0 l0.length l0) (hc0:l0.length≤c0) (hr1:Kd.C (Kd.int .i64) w A1 l1.length l1) (hc1:l1.length≤c1) (h:spec_IsFullStage.f k l0 l1=some r) :
  Calls Tryz.prog 94 #[.slice A0 l0.length c0,.slice A1 l1.length c1] w fun e w'=>e=.returned (.bool r)∧Below w.heap.size w w':=by
 have HR0:=am hr0;have HC0:=am hc0;clear hr0 hc0;have HR1:=am hr1;have HC1:=am hc1;clear hr1 hc1;have HB:=am (Below.refl w.heap.size w);unfold spec_IsFullStage.f at h;have H:=h;clear h;have H':=am H;clear H;go_enter Tryz.func94,Tryz.ntmps94;go_wp2;go_loopg [5] k (fun kq v5 w'=>∃ (x5_1:Int),v5=.int .i64 x5_1∧Aside0 (spec_IsFullStage.l0 kq l0 l1 x5_1=some r)∧Aside0 (kq≤k)∧Aside0 (Below w.heap.size w w'))
 case atStart=>exact ⟨(0),rS,H',⟨Nat.le_refl _⟩,⟨bA⟩⟩
 case round =>
  clear H';obtain ⟨x5_1,rfl,HA,HK1,HB⟩:=hrel
  cases gk with
  | zero=>exact absurd HA.out (by simp [spec_IsFullStage.l0])
  | succ k1 =>
   have H:=HA.out;clear HA;simp only [spec_IsFullStage.l0] at H;by_cases c3:x5_1 < (l0.length:Int)
   ·rw [if_pos c3] at H;have c3b0:=dt c3;clear c3;have c4b0:=ifC H;replace H:=ifT H;obtain ⟨t289,A5,H⟩:=bindE H;try dsimp only at H
    by_cases c6:t289=true
    ·subst c6;rw [if_pos rfl] at H;have H':=am H;clear H;obtain ⟨p288,q288⟩:=pq x5_1 l0;obtain ⟨ad288,e288,hx288_0,hx288_1,hx288_2,hx288_3⟩:=at_T58 (Kd.C_below HR0.out HB.out) x5_1 p288 q288;cases e288;obtain ⟨p288,q288⟩:=eT p288 q288;go_wp2_with (first|((with_reducible refine gc 102 ?_);refine gL (some 18) Tryz.func102 #[.slice A1 l1.length c1,.int .i64 ((rd_T58 l0 x5_1).f0)] ?_;(with_reducible refine (spec_l6Has.calls k1 _ _ l1 ((rd_T58 l0 x5_1).f0) true _ ?_ ?_ A5.out).mono ?_);exact cB HR1;exact HC1.out;rintro e w' ⟨rfl,⟨nd,rfl⟩⟩;refine ⟨_,rfl,?_⟩));go_roundg k1
     case measure=>have:=HK1.out;omega
     case rel=>exact ⟨(wrap64 (x5_1 + 1)),rS,H',⟨by have:=HK1.out;omega⟩,⟨bA⟩⟩
    replace c6:=Bool.eq_false_iff.mpr c6;subst c6;rw [if_neg Bool.false_ne_true] at H;obtain ⟨t291,A7,H⟩:=bindE H;try dsimp only at H
    obtain ⟨t294,A8,H⟩:=bindE H;try dsimp only at H
    by_cases c9:t294=true
    ·subst c9;rw [if_pos rfl] at H;obtain rfl:=oj H;obtain ⟨p288,q288⟩:=pq x5_1 l0;obtain ⟨ad288,e288,hx288_0,hx288_1,hx288_2,hx288_3⟩:=at_T58 (Kd.C_below HR0.out HB.out) x5_1 p288 q288;cases e288;obtain ⟨p288,q288⟩:=eT p288 q288;go_wp2_with (first|((with_reducible refine gc 102 ?_);refine gL (some 18) Tryz.func102 #[.slice A1 l1.length c1,.int .i64 ((rd_T58 l0 x5_1).f0)] ?_;(with_reducible refine (spec_l6Has.calls k1 _ _ l1 ((rd_T58 l0 x5_1).f0) false _ ?_ ?_ A5.out).mono ?_);exact cB HR1;exact HC1.out;rintro e w' ⟨rfl,⟨nd,rfl⟩⟩;refine ⟨_,rfl,?_⟩;have p290:0≤(x5_1:Int):=dA;have q290:x5_1 < (l0.length:Int):=dA;obtain ⟨ad290,e290,hx290_0,hx290_1,hx290_2,hx290_3⟩:=at_T58 HR0.out x5_1 p290 q290;obtain rfl:ad288=ad290:=(by injection e290);replace hx290_0:=hC HB hx290_0;replace hx290_1:=hC HB hx290_1;replace hx290_2:=hC HB hx290_2;replace hx290_3:=hC HB hx290_3;replace p290:=eq_true p290;replace q290:=eq_true q290)|(go_at_call 103;(with_reducible refine (spec_l6Put.calls k1 _ _ l1 ((rd_T58 l0 x5_1).f0) t291 _ ?_ ?_ A7.out).mono ?_);exact cG HR1;exact HC1.out;rintro e w10 ⟨v292,rfl,ho0,hb⟩;have HO293:=rl w ho0;replace HB:=bs HB hb;(try clear hb);(try clear ho0);obtain ⟨Ao11,co11,eo11⟩:=Kd.R_slice HO293.out;subst eo11)|(go_at_call 87;(with_reducible refine (spec_IsTogether.calls k1 _ _ l0 _ _ t291 true _ ?_ ?_ ?_ ?_ A8.out).mono ?_);exact cB HR0;exact HC0.out;exact cO ⟨(Kd.R_reads' HO293.out).2.2⟩;exact (Kd.R_reads' HO293.out).2.1;rintro e w12 ⟨rfl,hb⟩;replace HO293:=rb HO293 hb;replace HB:=bs HB hb;(try clear hb)));go_ret;exact ⟨rA,bA⟩
    replace c9:=Bool.eq_false_iff.mpr c9;subst c9;rw [if_neg Bool.false_ne_true] at H;have H':=am H;clear H;obtain ⟨p288,q288⟩:=pq x5_1 l0;obtain ⟨ad288,e288,hx288_0,hx288_1,hx288_2,hx288_3⟩:=at_T58 (Kd.C_below HR0.out HB.out) x5_1 p288 q288;cases e288;obtain ⟨p288,q288⟩:=eT p288 q288;go_wp2_with (first|((with_reducible refine gc 102 ?_);refine gL (some 18) Tryz.func102 #[.slice A1 l1.length c1,.int .i64 ((rd_T58 l0 x5_1).f0)] ?_;(with_reducible refine (spec_l6Has.calls k1 _ _ l1 ((rd_T58 l0 x5_1).f0) false _ ?_ ?_ A5.out).mono ?_);exact cB HR1;exact HC1.out;rintro e w' ⟨rfl,⟨nd,rfl⟩⟩;refine ⟨_,rfl,?_⟩;have p290:0≤(x5_1:Int):=dA;have q290:x5_1 < (l0.length:Int):=dA;obtain ⟨ad290,e290,hx290_0,hx290_1,hx290_2,hx290_3⟩:=at_T58 HR0.out x5_1 p290 q290;obtain rfl:ad288=ad290:=(by injection e290);replace hx290_0:=hC HB hx290_0;replace hx290_1:=hC HB hx290_1;replace hx290_2:=hC HB hx290_2;replace hx290_3:=hC HB hx290_3;replace p290:=eq_true p290;replace q290:=eq_true q290)|(go_at_call 103;(with_reducible refine (spec_l6Put.calls k1 _ _ l1 ((rd_T58 l0 x5_1).f0) t291 _ ?_ ?_ A7.out).mono ?_);exact cG HR1;exact HC1.out;rintro e w13 ⟨v292,rfl,ho0,hb⟩;have HO293:=rl w ho0;replace HB:=bs HB hb;(try clear hb);(try clear ho0);obtain ⟨Ao14,co14,eo14⟩:=Kd.R_slice HO293.out;subst eo14)|(go_at_call 87;(with_reducible refine (spec_IsTogether.calls k1 _ _ l0 _ _ t291 false _ ?_ ?_ ?_ ?_ A8.out).mono ?_);exact cB HR0;exact HC0.out;exact cO ⟨(Kd.R_reads' HO293.out).2.2⟩;exact (Kd.R_reads' HO293.out).2.1;rintro e w15 ⟨rfl,hb⟩;replace HO293:=rb HO293 hb;replace HB:=bs HB hb;(try clear hb)));go_roundg k1
    case measure=>have:=HK1.out;omega
    case rel=>exact ⟨(wrap64 (x5_1 + 1)),rS,H',⟨by have:=HK1.out;omega⟩,⟨bA⟩⟩
   rw [if_neg c3] at H;have c3b0:=df c3;clear c3;obtain ⟨t287,A16,H⟩:=bindE H;try dsimp only at H
   obtain rfl:=oj H;go_wp2_with (first|((with_reducible refine gc 87 ?_);refine gL (some 33) Tryz.func87 #[.slice A0 l0.length c0,.slice A1 l1.length c1] ?_;(with_reducible refine (spec_IsTogether.calls k1 _ _ l0 _ _ l1 t287 _ ?_ ?_ ?_ ?_ A16.out).mono ?_);exact cB HR0;exact HC0.out;exact cB HR1;exact HC1.out;rintro e w17 ⟨rfl,hb⟩;refine ⟨_,rfl,?_⟩;replace HB:=bs HB hb;(try clear hb)));go_ret;exact ⟨rA,bA⟩

/-! ### spec_StagesOf: function 76 -/
def spec_l6Search.j0 (l2:List Int) (l3:List (List Int)) (x26:Bool):Option (List (List Int)):=if x26=true then (if 0 + l2.length < 17592186044416 then (if l3.length < 5864062014805 then some (l3 ++ [l2]) else none) else none) else some l3
def spec_l6Search.f:Nat→List (S58)→Int→List Int→List (List Int)→Option ((List (List Int)))
 | 0,_,_,_,_=>none
 | k + 1,l0,a1,l2,l3=>(if a1=(l0.length:Int) then (if (l2.length:Int) > 0 then (if (l3.length:Int) < 40 then ((spec_IsFullStage.f k l0 l2).bind fun t295=>(spec_l6Search.j0 l2 l3 t295)) else (spec_l6Search.j0 l2 l3 false)) else (spec_l6Search.j0 l2 l3 false)) else ((some (([]:List Int):List Int)).bind fun y296=>(if y296.length + l2.length < 17592186044416 then ((some (y296 ++ l2:List Int)).bind fun y299=>(if 0≤a1 then (if a1 < (l0.length:Int) then ((some (([(rd_T58 l0 a1).f0]:List Int):List Int)).bind fun y303=>(if y299.length + y303.length < 17592186044416 then ((spec_IsTogether.f k l0 (y299 ++ y303)).bind fun t309=>(if t309=true then ((spec_l6Search.f k l0 (wrap64 (a1 + 1)) (y299 ++ y303) l3).bind fun t310=>(spec_l6Search.f k l0 (wrap64 (a1 + 1)) l2 t310)) else (spec_l6Search.f k l0 (wrap64 (a1 + 1)) l2 l3))) else (none))) else (none)) else (none))) else (none))))
theorem spec_l6Search.mono_l:∀ k y0 y1 y2 y3,LeO (spec_l6Search.f k y0 y1 y2 y3) (spec_l6Search.f (k + 1) y0 y1 y2 y3)
 | 0=>fun _ _ _ _ r h=>by simp [spec_l6Search.f] at h
 | k + 1=>by
  have ih0:=spec_l6Search.mono_l k
  intro y0 y1 y2 y3
  unfold spec_l6Search.f
  exact mz3 ih0 spec_IsFullStage.mono spec_IsTogether.mono
theorem spec_l6Search.mono:∀ a0 a1 a2 a3 k,LeO (spec_l6Search.f k a0 a1 a2 a3) (spec_l6Search.f (k + 1) a0 a1 a2 a3):=fun a0 a1 a2 a3 k=>spec_l6Search.mono_l k a0 a1 a2 a3
def spec_l6Search.T5:Bool × List (List Nat × List Nat):=(true,[([],[]),([],[]),([0,1],[0,1]),([],[]),([],[]),([3,4],[3,4]),([5],[5]),([6],[6]),([7],[7]),([2,8,2],[2,8]),([9,9,0,1,2,3,4,5,6,7,8,9],[9])])
def spec_l6Search.B5:List Nat:=[0,0,3,0,0,24,56,120,248,511,1023]
theorem spec_l6Search.tab5:rtab .any (opsOf Tryz.f84 5)=spec_l6Search.T5:=by kernel_rfl
theorem spec_l6Search.bits5:waitsOk spec_l6Search.T5.2 spec_l6Search.B5=true:=by kernel_rfl
set_option maxHeartbeats 8000000 in
set_option maxRecDepth 100000 in
theorem spec_l6Search.calls (k:Nat):∀ (P3_ Q2_:Nat→Prop) (A0:Option Addr) (c0:Nat) (l0:List (S58)) (a1:Int) (v2:Value) (l2:List Int) (v3:Value) (l3:List (List Int)) (r:List (List Int)) (w0 w:World) (hB:Below w0.heap.size w0 w) (hr0:Kd.C k58 w0 A0 l0.length l0) (hc0:l0.length≤c0) (hs2:Kd.R (Kd.int .i64) 3 w w0.heap.size Q2_ v2 l2) (hs3:Kd.S (Kd.slice 3 (Kd.int .i64)) 25 w w0.heap.size P3_ v3 l3) (hPQ:∀ i,Q2_ i→¬ P3_ i) (h:spec_l6Search.f k l0 a1 l2 l3=some r),
  Calls Tryz.prog 84 #[.slice A0 l0.length c0,.int .i64 a1,v2,v3] w fun e w'=>∃ v0_:Value,e=.returned (v0_)∧Kd.S (Kd.slice 3 (Kd.int .i64)) 25 w' w0.heap.size (fun i=>P3_ i∨w.heap.size≤i) v0_ r∧Below w0.heap.size w0 w'∧Kept w w' P3_:=by
 induction k using Nat.strongRecOn with
 | _ k ih =>
 intro P3_ Q2_ A0 c0 l0 a1 v2 l2 v3 l3 r w0 w hB hr0 hc0 hs2 hs3 hPQ h
 cases k with
 | zero=>exact absurd h (by simp [spec_l6Search.f])
 | succ k =>
 have IH:=Aside0.mk (ih k (Nat.lt_succ_self k))
 clear ih
 obtain ⟨A2,c2,e2⟩:=Kd.R_slice hs2
 subst e2
 obtain ⟨A3,c3,e3⟩:=Kd.S_slice hs3
 subst e3
 have HR00:=Aside0.mk hr0
 have HR0:=Aside0.mk (Kd.C_below hr0 hB)
 have HC0:=Aside0.mk hc0
 have HR2:=Aside0.mk (Kd.R_reads' hs2).2.2
 have HC2:=Aside0.mk (Kd.R_reads' hs2).2.1
 have HZ2:=Aside0.mk (Kd.R_mono (ok':=fun i=>Q2_ i∧i < w.heap.size) (Kd.R_bound hs2) (fun _ hi=>⟨hi.1,hi.2.2.1⟩))
 have HZ3:=Aside0.mk (Kd.S_mono (ok':=fun i=>P3_ i∧i < w.heap.size) (Kd.S_bound hs3) (fun _ hi=>⟨hi.1,hi.2.2.1⟩))
 have HPQ:=Aside0.mk hPQ
 have HB0:=Aside0.mk hB
 clear hB hr0 hc0 hs2 hs3 hPQ
 have HB:=Aside0.mk (Below.refl w.heap.size w)
 have H:(if a1=(l0.length:Int) then (if (l2.length:Int) > 0 then (if (l3.length:Int) < 40 then ((spec_IsFullStage.f k l0 l2).bind fun t295=>(spec_l6Search.j0 l2 l3 t295)) else (spec_l6Search.j0 l2 l3 false)) else (spec_l6Search.j0 l2 l3 false)) else ((some (([]:List Int):List Int)).bind fun y296=>(if y296.length + l2.length < 17592186044416 then ((some (y296 ++ l2:List Int)).bind fun y299=>(if 0≤a1 then (if a1 < (l0.length:Int) then ((some (([(rd_T58 l0 a1).f0]:List Int):List Int)).bind fun y303=>(if y299.length + y303.length < 17592186044416 then ((spec_IsTogether.f k l0 (y299 ++ y303)).bind fun t309=>(if t309=true then ((spec_l6Search.f k l0 (wrap64 (a1 + 1)) (y299 ++ y303) l3).bind fun t310=>(spec_l6Search.f k l0 (wrap64 (a1 + 1)) l2 t310)) else (spec_l6Search.f k l0 (wrap64 (a1 + 1)) l2 l3))) else (none))) else (none)) else (none))) else (none))))=some r:=h
 clear h
 by_cases c5:a1=(l0.length:Int)
 ·
  rw [if_pos c5] at H
  have c5b0:(a1 == (l0.length:Int))=true:=beq_iff_eq.mpr c5
  have c5b1:(a1 != (l0.length:Int))=false:=bne_eq_false_iff_eq.mpr c5
  clear c5
  have HC6:=Aside0.mk H
  clear H
  go_enter Tryz.func84,Tryz.ntmps84
  go_upto_region 2 with (fail)
  go_cut [26] (fun v26 wc=>∃ (x26_5:Bool),v26=.bool x26_5∧Aside0 (spec_l6Search.j0 l2 l3 x26_5=some r)∧Aside0 (Below w.heap.size w wc))
  case first =>
   have H:=HC6.out
   clear HC6
   by_cases c7:(l2.length:Int) > 0
   ·
    rw [if_pos c7] at H
    have c7b0:=decide_eq_true c7
    have c7b1:decide (0 < l2.length)=true:=decide_eq_true (by omega)
    clear c7
    (first|rw [c7b0]|(simp only [i64_w,i32_w];rw [c7b0])|skip)
    by_cases c8:(l3.length:Int) < 40
    ·
     rw [if_pos c8] at H
     have c8b0:=decide_eq_true c8
     have c8b1:decide (l3.length < 40)=true:=decide_eq_true (by omega)
     clear c8
     obtain ⟨t295,A9,H⟩:=bindE H
     try dsimp only at H
     have H':=Aside0.mk H
     clear H
     go_wp2_with (first|(go_at_call 94;(with_reducible refine (spec_IsFullStage.calls k _ _ l0 _ _ l2 t295 _ ?_ ?_ ?_ ?_ A9.out).mono ?_);exact cB HR0;exact HC0.out;exact cB HR2;exact HC2.out;rintro e w10 ⟨rfl,hb⟩;replace HB:=bs HB hb;(try clear hb)))
     go_meet
     case rel=>exact ⟨t295,rS,H',⟨bA⟩⟩
    rw [if_neg c8] at H
    have c8b0:=decide_eq_false c8
    have c8b1:decide (l3.length < 40)=false:=decide_eq_false (by omega)
    clear c8
    have H':=Aside0.mk H
    clear H
    go_wp2
    go_meet
    case rel=>exact ⟨false,rS,H',⟨bA⟩⟩
   rw [if_neg c7] at H
   have c7b0:=decide_eq_false c7
   have c7b1:decide (0 < l2.length)=false:=decide_eq_false (by omega)
   clear c7
   (first|rw [c7b0]|(simp only [i64_w,i32_w];rw [c7b0])|skip)
   have H':=Aside0.mk H
   clear H
   go_wp2
   go_meet
   case rel=>exact ⟨false,rS,H',⟨bA⟩⟩
  case rest =>
   clear HC6
   obtain ⟨x26_5,rfl,HA,HB⟩:=hcut
   have H:=HA.out
   clear HA
   have HBB:=Aside0.mk (HB0.out.trans (HB.out.mono HB0.out.size))
   have HZ3c:=Aside0.mk (Kd.S_below HZ3.out HB.out)
   simp only [spec_l6Search.j0] at H
   by_cases c11:x26_5=true
   ·
    subst c11
    replace H:(if 0 + l2.length < 17592186044416 then (if l3.length < 5864062014805 then some (l3 ++ [l2]) else none) else none)=some r:=by rw [if_pos rfl] at H;exact H
    have c12:0 + l2.length < 17592186044416:=ifN H
    replace H:=ifT H
    have LMc12:=Aside0.mk c12
    clear c12
    have c13:l3.length < 5864062014805:=ifN H
    replace H:=ifT H
    have LMc13:=Aside0.mk c13
    clear c13
    obtain rfl:=Option.some.inj H
    go_wp2_with (first|((with_reducible refine gate_dst (N:=28) rfl ?_);refine Kd.R_lit (Kd.int .i64) _ 3 ?hg (N:=28) ?hd (xs:=([]:List Int)) (inner:=[]) (ok:=fun _=>True) (okp:=fun _=>True) ?hr ?hp (fun _ hk=>hk) trivial (Below.refl _ _) (Nat.le_refl _) (by simp) ?_;(case hd=>rfl);(case hg=>rfl);(case hr=>first|(go_simp;done)|(go_simp;rfl));(case hp=>exact (Reps.none _ _));intro v217 w8 ho9 hb hg_ hnew_;clear hg_ hnew_;have HO218:=rl w ho9;replace HB:=bs HB hb;clear hb ho9)|((with_reducible refine gate_builtin (b:=.append) (xs:=#[.tmp 28,.tmp 29]) rfl ?_);at_builtin;refine Kd.R_append_rows (Kd.int .i64) (w0:=w) w.heap.size rfl (.tmp 28) (.tmp 29) 25 3 (.int .i64 0) 8 rfl Tryz.underlying25 info3 rfl (by decide) (by omega) v217 [] l2 _ _ _ (fun _=>True) (fun _=>False) rfl rfl ?aO ?aR (fun _ _ h=>h) (fun _ h=>h.elim) ?aF ?aB ?aS ?aL ?_;(case aR=>repeat (first|exact (Kd.C_below HR2.out HB.out)|(with_reducible refine Kd.C_alloc ?_ _)|(with_reducible refine Kd.C_drewN ?_ _)|(with_reducible refine Kd.C_drew ?_)));(case aB=>exact bA);(case aF=>exact (fun _ _=>trivial));(case aO=>exact (rK HO218));(case aS=>exact (below_size bA));(case aL=>have:=LMc12.out;simp only [List.length_nil];omega);intro v220 w10 ho hb hg hat;rw [List.nil_append] at ho;have n0_:=Aside0.mk (hb);have n1_:=Aside0.mk (ho);clear HB;clear HO218;have HB:=n0_;have HO221:=n1_;clear n0_ n1_;clear ho hb hg hat;obtain ⟨Ao24,co24,eo24⟩:=Kd.R_slice HO221.out;subst eo24)|((with_reducible refine gate_builtin (b:=.append) (xs:=#[.tmp 27,.tmp 31]) rfl ?_);at_builtin;refine Kd.S_append (Kd.slice 3 (Kd.int .i64)) (w0:=w0) w0.heap.size rfl (.tmp 27) (.tmp 31) 106 25 (.slice none 0 0) 24 rfl Tryz.underlying106 info25 rfl (by decide) (by omega) (.slice A3 l3.length c3) l3 l2 [.slice Ao24 l2.length co24] (fun i=>P3_ i∨w.heap.size≤i) (fun i=>some i=(.slice Ao24 l2.length co24:Value).ownBlock) rfl rfl ?aP ?aK ?aF ?aO ?aB ?aS ?aL ?_;(case aP=>exact Kd.M_row (Kd.R_tight rfl (Kd.R_lower (rK HO221) HB0.out.size)));(case aK=>exact (fun i hi=>⟨.inr (Kd.R_base HO221.out i hi.symm),fun he=>by have:=Kd.R_base HO221.out i hi.symm;have:=Kd.S_lt HZ3.out i he.symm;omega⟩));(case aF=>exact (fun i hi=>.inr (Nat.le_trans (below_size HB.out) hi)));(case aO=>exact (Kd.S_mono (Kd.S_below HZ3.out HB.out) (fun i hi=>⟨.inl hi.1,fun he=>by have:=Kd.R_base HO221.out i he.symm;have:=hi.2;omega⟩)));(case aB=>exact (HB0.out.trans (HB.out.mono HB0.out.size)));(case aS=>exact (Nat.le_trans HB0.out.size (below_size HB.out)));(case aL=>have:=LMc13.out;omega);intro v285 w23 ho hb hg hat;have n0_:=Aside0.mk ho;have n1_:=Aside0.mk hb;have n2_:=Aside0.mk (Kept.of_grown hg (Kept.of_below HB.out P3_) (fun i hi=>.inl ((Kd.S_R HZ3.out).1 i hi).1));clear HB HBB HZ3c ho hb hg hat))
    go_ret
    exact ⟨_,rA,n0_.out,n1_.out,n2_.out⟩
   replace c11:=Bool.eq_false_iff.mpr c11
   subst c11
   replace H:some l3=some r:=by rw [if_neg (show ¬ (false=true) by decide)] at H;exact H
   obtain rfl:=Option.some.inj H
   have HK:=Aside0.mk (Kept.of_below HB.out P3_)
   clear HB
   go_wp2
   go_ret
   exact ⟨_,rA,sm HZ3c (fun _ hi=>.inl hi.1),bA,HK.out⟩
 rw [if_neg c5] at H
 have c5b0:(a1 == (l0.length:Int))=false:=beq_eq_false_iff_ne.mpr c5
 have c5b1:(a1 != (l0.length:Int))=true:=bne_iff_ne.mpr c5
 obtain ⟨y296,hy296⟩:∃ y_:List Int,y_=(([]:List Int)):=⟨_,rfl⟩
 replace H:(if y296.length + l2.length < 17592186044416 then ((some (y296 ++ l2:List Int)).bind fun y299=>(if 0≤a1 then (if a1 < (l0.length:Int) then ((some (([(rd_T58 l0 a1).f0]:List Int):List Int)).bind fun y303=>(if y299.length + y303.length < 17592186044416 then ((spec_IsTogether.f k l0 (y299 ++ y303)).bind fun t309=>(if t309=true then ((spec_l6Search.f k l0 (wrap64 (a1 + 1)) (y299 ++ y303) l3).bind fun t310=>(spec_l6Search.f k l0 (wrap64 (a1 + 1)) l2 t310)) else (spec_l6Search.f k l0 (wrap64 (a1 + 1)) l2 l3))) else (none))) else (none)) else (none))) else (none))=some r:=rH H hy296
 have Ny296:=Aside0.mk hy296
 clear hy296
 have c12:y296.length + l2.length < 17592186044416:=ifN H
 replace H:=ifT H
 have LMc12:=Aside0.mk c12
 clear c12
 obtain ⟨y299,hy299⟩:∃ y_:List Int,y_=(y296 ++ l2):=⟨_,rfl⟩
 replace H:(if 0≤a1 then (if a1 < (l0.length:Int) then ((some (([(rd_T58 l0 a1).f0]:List Int):List Int)).bind fun y303=>(if y299.length + y303.length < 17592186044416 then ((spec_IsTogether.f k l0 (y299 ++ y303)).bind fun t309=>(if t309=true then ((spec_l6Search.f k l0 (wrap64 (a1 + 1)) (y299 ++ y303) l3).bind fun t310=>(spec_l6Search.f k l0 (wrap64 (a1 + 1)) l2 t310)) else (spec_l6Search.f k l0 (wrap64 (a1 + 1)) l2 l3))) else (none))) else (none)) else (none))=some r:=rH H hy299
 have Ny299:=Aside0.mk hy299
 clear hy299
 have c13:0≤a1:=ifN H
 replace H:=ifT H
 have c13b0:=decide_eq_true c13
 clear c13
 have c14:a1 < (l0.length:Int):=ifN H
 replace H:=ifT H
 have c14b0:=decide_eq_true c14
 clear c14
 obtain ⟨y303,hy303⟩:∃ y_:List Int,y_=(([(rd_T58 l0 a1).f0]:List Int)):=⟨_,rfl⟩
 replace H:(if y299.length + y303.length < 17592186044416 then ((spec_IsTogether.f k l0 (y299 ++ y303)).bind fun t309=>(if t309=true then ((spec_l6Search.f k l0 (wrap64 (a1 + 1)) (y299 ++ y303) l3).bind fun t310=>(spec_l6Search.f k l0 (wrap64 (a1 + 1)) l2 t310)) else (spec_l6Search.f k l0 (wrap64 (a1 + 1)) l2 l3))) else (none))=some r:=rH H hy303
 have Ny303:=Aside0.mk hy303
 clear hy303
 have c15:y299.length + y303.length < 17592186044416:=ifN H
 replace H:=ifT H
 have LMc15:=Aside0.mk c15
 clear c15
 obtain ⟨y306,hy306⟩:∃ y_:List Int,y_=(y299 ++ y303):=⟨_,rfl⟩
 replace H:((spec_IsTogether.f k l0 y306).bind fun t309=>(if t309=true then ((spec_l6Search.f k l0 (wrap64 (a1 + 1)) y306 l3).bind fun t310=>(spec_l6Search.f k l0 (wrap64 (a1 + 1)) l2 t310)) else (spec_l6Search.f k l0 (wrap64 (a1 + 1)) l2 l3)))=some r:=rH H hy306
 have Ny306:=Aside0.mk hy306
 clear hy306
 obtain ⟨t309,A16,H⟩:=bindE H
 try dsimp only at H
 go_enter Tryz.func84,Tryz.ntmps84
 try go_wp2
 have HBo:=HB
 replace HB:=db HB
 obtain ⟨p302,q302⟩:0≤(a1:Int)∧a1 < (l0.length:Int):=⟨dA,dA⟩
 obtain ⟨ad302,e302,hx302_0,hx302_1,hx302_2,hx302_3⟩:=at_T58 HR0.out a1 p302 q302
 have hw302_3:=hx302_3
 have hw302_2:=hx302_2
 have hw302_1:=hx302_1
 have hw302_0:=hx302_0
 cases e302
 replace hx302_0:=hC HB hx302_0
 replace hx302_1:=hC HB hx302_1
 replace hx302_2:=hC HB hx302_2
 replace hx302_3:=hC HB hx302_3
 obtain ⟨p302,q302⟩:=eT p302 q302
 refine sw (ds:=[]) 11 (mb 11 0) spec_l6Search.tab5 spec_l6Search.bits5 (h1c (hC HB hw302_0) (h1c (hC HB hw302_1) (h1c (hC HB hw302_2) (h1 (hC HB hw302_3))))) (fun hHeld HT_ HW_=>?_)
 generalize w.drew=w18 at HB hx302_0 hx302_1 hx302_2 hx302_3 hHeld ⊢
 refine pa 1 35 (mb 11 2) HT_ ?_
 refine pa 3 37 (mb 11 10) HT_ ?_
 refine pa 4 38 (mb 11 26) HT_ ?_
 refine pa 5 39 (mb 11 58) HT_ ?_
 refine pa 6 40 (mb 11 122) HT_ ?_
 refine ta4 7 41 (mb 11 250) HT_ HW_ hHeld ?_
 refine join_ (σ:=Value × Value × Value) 2 (mb 11 511) (fun s_=>[(34,s_.1),(36,s_.2.1),(42,s_.2.2)]) (fun s_ w'=>(w'.cell? (ad302.add ((a1).toNat * 4))=some (.int .i64 ((rd_T58 l0 a1).f0))∧w'.cell? ⟨(ad302.add ((a1).toNat * 4)).block,(ad302.add ((a1).toNat * 4)).off + 1,none⟩=some (.int .i64 ((rd_T58 l0 a1).f1))∧w'.cell? ⟨(ad302.add ((a1).toNat * 4)).block,(ad302.add ((a1).toNat * 4)).off + 2,none⟩=some (.int .i64 ((rd_T58 l0 a1).f2))∧w'.cell? ⟨(ad302.add ((a1).toNat * 4)).block,(ad302.add ((a1).toNat * 4)).off + 3,none⟩=some (.int .i64 ((rd_T58 l0 a1).f3)))∧(Kd.R (Kd.int .i64) 3 w' w.heap.size (n1 s_.2.2) s_.2.1 y299)∧(Kd.R (Kd.int .i64) 3 w' w.heap.size (n1 s_.2.1) s_.2.2 y303)∧(Below w.heap.size w w')) ?_ ?_
 rotate_left
 ·
  intro hCont
  refine two_ (i:=0) (j:=8) (Ni:=some 34) (Nj:=some 42) (mb 11 251) (mb 11 506) rfl rfl rfl rfl (two_of HT_.out (by kernel_rfl)) (by decide) (by decide) (fun K hK=>?_) (fun K hK=>?_)
  ·
   skip
   refine Kd.R_lit_step (Kd.int .i64) _ 3 ?hg (N:=34) ?hd (xs:=([]:List Int)) (inner:=[]) (ok:=fun _=>True) (okp:=fun _=>True) ?hr ?hp (fun _ hk=>hk) trivial (Below.refl _ _) (Nat.le_refl _) (by simp) ?_;(case hd=>rfl);(case hg=>rfl);(case hr=>first|(go_simp;done)|(go_simp;rfl));(case hp=>exact (Reps.none _ _))
   intro v297 w19 ho20 hb hg_ hnew_
   clear hg_ hnew_
   (first|rw [← Ny296.out] at ho20|(simp only [Int.reduceToNat] at ho20;rw [← Ny296.out] at ho20))
   have HO298:=rl w ho20
   replace HB:=bs HB hb
   clear hb ho20
   refine hK.out _ _ ⟨(hC HB hw302_0),(hC HB hw302_1),(hC HB hw302_2),(hC HB hw302_3)⟩ (fun hHeld=>?_)
   clear hK K
   refine nB ?_
   refine two_ (i:=2) (j:=8) (Ni:=some 36) (Nj:=some 42) (mb 11 255) (mb 11 507) rfl rfl rfl rfl (two_of HT_.out (by kernel_rfl)) (by decide) (by decide) (fun K hK=>?_) (fun K hK=>?_)
   ·
    skip
    refine Kd.R_append_rows_step (Kd.int .i64) (w0:=w) w.heap.size (by rfl) (.tmp 34) (.tmp 35) 25 3 (.int .i64 0) 8 rfl Tryz.underlying25 info3 rfl (by decide) (by omega) v297 y296 l2 _ _ _ (fun _=>True) (fun _=>False) rfl rfl ?aO ?aR (fun _ _ h=>h) (fun _ h=>h.elim) ?aF ?aB ?aS ?aL ?_
    (case aR=>repeat (first|exact (Kd.C_below HR2.out HB.out)|(with_reducible refine Kd.C_alloc ?_ _)|(with_reducible refine Kd.C_drewN ?_ _)|(with_reducible refine Kd.C_drew ?_)))
    (case aB=>exact bA)
    (case aF=>exact (fun _ _=>trivial))
    (case aO=>exact (rK HO298))
    (case aS=>exact (below_size bA))
    (case aL=>have:=LMc12.out;omega)
    intro v300 w21 ho hb hg hat
    rw [← Ny299.out] at ho
    have n0_:=Aside0.mk (hb)
    have n1_:=Aside0.mk (ho)
    clear HB
    clear HO298
    have HB:=n0_
    have HO301:=n1_
    clear n0_ n1_
    clear ho hb hg hat
    refine hK.out _ _ ⟨(hC HB hw302_0),(hC HB hw302_1),(hC HB hw302_2),(hC HB hw302_3)⟩ (fun hHeld=>?_)
    clear hK K
    refine nB ?_
    refine oa 8 42 (mb 11 511) HT_ (fun K hK=>?_)
    refine Kd.R_lit_step (Kd.int .i64) _ 3 ?hg (N:=42) ?hd (xs:=([(rd_T58 l0 a1).f0]:List Int)) (inner:=[.int .i64 ((rd_T58 l0 a1).f0)]) (ok:=fun _=>True) (okp:=fun _=>True) ?hr ?hp (fun _ hk=>hk) trivial (Below.refl _ _) (Nat.le_refl _) (by simp) ?_;(case hd=>rfl);(case hg=>rfl);(case hr=>first|(go_simp;done)|(go_simp;rfl));(case hp=>exact (Reps.one (show Kd.M (Kd.int .i64) _ _ _ ((rd_T58 l0 a1).f0) [.int .i64 ((rd_T58 l0 a1).f0)] from rfl) (Reps.none _ _)))
    intro v304 w22 ho23 hb hg_ hnew_
    clear hg_ hnew_
    (first|rw [← Ny303.out] at ho23|(simp only [Int.reduceToNat] at ho23;rw [← Ny303.out] at ho23))
    have HO305:=rl w (rn ho23 HO301)
    replace HO301:=re HO301 ho23 hb
    replace HB:=bs HB hb
    clear hb ho23
    refine hK.out _ _ ⟨(hC HB hw302_0),(hC HB hw302_1),(hC HB hw302_2),(hC HB hw302_3)⟩ (fun hHeld=>?_)
    clear hK K
    refine nB ?_
    exact mB (hCont (v297,v300,v304) _ ⟨hHeld,(rm HO301 (fun _ hk=>hk.2)),(rm HO305 (fun _ hk=>hk.2)),bA⟩)
   ·
    skip
    refine Kd.R_lit_step (Kd.int .i64) _ 3 ?hg (N:=42) ?hd (xs:=([(rd_T58 l0 a1).f0]:List Int)) (inner:=[.int .i64 ((rd_T58 l0 a1).f0)]) (ok:=fun _=>True) (okp:=fun _=>True) ?hr ?hp (fun _ hk=>hk) trivial (Below.refl _ _) (Nat.le_refl _) (by simp) ?_;(case hd=>rfl);(case hg=>rfl);(case hr=>first|(go_simp;done)|(go_simp;rfl));(case hp=>exact (Reps.one (show Kd.M (Kd.int .i64) _ _ _ ((rd_T58 l0 a1).f0) [.int .i64 ((rd_T58 l0 a1).f0)] from rfl) (Reps.none _ _)))
    intro v304 w21 ho22 hb hg_ hnew_
    clear hg_ hnew_
    (first|rw [← Ny303.out] at ho22|(simp only [Int.reduceToNat] at ho22;rw [← Ny303.out] at ho22))
    have HO305:=rl w (rn ho22 HO298)
    replace HO298:=re HO298 ho22 hb
    replace HB:=bs HB hb
    clear hb ho22
    refine hK.out _ _ ⟨(hC HB hw302_0),(hC HB hw302_1),(hC HB hw302_2),(hC HB hw302_3)⟩ (fun hHeld=>?_)
    clear hK K
    refine nB ?_
    refine oa 2 36 (mb 11 511) HT_ (fun K hK=>?_)
    refine Kd.R_append_rows_step (Kd.int .i64) (w0:=w) w.heap.size (by rfl) (.tmp 34) (.tmp 35) 25 3 (.int .i64 0) 8 rfl Tryz.underlying25 info3 rfl (by decide) (by omega) v297 y296 l2 _ _ _ (n1 v304) (fun _=>False) rfl rfl ?aO ?aR (fun _ _ h=>h) (fun _ h=>h.elim) ?aF ?aB ?aS ?aL ?_
    (case aR=>repeat (first|exact (Kd.C_below HR2.out HB.out)|(with_reducible refine Kd.C_alloc ?_ _)|(with_reducible refine Kd.C_drewN ?_ _)|(with_reducible refine Kd.C_drew ?_)))
    (case aB=>exact bA)
    (case aF=>exact (fun k_ hk=>Kd.fresh' (Kd.R_lt (rK HO305)) k_ hk))
    (case aO=>exact (rm HO298 (fun _ hk=>hk.2)))
    (case aS=>exact (below_size bA))
    (case aL=>have:=LMc12.out;omega)
    intro v300 w23 ho hb hg hat
    rw [← Ny299.out] at ho
    have n0_:=Aside0.mk (Kd.R_after (ok:=(fun _=>True)) (rK HO305) hg hat)
    have n1_:=Aside0.mk (hb)
    have n2_:=Aside0.mk (ho)
    clear HO305
    clear HB
    clear HO298
    have HO305:=n0_
    have HB:=n1_
    have HO301:=n2_
    clear n0_ n1_ n2_
    clear ho hb hg hat
    refine hK.out _ _ ⟨(hC HB hw302_0),(hC HB hw302_1),(hC HB hw302_2),(hC HB hw302_3)⟩ (fun hHeld=>?_)
    clear hK K
    refine nB ?_
    exact mB (hCont (v297,v300,v304) _ ⟨hHeld,(rK HO301),(rm HO305 (fun _ hk=>hk.2)),bA⟩)
  ·
   skip
   refine Kd.R_lit_step (Kd.int .i64) _ 3 ?hg (N:=42) ?hd (xs:=([(rd_T58 l0 a1).f0]:List Int)) (inner:=[.int .i64 ((rd_T58 l0 a1).f0)]) (ok:=fun _=>True) (okp:=fun _=>True) ?hr ?hp (fun _ hk=>hk) trivial (Below.refl _ _) (Nat.le_refl _) (by simp) ?_;(case hd=>rfl);(case hg=>rfl);(case hr=>first|(go_simp;done)|(go_simp;rfl));(case hp=>exact (Reps.one (show Kd.M (Kd.int .i64) _ _ _ ((rd_T58 l0 a1).f0) [.int .i64 ((rd_T58 l0 a1).f0)] from rfl) (Reps.none _ _)))
   intro v304 w19 ho20 hb hg_ hnew_
   clear hg_ hnew_
   (first|rw [← Ny303.out] at ho20|(simp only [Int.reduceToNat] at ho20;rw [← Ny303.out] at ho20))
   have HO305:=rl w ho20
   replace HB:=bs HB hb
   clear hb ho20
   refine hK.out _ _ ⟨(hC HB hw302_0),(hC HB hw302_1),(hC HB hw302_2),(hC HB hw302_3)⟩ (fun hHeld=>?_)
   clear hK K
   refine nB ?_
   refine oa 0 34 (mb 11 507) HT_ (fun K hK=>?_)
   refine Kd.R_lit_step (Kd.int .i64) _ 3 ?hg (N:=34) ?hd (xs:=([]:List Int)) (inner:=[]) (ok:=fun _=>True) (okp:=fun _=>True) ?hr ?hp (fun _ hk=>hk) trivial (Below.refl _ _) (Nat.le_refl _) (by simp) ?_;(case hd=>rfl);(case hg=>rfl);(case hr=>first|(go_simp;done)|(go_simp;rfl));(case hp=>exact (Reps.none _ _))
   intro v297 w21 ho22 hb hg_ hnew_
   clear hg_ hnew_
   (first|rw [← Ny296.out] at ho22|(simp only [Int.reduceToNat] at ho22;rw [← Ny296.out] at ho22))
   have HO298:=rl w (rn ho22 HO305)
   replace HO305:=re HO305 ho22 hb
   replace HB:=bs HB hb
   clear hb ho22
   refine hK.out _ _ ⟨(hC HB hw302_0),(hC HB hw302_1),(hC HB hw302_2),(hC HB hw302_3)⟩ (fun hHeld=>?_)
   clear hK K
   refine nB ?_
   refine oa 2 36 (mb 11 511) HT_ (fun K hK=>?_)
   refine Kd.R_append_rows_step (Kd.int .i64) (w0:=w) w.heap.size (by rfl) (.tmp 34) (.tmp 35) 25 3 (.int .i64 0) 8 rfl Tryz.underlying25 info3 rfl (by decide) (by omega) v297 y296 l2 _ _ _ (n1 v304) (fun _=>False) rfl rfl ?aO ?aR (fun _ _ h=>h) (fun _ h=>h.elim) ?aF ?aB ?aS ?aL ?_
   (case aR=>repeat (first|exact (Kd.C_below HR2.out HB.out)|(with_reducible refine Kd.C_alloc ?_ _)|(with_reducible refine Kd.C_drewN ?_ _)|(with_reducible refine Kd.C_drew ?_)))
   (case aB=>exact bA)
   (case aF=>exact (fun k_ hk=>Kd.fresh' (Kd.R_lt (rK HO305)) k_ hk))
   (case aO=>exact (rm HO298 (fun _ hk=>hk.2)))
   (case aS=>exact (below_size bA))
   (case aL=>have:=LMc12.out;omega)
   intro v300 w23 ho hb hg hat
   rw [← Ny299.out] at ho
   have n0_:=Aside0.mk (Kd.R_after (ok:=(fun _=>True)) (rK HO305) hg hat)
   have n1_:=Aside0.mk (hb)
   have n2_:=Aside0.mk (ho)
   clear HO305
   clear HB
   clear HO298
   have HO305:=n0_
   have HB:=n1_
   have HO301:=n2_
   clear n0_ n1_ n2_
   clear ho hb hg hat
   refine hK.out _ _ ⟨(hC HB hw302_0),(hC HB hw302_1),(hC HB hw302_2),(hC HB hw302_3)⟩ (fun hHeld=>?_)
   clear hK K
   refine nB ?_
   exact mB (hCont (v297,v300,v304) _ ⟨hHeld,(rK HO301),(rm HO305 (fun _ hk=>hk.2)),bA⟩)
 clear HB
 rintro ⟨v297,v300,v304⟩ w24 ⟨hHeld,h0_,h1_,h2_⟩
 try dsimp only at hHeld h0_ h1_ h2_
 have HO301:=Aside0.mk h0_
 have HO305:=Aside0.mk h1_
 have HB:=Aside0.mk h2_
 clear h0_ h1_ h2_
 obtain ⟨Ao26,co26,eo26⟩:=Kd.R_slice HO305.out
 (first|subst eo26|(injection eo26 with f1_ f2_ f3_;have f4_:=f1_.symm;have f5_:=f3_.symm;clear f1_ f2_ f3_;subst f4_;subst f5_))
 refine norm_ (a':=?_) ?_ ?_
 rotate_left
 ·
  simp only [putAll,Act.put,List.setIfInBounds_toArray,List.set_cons_zero,List.set_cons_succ]
  rfl
 refine oa 9 43 (mb 11 1023) HT_ (fun K hK=>?_)
 refine Kd.R_append_rows_step (Kd.int .i64) (w0:=w) w.heap.size (by rfl) (.tmp 36) (.tmp 42) 25 3 (.int .i64 0) 8 rfl Tryz.underlying25 info3 rfl (by decide) (by omega) v300 y299 y303 _ _ _ (n1 (.slice Ao26 y303.length co26)) (fun _=>False) rfl rfl ?aO ?aR (fun _ _ h=>h) (fun _ h=>h.elim) ?aF ?aB ?aS ?aL ?_
 (case aR=>repeat (first|exact (Kd.R_reads' HO305.out).2.2|(with_reducible refine Kd.C_alloc ?_ _)|(with_reducible refine Kd.C_drewN ?_ _)|(with_reducible refine Kd.C_drew ?_)))
 (case aB=>exact bA)
 (case aF=>exact (fun k_ hk=>Kd.fresh' (Kd.R_lt (rK HO305)) k_ hk))
 (case aO=>exact (rK HO301))
 (case aS=>exact (below_size bA))
 (case aL=>have:=LMc15.out;omega)
 intro v307 w25 ho hb hg hat
 rw [← Ny306.out] at ho
 have n0_:=Aside0.mk (Kd.R_after (ok:=(fun _=>True)) (rm HO305 (fun _ hk=>⟨trivial,hk⟩)) hg hat)
 have n1_:=Aside0.mk (hb)
 have n2_:=Aside0.mk (ho)
 clear HO305
 clear HB
 clear HO301
 have HO305:=n0_
 have HB:=n1_
 have HO308:=n2_
 clear n0_ n1_ n2_
 clear ho hb hg hat
 refine hK.out _ _ ⟨(hC HB hw302_0),(hC HB hw302_1),(hC HB hw302_2),(hC HB hw302_3)⟩ (fun hHeld=>?_)
 clear hK K
 refine nB ?_
 refine pa 10 9 (mb 11 2047) HT_ ?_
 refine eA HT_ ?_
 obtain ⟨Ao27,co27,eo27⟩:=Kd.R_slice HO308.out
 subst eo27
 have HZW:=Aside0.mk (Kd.R_lower (Kd.R_mono (ok':=fun i=>w.heap.size≤i) (Kd.R_bound HO308.out) (fun _ hi=>hi.2.1)) HB0.out.size)
 clear HO308 HO305
 cases t309 with
 | true =>
  replace H:((spec_l6Search.f k l0 (wrap64 (a1 + 1)) y306 l3).bind fun t310=>(spec_l6Search.f k l0 (wrap64 (a1 + 1)) l2 t310))=some r:=by rw [if_pos rfl] at H;exact H
  obtain ⟨t310,A18,H⟩:=bindE H
  try dsimp only at H
  have A19:=Aside0.mk H
  clear H
  go_wp2_with (first|((with_reducible refine gate_callee (f:=87) rfl ?_);refine gL (some 46) Tryz.func87 #[.slice (some ad302) l0.length c0,.slice Ao27 y306.length co27] ?_;(with_reducible refine (spec_IsTogether.calls k _ _ l0 _ _ y306 true _ ?_ ?_ ?_ ?_ A16.out).mono ?_);exact cB HR0;exact HC0.out;exact cO ⟨(Kd.R_reads' HZW.out).2.2⟩;exact (Kd.R_reads' HZW.out).2.1;rintro e w28 ⟨rfl,hb⟩;refine ⟨_,rfl,?_⟩;replace HZW:=rb HZW hb;replace HB:=bs HB hb;clear hb;have HBB:=Aside0.mk (HB0.out.trans (HB.out.mono HB0.out.size));have HZ3c:=Aside0.mk (Kd.S_below HZ3.out HB.out);have HZ2c:=Aside0.mk (Kd.R_below HZ2.out HB.out))|((with_reducible refine gate_dst (N:=52) rfl ?_);refine gL (some 52) Tryz.func84 #[.slice (some ad302) l0.length c0,.int .i64 (wrap64 (a1 + 1)),.slice Ao27 y306.length co27,.slice A3 l3.length c3] ?_;(with_reducible refine (IH.out (fun i=>P3_ i∧i < w.heap.size) (fun i=>w.heap.size≤i) _ _ l0 _ _ y306 _ l3 t310 w0 _ ?_ ?_ ?_ ?_ ?_ ?_ A18.out).mono ?_);exact HBB.out;exact HR00.out;exact HC0.out;exact rK HZW;exact sK HZ3c;exact (fun i hi hp=>Nat.not_lt_of_le hi hp.2);rintro e w29 ⟨v311,rfl,hs,hb,hk⟩;refine ⟨_,rfl,?_⟩;have HS:=Aside0.mk hs;have HKK:=Aside0.mk (Kept.then_ (Kept.of_below HB.out P3_) hk (fun i hi=>.inl hi.1));have HZ2d:=Aside0.mk (Kd.R_kept HZ2c.out hk (fun i hi hp=>HPQ.out i hi.1 hp.1));have HSZ:=Aside0.mk (below_size HB.out);clear HBB HB;have HBB:=Aside0.mk hb;clear hs hb hk;obtain ⟨A4,c4,e4⟩:=Kd.S_slice HS.out;subst e4)|((with_reducible refine gate_dst (N:=58) rfl ?_);refine gL (some 58) Tryz.func84 #[.slice (some ad302) l0.length c0,.int .i64 (wrap64 (a1 + 1)),.slice A2 l2.length c2,.slice A4 t310.length c4] ?_;(with_reducible refine (IH.out (fun i=>(P3_ i∧i < w.heap.size)∨w28.heap.size≤i) (fun i=>Q2_ i∧i < w.heap.size) _ _ l0 _ _ l2 _ t310 r w0 _ ?_ ?_ ?_ ?_ ?_ ?_ A19.out).mono ?_);exact HBB.out;exact HR00.out;exact HC0.out;exact HZ2d.out;exact HS.out;exact (fun i hi hp=>hp.elim (fun hp=>HPQ.out i hi.1 hp.1) (fun hp=>by have:=HSZ.out;have:=hi.2;omega));rintro e w30 ⟨v312,rfl,hs,hb,hk⟩;refine ⟨_,rfl,?_⟩;have n0_:=Aside0.mk (Kd.S_mono (ok':=fun i=>P3_ i∨w.heap.size≤i) hs (fun i hi=>hi.elim (fun hi=>hi.elim (fun hi=>.inl hi.1) (fun hi=>.inr (Nat.le_trans HSZ.out hi))) (fun hi=>.inr (Nat.le_trans HKK.out.1 hi))));have n1_:=Aside0.mk hb;have n2_:=Aside0.mk (Kept.then_ HKK.out hk (fun i hi=>hi.elim (fun hi=>.inl hi.1) (fun hi=>.inr (Nat.le_trans HSZ.out hi))));clear HBB HS HZ2d HZ2c HZ3c HKK hs hb hk))
  go_ret
  exact ⟨_,rA,n0_.out,n1_.out,n2_.out⟩
 | false =>
  replace H:(spec_l6Search.f k l0 (wrap64 (a1 + 1)) l2 l3)=some r:=by rw [if_neg (show ¬ (false=true) by decide)] at H;exact H
  have A19:=Aside0.mk H
  clear H
  go_wp2_with (first|((with_reducible refine gate_callee (f:=87) rfl ?_);refine gL (some 46) Tryz.func87 #[.slice (some ad302) l0.length c0,.slice Ao27 y306.length co27] ?_;(with_reducible refine (spec_IsTogether.calls k _ _ l0 _ _ y306 false _ ?_ ?_ ?_ ?_ A16.out).mono ?_);exact cB HR0;exact HC0.out;exact cO ⟨(Kd.R_reads' HZW.out).2.2⟩;exact (Kd.R_reads' HZW.out).2.1;rintro e w28 ⟨rfl,hb⟩;refine ⟨_,rfl,?_⟩;replace HZW:=rb HZW hb;replace HB:=bs HB hb;clear hb;have HBB:=Aside0.mk (HB0.out.trans (HB.out.mono HB0.out.size));have HZ3c:=Aside0.mk (Kd.S_below HZ3.out HB.out);have HZ2c:=Aside0.mk (Kd.R_below HZ2.out HB.out))|((with_reducible refine gate_dst (N:=58) rfl ?_);refine gL (some 58) Tryz.func84 #[.slice (some ad302) l0.length c0,.int .i64 (wrap64 (a1 + 1)),.slice A2 l2.length c2,.slice A3 l3.length c3] ?_;(with_reducible refine (IH.out (fun i=>P3_ i∧i < w.heap.size) (fun i=>Q2_ i∧i < w.heap.size) _ _ l0 _ _ l2 _ l3 r w0 _ ?_ ?_ ?_ ?_ ?_ ?_ A19.out).mono ?_);exact HBB.out;exact HR00.out;exact HC0.out;exact rK HZ2c;exact sK HZ3c;exact (fun i hi hp=>HPQ.out i hi.1 hp.1);rintro e w30 ⟨v312,rfl,hs,hb,hk⟩;refine ⟨_,rfl,?_⟩;have n0_:=Aside0.mk (Kd.S_mono (ok':=fun i=>P3_ i∨w.heap.size≤i) hs (fun i hi=>hi.elim (fun hi=>.inl hi.1) (fun hi=>.inr (Nat.le_trans (below_size HB.out) hi))));have n1_:=Aside0.mk hb;have n2_:=Aside0.mk (Kept.then_ (Kept.of_below HB.out P3_) hk (fun i hi=>.inl hi.1));clear HB HBB HZ2c HZ3c hs hb hk))
  go_ret
  exact ⟨_,rA,n0_.out,n1_.out,n2_.out⟩
def spec_StagesOf.f (k:Nat) (l0:List (S58)):Option ((List (List Int))):=(spec_ArePaths.f k l0).bind fun t310=>(if t310=true then ((spec_l6Search.f k l0 0 (([]:List Int)) (([]:List (List Int)))).bind fun t317=>(some t317)) else (some (([]:List (List Int)))))
theorem spec_StagesOf.mono:∀ a0 k,LeO (spec_StagesOf.f k a0) (spec_StagesOf.f (k + 1) a0):=by
 intro a0 k
 unfold spec_StagesOf.f
 exact mz2 spec_ArePaths.mono spec_l6Search.mono
set_option maxHeartbeats 8000000 in
set_option maxRecDepth 100000 in
theorem spec_StagesOf.calls (k:Nat) (A0:Option Addr) (c0:Nat) (l0:List (S58)) (r:List (List Int)) (w:World) (hr0:Kd.C k58 w A0 l0.length l0) (hc0:l0.length≤c0) (h:spec_StagesOf.f k l0=some r) :
  Calls Tryz.prog 76 #[.slice A0 l0.length c0] w fun e w'=>∃ v0_:Value,e=.returned (v0_)∧Kd.S (Kd.slice 3 (Kd.int .i64)) 25 w' w.heap.size (fun _=>True) v0_ r∧Below w.heap.size w w':=by
 have HR0:=Aside0.mk hr0
 have HC0:=Aside0.mk hc0
 clear hr0 hc0
 have HB:=Aside0.mk (Below.refl w.heap.size w)
 have H:((spec_ArePaths.f k l0).bind fun t310=>(if t310=true then ((spec_l6Search.f k l0 0 (([]:List Int)) (([]:List (List Int)))).bind fun t317=>(some t317)) else (some (([]:List (List Int))))))=some r:=h
 clear h
 obtain ⟨t310,A2,H⟩:=bindE H
 try dsimp only at H
 by_cases c3:t310=true
 ·
  subst c3
  have H1:((spec_l6Search.f k l0 0 (([]:List Int)) (([]:List (List Int)))).bind fun t317=>(some t317))=some r:=by rw [if_pos rfl] at H;exact H
  clear H
  have H:=H1
  clear H1
  obtain ⟨y311,hy311⟩:∃ y_:List Int,y_=(([]:List Int)):=⟨_,rfl⟩
  replace H:((spec_l6Search.f k l0 0 y311 (([]:List (List Int)))).bind fun t317=>(some t317))=some r:=rH H hy311
  have Ny311:=Aside0.mk hy311
  clear hy311
  obtain ⟨y314,hy314⟩:∃ y_:List (List Int),y_=(([]:List (List Int))):=⟨_,rfl⟩
  replace H:((spec_l6Search.f k l0 0 y311 y314).bind fun t317=>(some t317))=some r:=rH H hy314
  have Ny314:=Aside0.mk hy314
  clear hy314
  obtain ⟨t317,A4,H⟩:=bindE H
  try dsimp only at H
  obtain rfl:=Option.some.inj H
  go_enter Tryz.func76,Tryz.ntmps76
  go_wp2_with (first|((with_reducible refine gate_callee (f:=83) rfl ?_);refine gL (some 4) Tryz.func83 #[.slice A0 l0.length c0] ?_;(with_reducible refine (spec_ArePaths.calls k _ _ l0 true _ ?_ ?_ A2.out).mono ?_);exact cO HR0;exact HC0.out;rintro e w5 ⟨rfl,hb⟩;refine ⟨_,rfl,?_⟩;replace HB:=bs HB hb;(try clear hb))|((with_reducible refine gate_dst (N:=8) rfl ?_);refine Kd.R_lit (Kd.int .i64) _ 3 ?hg (N:=8) ?hd (xs:=([]:List Int)) (inner:=[]) (ok:=fun _=>True) (okp:=fun _=>True) ?hr ?hp (fun _ hk=>hk) trivial (Below.refl _ _) (Nat.le_refl _) (by simp) ?_;(case hd=>rfl);(case hg=>rfl);(case hr=>first|(go_simp;done)|(go_simp;rfl));(case hp=>exact (Reps.none _ _));intro v312 w6 ho7 hb hg_ hnew_;clear hg_ hnew_;(first|rw [← Ny311.out] at ho7|(simp only [Int.reduceToNat] at ho7;rw [← Ny311.out] at ho7));have HO313:=rl w ho7;replace HB:=bs HB hb;clear hb ho7)|((with_reducible refine gate_dst (N:=9) rfl ?_);refine Kd.S_lit (Kd.slice 3 (Kd.int .i64)) _ 25 ?hg (N:=9) ?hd (xs:=([]:List (List Int))) (inner:=[]) (ok:=fun _=>True) (okp:=fun _=>True) ?hr ?hp (fun _ hk=>hk) trivial (Below.refl _ _) (Nat.le_refl _) (by simp) ?_;(case hd=>rfl);(case hg=>rfl);(case hr=>first|(go_simp;done)|(go_simp;rfl));(case hp=>exact (Reps.none _ _));intro v315 w8 ho9 hb hg_ hnew_;clear hg_ hnew_;(first|rw [← Ny314.out] at ho9|(simp only [Int.reduceToNat] at ho9;rw [← Ny314.out] at ho9));have HO316:=Aside0.mk (Kd.S_lower (Kd.S_new' ho9 (Kd.R_lt (rK HO313))) (below_size bA));replace HO313:=rb HO313 hb;replace HB:=bs HB hb;clear hb ho9;obtain ⟨Ao10,co10,eo10⟩:=Kd.R_slice HO313.out;subst eo10;obtain ⟨Ao11,co11,eo11⟩:=Kd.S_slice HO316.out;subst eo11)|((with_reducible refine gate_callee (f:=84) rfl ?_);refine gL (some 10) Tryz.func84 #[.slice A0 l0.length c0,.int .i64 0,.slice Ao10 y311.length co10,.slice Ao11 y314.length co11] ?_;(with_reducible refine (spec_l6Search.calls k (fun i=>True∧some i≠(.slice Ao10 y311.length co10:Value).ownBlock) (fun i=>some i=(.slice Ao10 y311.length co10:Value).ownBlock) _ _ l0 0 _ y311 _ y314 t317 w _ ?_ ?_ ?_ ?_ ?_ ?_ A4.out).mono ?_);exact bA;exact HR0.out;exact HC0.out;exact Kd.R_tight rfl (rK HO313);exact sK HO316;exact (fun i hi hp=>hp.2 hi);rintro e w12 ⟨v318,rfl,ho0,hb,hk⟩;refine ⟨_,rfl,?_⟩;have HO319:=Aside0.mk ho0;clear HB hk;have HB:=Aside0.mk hb;clear hb ho0))
  go_ret
  exact ⟨_,rA,sm HO319 (fun _ hk=>trivial),bA⟩
 replace c3:=Bool.eq_false_iff.mpr c3
 subst c3
 have H1:(some (([]:List (List Int))))=some r:=by rw [if_neg (show ¬ (false=true) by decide)] at H;exact H
 clear H
 have H:=H1
 clear H1
 obtain ⟨y320,hy320⟩:∃ y_:List (List Int),y_=(([]:List (List Int))):=⟨_,rfl⟩
 replace H:(some y320)=some r:=rH H hy320
 have Ny320:=Aside0.mk hy320
 clear hy320
 obtain rfl:=Option.some.inj H
 go_enter Tryz.func76,Tryz.ntmps76
 go_wp2_with (first|((with_reducible refine gate_callee (f:=83) rfl ?_);refine gL (some 4) Tryz.func83 #[.slice A0 l0.length c0] ?_;(with_reducible refine (spec_ArePaths.calls k _ _ l0 false _ ?_ ?_ A2.out).mono ?_);exact cO HR0;exact HC0.out;rintro e w13 ⟨rfl,hb⟩;refine ⟨_,rfl,?_⟩;replace HB:=bs HB hb;(try clear hb))|((with_reducible refine gate_dst (N:=6) rfl ?_);refine Kd.S_lit (Kd.slice 3 (Kd.int .i64)) _ 25 ?hg (N:=6) ?hd (xs:=([]:List (List Int))) (inner:=[]) (ok:=fun _=>True) (okp:=fun _=>True) ?hr ?hp (fun _ hk=>hk) trivial (Below.refl _ _) (Nat.le_refl _) (by simp) ?_;(case hd=>rfl);(case hg=>rfl);(case hr=>first|(go_simp;done)|(go_simp;rfl));(case hp=>exact (Reps.none _ _));intro v321 w14 ho15 hb hg_ hnew_;clear hg_ hnew_;(first|rw [← Ny320.out] at ho15|(simp only [Int.reduceToNat] at ho15;rw [← Ny320.out] at ho15));have HO322:=sl w ho15;replace HB:=bs HB hb;clear hb ho15))
 go_ret
 exact ⟨_,rA,sK HO322,bA⟩

end Go.Proofs.YtjgonpcajedkjaaGreat.P
