/- FnShared, the pure side: shared green is a plan with the same stages that is not longer than the cycle, and as long if no part is full. -/
import Derived.Test.YtjgonpcajedkjaaFX00
import Derived.Test.YtjgonpcajedkjaaFX00d
import Derived.Test.YtjgonpcajedkjaaUDraw11
import Derived.Test.YtjgonpcajedkjaaUShare
import Derived.Test.YtjgonpcajedkjaaUPart
import Derived.Test.YtjgonpcajedkjaaUEqPlans
import Derived.Test.YtjgonpcajedkjaaArgs
set_option linter.unusedVariables false
set_option linter.unusedSimpArgs false
namespace Go.Proofs.Ytjgonpcajedkjaa.U
open Go.RowKit Go.Proofs.YtjgonpcajedkjaaW.PrintWords Go.Proofs.YtjgonpcajedkjaaW.PrintLast Go.Proofs.Ytjgonpcajedkjaa.P Go.Proofs.Ytjgonpcajedkjaa.Open
theorem epV_self (a : List S85) : epV a a = true := by
  unfold epV
  rw [if_pos rfl, bo_t (fun i hi => ⟨rfl, rfl⟩)]
  rfl
theorem isum_add (f g : Nat → Int) : ∀ n, isum (fun j => f j + g j) n = isum f n + isum g n
  | 0 => rfl
  | n + 1 => by rw [isum_succ, isum_succ, isum_succ, isum_add f g n]; omega
theorem isum_le {f g : Nat → Int} : ∀ n, (∀ j, j < n → f j ≤ g j) → isum f n ≤ isum g n
  | 0, _ => Int.le_refl _
  | n + 1, h => by
    have h1 := isum_le n (fun j hj => h j (by omega))
    have h2 := h n (by omega)
    rw [isum_succ, isum_succ]; omega
theorem isum_eq {f g : Nat → Int} : ∀ n, (∀ j, j < n → f j = g j) → isum f n = isum g n
  | 0, _ => rfl
  | n + 1, h => by
    have h1 := isum_eq n (fun j hj => h j (by omega))
    have h2 := h n (by omega)
    rw [isum_succ, isum_succ]; omega
theorem isum_one (L : Int) (h0 : 0 ≤ L) : ∀ n : Nat, isum (fun j => if (j : Int) < L then 1 else 0) n = min (n : Int) L
  | 0 => by simp [isum]; omega
  | n + 1 => by
    rw [isum_succ, isum_one L h0 n]
    by_cases c : (n : Int) < L
    · rw [if_pos c]; omega
    · rw [if_neg c]; omega
theorem mkP_stgs (p : List S85) (g : Nat → Int) : stgs (mkP p g) = stgs p := by
  apply List.ext_getElem
  · rw [stgs_len, stgs_len, mkP_len]
  · intro i h1 h2
    rw [stgs_len] at h2
    simp only [stgs, mkP, List.getElem_map, List.getElem_range]
    rw [rd85 p i h2]
theorem mkP_plan {l : List S50} {p : List S85} {g : Nat → Int} (hp : plan l p = true) (hg : ∀ i : Nat, i < p.length → leastG l (rd_T85 p (i : Int)).f0 ≤ g i ∧ g i ≤ 60) : plan l (mkP p g) = true := by
  have pl := plan_len hp
  rw [plan_t (by rw [mkP_len]; omega), mkP_stgs]
  have h2 := hp
  rw [plan_t (by omega), Bool.and_eq_true] at h2
  rw [h2.2, Bool.and_true]
  refine bo_t (fun i hi => ?_)
  rw [mkP_len] at hi
  obtain ⟨q1, q2, _, _⟩ := plan_at hp hi
  unfold pOk
  rw [mkP_rd hi]
  exact ⟨q1, q2, hg i hi⟩
theorem mkP_clN {l : List S50} {p : List S85} {g : Nat → Int} {i : Nat} (hi : i < p.length) : clN l (mkP p g) (i : Int) = clN l p (i : Int) := by
  have b := nx_bound hi
  obtain ⟨m, hm⟩ : ∃ m : Nat, nx p (i : Int) = (m : Int) := ⟨(nx p (i : Int)).toNat, by omega⟩
  have e : nx (mkP p g) (i : Int) = nx p (i : Int) := by unfold nx; rw [mkP_len]
  unfold clN
  rw [e, hm, mkP_rd hi, mkP_rd (by omega)]
theorem mkP_cyc {l : List S50} {p : List S85} {g : Nat → Int} : ∀ i : Nat, i ≤ p.length → cyc l (mkP p g) i = isum (fun j => g j + clN l p (j : Int)) i
  | 0, _ => rfl
  | i + 1, h => by
    rw [cyc_succ, isum_succ, mkP_cyc i (by omega)]
    unfold longV
    rw [mkP_clN (by omega), mkP_rd (by omega)]
theorem spN_sum (l : List S50) (p : List S85) (a : Int) : ∀ i : Nat, spN l p a i = a - isum (fun j => leastG l (rd_T85 p (j : Int)).f0 + clN l p (j : Int)) i
  | 0 => by simp [spN, isum]
  | i + 1 => by
    rw [isum_succ, show spN l p a (i + 1) = spN l p a i - leastG l (rd_T85 p (i : Int)).f0 - clN l p (i : Int) from rfl, spN_sum l p a i]; omega
noncomputable def gr3 (l : List S50) (p : List S85) (d : List S120) (s : Int) (i : Nat) : Int := gr1 l p d s i + (if (i : Int) < lft p d s then 1 else 0)
theorem gr2_le (l : List S50) (p : List S85) (d : List S120) (s : Int) (i : Nat) : gr2 l p d s i ≤ gr3 l p d s i := by unfold gr2 gr3; omega
theorem gr2_eq {l : List S50} {p : List S85} {d : List S120} {s : Int} {i : Nat} (h : gr2 l p d s i ≠ 60) : gr2 l p d s i = gr3 l p d s i := by unfold gr2 gr3 at *; omega
theorem gr2_bound {l : List S50} {p : List S85} {d : List S120} {s : Int} (h : Sh l p d s) (i : Nat) : leastG l (rd_T85 p (i : Int)).f0 ≤ gr2 l p d s i ∧ gr2 l p d s i ≤ 60 := by
  have h1 := h.shr i
  have h2 := leastG_bound l (rd_T85 p (i : Int)).f0
  unfold gr2 gr1
  by_cases c : (i : Int) < lft p d s
  · rw [if_pos c]; omega
  · rw [if_neg c]; omega
theorem gr3_sum {l : List S50} {p : List S85} {d : List S120} {a : Int} (h : shOk l p d a) : isum (fun j => gr3 l p d (spV l p a) j + clN l p (j : Int)) p.length = a := by
  obtain ⟨_, _, _, e⟩ := spV_at h.1
  have hs := h.sh
  rw [spN_sum] at e
  have lb := hs.left
  generalize spV l p a = s at e hs lb ⊢
  have e1 := isum_one (lft p d s) lb.1 p.length
  have e2 := isum_add (fun j => leastG l (rd_T85 p (j : Int)).f0 + clN l p (j : Int)) (shr p d s) p.length
  have e3 := isum_add (fun j => leastG l (rd_T85 p (j : Int)).f0 + clN l p (j : Int) + shr p d s j) (fun j => if (j : Int) < lft p d s then 1 else 0) p.length
  have e4 : lft p d s = s - isum (shr p d s) p.length := rfl
  rw [isum_eq (g := fun j => leastG l (rd_T85 p (j : Int)).f0 + clN l p (j : Int) + shr p d s j + (if (j : Int) < lft p d s then 1 else 0)) p.length (fun j _ => by unfold gr3 gr1; omega)]
  omega
def fl (q : List S85) : Nat → Bool
  | 0 => false
  | i + 1 => if fl q i = true then true else ((rd_T85 q (i : Int)).f1 == 60)
theorem fl_no (q : List S85) : ∀ n, ¬ fl q n = true → ∀ j : Nat, j < n → (rd_T85 q (j : Int)).f1 ≠ 60
  | 0, _, j, hj => by omega
  | n + 1, h, j, hj => by
    unfold fl at h
    by_cases c : fl q n = true
    · rw [if_pos c] at h; exact absurd rfl h
    · rw [if_neg c] at h
      rcases Nat.lt_or_ge j n with h1 | h1
      · exact fl_no q n c j h1
      · obtain rfl : j = n := by omega
        exact fun e => h (by rw [e]; rfl)
theorem impl_totalG {l : List S50} {q : List S85} (h : plan l q = true) : Ev (fun k => impl_TotalGreen.f k q) (isum (fun j => (rd_T85 q (j : Int)).f1) q.length) := by
  have pl := plan_len h
  unfold impl_TotalGreen.f
  have sb : ∀ i : Nat, i ≤ q.length → 5 * (i : Int) ≤ isum (fun j => (rd_T85 q (j : Int)).f1) i ∧ isum (fun j => (rd_T85 q (j : Int)).f1) i ≤ 60 * (i : Int) := fun i hi => isum_bound i (fun j hj => part_bound h (by omega))
  refine ev_for0 (F := fun k i => impl_TotalGreen.l0 k (isum (fun j => (rd_T85 q (j : Int)).f1) i) q (q.length : Int) (i : Int)) q.length (fun i hi ih => ?_) ?_
  · have b1 := sb i (by omega)
    have b2 := part_bound h hi
    refine Ev.step (fun k => by rw [impl_TotalGreen.l0]) (ev_t (by omega) (ev_t (by omega) (ev_t (by omega) ?_)))
    rw [w_succ hi (by omega), mx_eq, mn_eq, show max 0 (min (rd_T85 q (i : Int)).f1 1000) = (rd_T85 q (i : Int)).f1 by omega, w64 (n := isum _ i + _) (by omega) (by omega)]
    exact ih
  · refine Ev.step (fun k => by rw [impl_TotalGreen.l0]) ?_
    exact ev_f (by omega) (Ev.now _)
theorem FnShared : ∀ (x0 : List Int), (okL okU) x0 → ∃ k, laws_FnShared.f k x0 = some true := by
  intro c _
  refine ev_rounds ?_
  unfold laws_FnShared.f
  by_cases hbig : (c.length : Int) > 1048576
  · exact ev_call (show laws_big.f c = some true from congrArg some (decide_eq_true hbig)) (ev_t rfl (Ev.now _))
  refine ev_call (show laws_big.f c = some false from congrArg some (decide_eq_false hbig)) (ev_f (by decide) ?_)
  obtain ⟨l, p, d, a, e1, hl, hp, hd⟩ := drawShareGreen_ex c (by omega)
  have w : PW l p := hp.pw (by omega)
  have s1 := impl_shareGreen w d (by omega) a
  have s2 := impl_spareGreen w a
  have s3 := impl_areDetectors l d (by omega) (by omega)
  have hx := w.hx
  have hp1 := hp.1
  refine Ev.bind e1 (Ev.bind s1 ?_)
  by_cases ok : shOk l p d a
  · rw [shV_t ok]
    have sh := ok.sh
    have gs := gr3_sum ok
    generalize hS : spV l p a = s at sh gs s2 ⊢
    have hq : plan l (mkP p (gr2 l p d s)) = true := mkP_plan sh.hp (fun i _ => gr2_bound sh i)
    have hg : ∀ i : Nat, i < p.length → (rd_T85 (mkP p (gr2 l p d s)) (i : Int)).f1 = gr2 l p d s i := fun i hi => by rw [mkP_rd hi]
    have wq : PW l (mkP p (gr2 l p d s)) := ⟨w.hl, by rw [mkP_len]; exact w.hp, fun i hi => by rw [mkP_len] at hi; rw [mkP_rd hi]; exact hx i hi⟩
    have cq : cyc l (mkP p (gr2 l p d s)) p.length = isum (fun j => gr2 l p d s j + clN l p (j : Int)) p.length := mkP_cyc p.length (Nat.le_refl _)
    have cl0 : ∀ j : Nat, 0 ≤ clN l p (j : Int) := fun j => (clearB_bound l _ _).1
    have le1 : cyc l (mkP p (gr2 l p d s)) p.length ≤ a := by
      rw [cq, ← gs]
      exact isum_le _ (fun j _ => by have := gr2_le l p d s j; omega)
    have eq1 : (∀ j : Nat, j < p.length → gr2 l p d s j ≠ 60) → cyc l (mkP p (gr2 l p d s)) p.length = a := fun h => by
      rw [cq, ← gs]
      exact isum_eq _ (fun j hj => by rw [gr2_eq (h j hj)])
    have tg : isum (fun j => (rd_T85 (mkP p (gr2 l p d s)) (j : Int)).f1) p.length ≤ a := by
      refine Int.le_trans ?_ le1
      rw [cq]
      exact isum_le _ (fun j hj => by rw [hg j hj]; have := cl0 j; omega)
    have ss : ssV p (mkP p (gr2 l p d s)) = true := by
      unfold ssV
      rw [if_pos (by rw [mkP_len]), bo_t (fun i hi => by unfold ssP; rw [mkP_rd hi])]
      rfl
    have mono := fun i => cyc_mono hq (p.length - (i + 1)) (i + 1)
    have s4 := impl_sameStages p (mkP p (gr2 l p d s)) (by omega) hx wq.hx
    have hn : (mkP p (gr2 l p d s)).length = p.length := mkP_len _ _
    generalize mkP p (gr2 l p d s) = q at hq hg wq cq le1 eq1 tg ss s4 hn mono ⊢
    rw [ss] at s4
    have s5 := impl_isPlan l q wq.hl wq.hp wq.hx
    have s6 := impl_cycle wq
    rw [cycV_t hq, hn] at s6
    have s7 := impl_totalG hq
    rw [hn] at s7
    have hs0 := sh.s0
    have hs1 := sh.hd
    refine Ev.bind s4 (ev_t rfl (Ev.bind s2 (ev_t (by omega) (Ev.bind s3 ?_))))
    rw [hs1]
    refine Ev.step (fun k => by rw [laws_FnShared.j0]) (ev_f (fun hh => Bool.noConfusion hh) (ev_t rfl ?_))
    refine ev_for0 (F := fun k i => laws_FnShared.l0 k l a q (fl q i) (i : Int)) q.length (fun i hi ih => ?_) ?_
    · have g1 := impl_greenShare wq hq hi
      rw [hn] at hi g1
      have pb := part_bound hq (i := i) (by omega)
      have lb := long_bound hq (i := i) (by omega)
      have cb := cyc_bound hq i (by omega)
      have cs := cyc_succ l q i
      have ce : longV l q (i : Int) = (rd_T85 q (i : Int)).f1 + clN l q (i : Int) := rfl
      have c0 : 0 ≤ clN l q (i : Int) := (clearB_bound l _ _).1
      have mo := mono i
      rw [show i + 1 + (p.length - (i + 1)) = p.length by omega] at mo
      have mo := mo (by omega)
      have d0 : 0 ≤ 100 * (rd_T85 q (i : Int)).f1 / cyc l q p.length := Int.ediv_nonneg (by omega) (by omega)
      have d1 : 100 * (rd_T85 q (i : Int)).f1 / cyc l q p.length ≤ 100 := Int.ediv_le_of_le_mul (by omega) (by omega)
      have j2 : ∀ b, fl q (i + 1) = b → Ev (fun k => laws_FnShared.j2 k l a q b (i : Int)) true := fun b hb => by
        refine Ev.step (fun k => by rw [laws_FnShared.j2]) (Ev.bind g1 ?_)
        refine ev_f (by omega) (Ev.bind g1 ?_)
        refine ev_f (by omega) ?_
        rw [w_succ hi (by omega), ← hb]
        exact ih
      refine Ev.step (fun k => by rw [laws_FnShared.l0]) (ev_t (by omega) ?_)
      by_cases f : fl q i = true
      · exact ev_t f (j2 true (by rw [fl, if_pos f]))
      · exact ev_f f (ev_t (by omega) (j2 _ (by rw [fl, if_neg f])))
    · refine Ev.step (fun k => by rw [laws_FnShared.l0]) (ev_f (by omega) (Ev.bind s5 (ev_t hq (Ev.bind s6 ?_))))
      refine ev_f (by omega) ?_
      by_cases f : fl q q.length = true
      · refine ev_t f (Ev.bind s7 ?_)
        exact ev_f (by omega) (Ev.now _)
      · refine ev_f f (Ev.bind s6 (ev_t (eq1 (fun j hj => ?_)) (Ev.bind s7 ?_)))
        · rw [← hg j hj]
          exact fl_no q q.length f j (by omega)
        · exact ev_f (by omega) (Ev.now _)
  · rw [shV_f ok]
    have s4 := impl_sameStages p p (by omega) hx hx
    have ss : ssV p p = true := by
      unfold ssV
      rw [if_pos rfl, bo_t (show ∀ i, i < p.length → ssP p p i from fun i _ => rfl)]
      rfl
    rw [ss] at s4
    have s5 := impl_equalPlans p p (by omega) hx hx
    rw [epV_self p] at s5
    have tail : Ev (fun k => laws_FnShared.j0 k l p a p false false) true :=
      Ev.step (fun k => by rw [laws_FnShared.j0]) (ev_f (by decide) (ev_f (by decide) (Ev.bind s5 (ev_t rfl (Ev.now _)))))
    refine Ev.bind s4 (ev_t rfl (Ev.bind s2 ?_))
    by_cases h0 : spV l p a ≥ 0
    · have hD : areD l d = false := by
        cases hh : areD l d with
        | false => rfl
        | true => exact absurd ⟨h0, hh⟩ ok
      refine ev_t h0 (Ev.bind s3 ?_)
      rw [hD]
      exact tail
    · exact ev_f h0 tail
end Go.Proofs.Ytjgonpcajedkjaa.U
