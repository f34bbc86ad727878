/- Tools for pure statements: what a function with rounds comes to from some number of rounds on. -/
import Derived.Test.YtjgonpcajedkjaaGreatWWords
namespace Go.Proofs.YtjgonpcajedkjaaGreat.U
open Go.RowKit Go.Proofs.YtjgonpcajedkjaaGreatW.PrintWords

theorem ev_rounds {α:Type} {g:Nat→Option α} {r:α} (h:Ev g r):∃ k,g k=some r:=by
  obtain ⟨K,h⟩:=h
  exact ⟨K,h K (Nat.le_refl _)⟩
theorem ev_of {α:Type} {g:Nat→Option α} {r:α} (hg:∀ k,LeO (g k) (g (k + 1))) {k:Nat} (h:g k=some r):Ev g r:=by
  have all:∀ d,g (k + d)=some r:=by
    intro d
    induction d with
    | zero=>exact h
    | succ d ih=>exact hg (k + d) _ ih
  refine ⟨k,fun m hm=>?_⟩
  have e:=all (m - k)
  rwa [Nat.add_sub_cancel' hm] at e
theorem ev_now {α:Type} {r r':α} (h:r=r'):Ev (fun _=>some r) r':=by rw [h];exact Ev.now _
theorem ev_t {α:Type} {c:Prop} [Decidable c] {f g:Nat→Option α} {r:α} (h:c) (hf:Ev f r):Ev (fun k=>if c then f k else g k) r :=
  Ev.congr (fun _=>if_pos h) hf
theorem ev_f {α:Type} {c:Prop} [Decidable c] {f g:Nat→Option α} {r:α} (h:¬ c) (hf:Ev g r):Ev (fun k=>if c then f k else g k) r :=
  Ev.congr (fun _=>if_neg h) hf
theorem ev_ite {α:Type} {c:Prop} [Decidable c] {f g:Nat→Option α} {r:α} (h1:c→Ev f r) (h2:¬ c→Ev g r):Ev (fun k=>if c then f k else g k) r:=by
  by_cases h:c
  · exact ev_t h (h1 h)
  · exact ev_f h (h2 h)
theorem ev_dt {α:Type} {p:Prop} [Decidable p] {f g:Nat→Option α} {r:α} (h:p) (hf:Ev f r):Ev (fun k=>if decide p=true then f k else g k) r:=ev_t (decide_eq_true h) hf
theorem ev_df {α:Type} {p:Prop} [Decidable p] {f g:Nat→Option α} {r:α} (h:¬ p) (hf:Ev g r):Ev (fun k=>if decide p=true then f k else g k) r:=ev_f (fun hd=>h (of_decide_eq_true hd)) hf
/-- A callee without rounds. -/
theorem ev_call {α β:Type} {g:Option α} {f:Nat→α→Option β} {a:α} {r:β} (h:g=some a) (k:Ev (fun n=>f n a) r):Ev (fun n=>g.bind (f n)) r:=by
  subst h;exact k
theorem ev_some {α β:Type} {f:Nat→α→Option β} {a:α} {r:β} (k:Ev (fun n=>f n a) r):Ev (fun n=>(some a).bind (f n)) r:=k
/-- A loop whose state is told by the index: n rounds, then the end. -/
theorem ev_for {β:Type} {F:Nat→Nat→Option β} {r:β} (n:Nat) (hstep:∀ i,i < n→Ev (fun k=>F k (i + 1)) r→Ev (fun k=>F k i) r) (hend:Ev (fun k=>F k n) r) :
    ∀ d i,i + d=n→Ev (fun k=>F k i) r
  | 0,i,h=>by
    have:i=n:=by omega
    subst this
    exact hend
  | d + 1,i,h=>hstep i (by omega) (ev_for n hstep hend d (i + 1) (by omega))
theorem ev_for0 {β:Type} {F:Nat→Nat→Option β} {r:β} (n:Nat) (hstep:∀ i,i < n→Ev (fun k=>F k (i + 1)) r→Ev (fun k=>F k i) r) (hend:Ev (fun k=>F k n) r):Ev (fun k=>F k 0) r :=
  ev_for n hstep hend n 0 (by omega)
noncomputable def bo (p:Prop):Bool:=@decide p (Classical.propDecidable p)
theorem bo_iff {p:Prop}:bo p=true↔p:=@decide_eq_true_iff p (Classical.propDecidable p)
theorem bo_t {p:Prop} (h:p):bo p=true:=bo_iff.2 h
theorem bo_f {p:Prop} (h:¬ p):bo p=false:=by
  cases hb:bo p with
  | false=>rfl
  | true=>exact absurd (bo_iff.1 hb) h
theorem bo_eq {p:Prop} {b:Bool} (h:b=true↔p):bo p=b:=by
  cases b with
  | true=>exact bo_t (h.1 rfl)
  | false=>exact bo_f (fun hp=>by cases h.2 hp)
theorem bo_congr {p q:Prop} (h:p↔q):bo p=bo q:=bo_eq (bo_iff.trans h.symm)
theorem bo_decide {p:Prop} [Decidable p]:bo p=decide p:=bo_eq decide_eq_true_iff
theorem first_fail {P:Nat→Prop}:∀ n,(¬ ∀ i,i < n→P i)→∃ m,m < n∧¬ P m∧∀ i,i < m→P i
  | 0,h=>absurd (fun i hi=>absurd hi (by omega)) h
  | n + 1,h=>by
    by_cases h1:∀ i,i < n→P i
    · refine ⟨n,by omega,fun hn=>h (fun i hi=>?_),h1⟩
      rcases Nat.lt_or_ge i n with h2|h2
      · exact h1 i h2
      · have:i=n:=by omega
        subst this;exact hn
    · obtain ⟨m,h2,h3,h4⟩:=first_fail n h1
      exact ⟨m,by omega,h3,h4⟩
/-- A loop that answers 'no' at the first index where P fails. -/
theorem ev_all {F:Nat→Nat→Option Bool} (P:Nat→Prop) (n:Nat) {b:Bool} (hstep:∀ i,i < n→P i→∀ r,Ev (fun k=>F k (i + 1)) r→Ev (fun k=>F k i) r) (hfail:∀ i,i < n→¬ P i→Ev (fun k=>F k i) false)
    (hend:(∀ i,i < n→P i)→Ev (fun k=>F k n) b):Ev (fun k=>F k 0) (bo (∀ i,i < n→P i) && b):=by
  by_cases h:∀ i,i < n→P i
  · rw [bo_t h,Bool.true_and]
    exact ev_for0 n (fun i hi=>hstep i hi (h i hi) _) (hend h)
  · rw [bo_f h,Bool.false_and]
    obtain ⟨m,hm,h1,h2⟩:=first_fail n h
    exact ev_for0 m (fun i hi=>hstep i (by omega) (h2 i hi) _) (hfail m hm h1)
/-- The same, where a step may lean on the indices ahead of it. -/
theorem ev_all2 {F:Nat→Nat→Option Bool} (P:Nat→Prop) (n:Nat) {b:Bool} (hstep:∀ i,i < n→(∀ j,j < i→P j)→P i→∀ r,Ev (fun k=>F k (i + 1)) r→Ev (fun k=>F k i) r) (hfail:∀ i,i < n→(∀ j,j < i→P j)→¬ P i→Ev (fun k=>F k i) false)
    (hend:(∀ i,i < n→P i)→Ev (fun k=>F k n) b):Ev (fun k=>F k 0) (bo (∀ i,i < n→P i) && b):=by
  by_cases h:∀ i,i < n→P i
  · rw [bo_t h,Bool.true_and]
    exact ev_for0 n (fun i hi=>hstep i hi (fun j hj=>h j (by omega)) (h i hi) _) (hend h)
  · rw [bo_f h,Bool.false_and]
    obtain ⟨m,hm,h1,h2⟩:=first_fail n h
    exact ev_for0 m (fun i hi=>hstep i (by omega) (fun j hj=>h2 j (by omega)) (h2 i hi) _) (hfail m hm h2 h1)
theorem w64 {n:Int} (h0:-9223372036854775808≤n) (h1:n≤9223372036854775807):wrap64 n=n:=by unfold wrap64;omega
theorem w_succ {i n:Nat} (h:i < n) (hn:n≤9223372036854775807):wrap64 ((i:Int) + 1)=((i + 1:Nat):Int):=by unfold wrap64;omega
theorem rd_at (l:List Int) (i:Nat) (h:i < l.length):rd l (i:Int)=l[i]:=by
  unfold rd;simp [List.getD_eq_getElem?_getD,List.getElem?_eq_getElem h]
/-- A count and a list of some length come out. -/
def Ends {α:Type} (f:Nat→Option (Int × List α)) (v:Int) (n:Nat):Prop:=∃ y,y.length=n∧Ev f (v,y)
theorem Ends.now {α:Type} {v v':Int} {y:List α} {n:Nat} (h:y.length=n) (hv:v=v'):Ends (fun _=>some (v,y)) v' n:=⟨y,h,by rw [hv];exact Ev.now _⟩
theorem Ends.step {α:Type} {f f':Nat→Option (Int × List α)} {v:Int} {n:Nat} (h:∀ k,f (k + 1)=f' k) (hf:Ends f' v n):Ends f v n:=by
  obtain ⟨y,h1,h2⟩:=hf;exact ⟨y,h1,Ev.step h h2⟩
theorem Ends.t {α:Type} {c:Prop} [Decidable c] {f g:Nat→Option (Int × List α)} {v:Int} {n:Nat} (h:c) (hf:Ends f v n):Ends (fun k=>if c then f k else g k) v n:=by
  obtain ⟨y,h1,h2⟩:=hf;exact ⟨y,h1,ev_t h h2⟩
theorem Ends.f {α:Type} {c:Prop} [Decidable c] {f g:Nat→Option (Int × List α)} {v:Int} {n:Nat} (h:¬ c) (hf:Ends g v n):Ends (fun k=>if c then f k else g k) v n:=by
  obtain ⟨y,h1,h2⟩:=hf;exact ⟨y,h1,ev_f h h2⟩
theorem Ends.some {α β:Type} {f:Nat→β→Option (Int × List α)} {a:β} {v:Int} {n:Nat} (hf:Ends (fun k=>f k a) v n):Ends (fun k=>(Option.some a).bind (f k)) v n:=by
  obtain ⟨y,h1,h2⟩:=hf;exact ⟨y,h1,ev_some h2⟩
end Go.Proofs.YtjgonpcajedkjaaGreat.U
