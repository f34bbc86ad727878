/- What a law's argument reads as, kind by kind: the reader's datum gives a value of the kind. -/
import Derived.Test.YtjgonpcajedkjaaGreatWWords
import Derived.ChangeArms
import Derived.ChangeSlices
import Derived.DataReads
import Derived.WideShapes
namespace Go.Proofs.YtjgonpcajedkjaaGreat.Open
open Go.RowKit Go.Proofs.YtjgonpcajedkjaaGreatW.PrintWords

def okI (a:Int):Prop:=(Lit.int .i64 a).wf=true
def okB (_:Bool):Prop:=True
def okU (a:Int):Prop:=(Lit.int .u8 a).wf=true
def okL {α:Type} (ok:α→Prop) (l:List α):Prop:=l.length≤maxLen∧∀ a∈l,ok a

theorem okI_iff {a:Int} (h:okI a):-9223372036854775808≤a∧a≤9223372036854775807:=by
  unfold okI at h
  simpa [Lit.wf,IntKind.min,IntKind.max,IntKind.signed,IntKind.bits] using h

theorem okU_iff {a:Int} (h:okU a):0≤a∧a≤255:=by
  unfold okU at h
  simpa [Lit.wf,IntKind.min,IntKind.max,IntKind.signed,IntKind.bits] using h

/-- At type t whatever the reader takes reads as kind d. -/
def Opens {H:Type} (enc:TypeId × Value→H) (P:Program) (t:TypeId) {α:Type} (d:Kd α) (ok:α→Prop):Prop :=
  ∀ (w:World) (fuel:Nat) (cs:List Value) (x:DataW H × List MemPlace),DataW.trod enc P w 0 (fun _=>true) true fuel t cs=some x→∃ a:α,d.K w a cs∧ok a
/-- The same for a struct's fields from the offset off on. -/
def OpensF {H:Type} (enc:TypeId × Value→H) (P:Program) (fs:List Field) (off:Nat) {α:Type} (d:Kd α) (ok:α→Prop):Prop :=
  ∀ (w:World) (n:Nat) (cs:List Value),cs.length=off + d.sz →
    (∀ f∈fs,∃ x,DataW.trod enc P w 0 (fun _=>true) true n f.type ((cs.drop f.offset).take (P.cellsOf f.type))=some x)→∃ a:α,d.K w a (cs.drop off)∧ok a

section
variable {H:Type} {enc:TypeId × Value→H} {P:Program}

theorem opens_int {t:TypeId} (hu:P.underlying t=some (.int .i64)):Opens enc P t (Kd.int .i64) okI:=by
  intro w fuel cs x h
  obtain ⟨n,rfl,_,hw⟩:=DataW.trod_int hu h
  exact ⟨n,rfl,hw⟩
theorem opens_u8 {t:TypeId} (hu:P.underlying t=some (.int .u8)):Opens enc P t (Kd.int .u8) okU:=by
  intro w fuel cs x h
  obtain ⟨n,rfl,_,hw⟩:=DataW.trod_int hu h
  exact ⟨n,rfl,hw⟩
theorem opens_bool {t:TypeId} (hu:P.underlying t=some .bool):Opens enc P t Kd.bool okB:=by
  intro w fuel cs x h
  obtain ⟨b,rfl,_⟩:=DataW.trod_bool hu h
  exact ⟨b,rfl,trivial⟩

theorem list_of {α:Type} {R:Nat→α→Prop}:∀ n:Nat,(∀ i,i < n→∃ y,R i y)→∃ l:List α,l.length=n∧∀ i y,l[i]?=some y→R i y
  | 0,_=>⟨[],rfl,fun i y h=>by simp at h⟩
  | n + 1,h=>by
    obtain ⟨l,hl,hr⟩:=list_of n (fun i hi=>h i (by omega))
    obtain ⟨y,hy⟩:=h n (by omega)
    refine ⟨l ++ [y],by simp [hl],fun i z hz=>?_⟩
    rcases Nat.lt_or_ge i l.length with hi|hi
    · rw [List.getElem?_append_left hi] at hz
      exact hr i z hz
    · rw [List.getElem?_append_right hi] at hz
      have hi2:i - l.length=0:=by
        rcases Nat.eq_zero_or_pos (i - l.length) with h0|h0
        · exact h0
        · rw [List.getElem?_eq_none (by simp;omega)] at hz
          cases hz
      rw [hi2] at hz
      simp at hz
      subst hz
      have:i=n:=by omega
      subst this
      exact hy
theorem addr_add2 (a:Addr) (i j:Nat):(a.add i).add j=a.add (i + j):=by
  unfold Addr.add
  by_cases h1:i=0 <;> by_cases h2:j=0 <;> simp [h1,h2,Nat.add_assoc]

theorem opens_slice {t e:TypeId} {α:Type} {d:Kd α} {ok:α→Prop} (hu:P.underlying t=some (.slice e)) (hc:P.cellsOf e=d.sz) (he:Opens enc P e d ok) :
    Opens enc P t (Kd.slice e d) (okL ok):=by
  intro w fuel cs x h
  rcases DataW.trod_slice hu h with ⟨rfl,_⟩|⟨a,len,cap,elems,rest,n,_,rfl,_,_,hl,hm,hlen,hel,_,_⟩
  · exact ⟨[],⟨none,0,rfl,Nat.le_refl _,Kd.C_nil _ _⟩,by simp,by simp⟩
  · obtain ⟨l,hll,hlr⟩:=list_of (R:=fun i y=>∃ cs',w.cells? 0 (a.add (i * d.sz)) d.sz=some cs'∧d.K w y cs'∧ok y) len (fun i hi=>by
      have h1:=hel i hi
      rw [List.getElem?_eq_getElem (by omega),Option.bind_eq_some_iff] at h1
      obtain ⟨cs',hcs,hy⟩:=h1
      rw [hc] at hcs
      obtain ⟨y,hk,ho⟩:=he w n cs' _ hy
      exact ⟨y,cs',hcs,hk,ho⟩)
    subst hll
    have hml:l.length≤9223372036854775807:=by
      have h1:l.length≤maxLen:=Nat.le_trans hl hm
      simpa [maxLen] using h1
    refine ⟨l,⟨some a,cap,rfl,hl,rfl,hml,fun _=>⟨a,rfl,fun j p hp=>?_⟩⟩,Nat.le_trans hl hm,fun y hy=>?_⟩
    · obtain ⟨cs',hcs,hk,_⟩:=hlr j p hp
      refine ⟨cs',d.K_len hk,hk,fun i u hi=>?_⟩
      obtain ⟨_,hlen',hget⟩:=World.cells?_some hcs
      have hi':i < d.sz:=by
        have:=(List.getElem?_eq_some_iff.1 hi).1
        omega
      have:=hget i hi'
      rw [hi,addr_add2] at this
      exact this
    · obtain ⟨i,hi⟩:=List.getElem?_of_mem hy
      obtain ⟨_,_,_,ho⟩:=hlr i y hi
      exact ho

theorem opensF_last {f:Field} {off:Nat} {α:Type} {d:Kd α} {ok:α→Prop} (ho:f.offset=off) (hc:P.cellsOf f.type=d.sz) (h0:Opens enc P f.type d ok):OpensF enc P [f] off d ok:=by
  intro w n cs hl h
  obtain ⟨x,hx⟩:=h f (by simp)
  rw [ho,hc,List.take_of_length_le (by rw [List.length_drop];omega)] at hx
  exact h0 w n _ x hx
theorem opensF_cons {f:Field} {fs:List Field} {off:Nat} {α β:Type} {d:Kd α} {d':Kd β} {ok:α→Prop} {ok':β→Prop} (ho:f.offset=off) (hc:P.cellsOf f.type=d.sz) (h0:Opens enc P f.type d ok)
    (h1:OpensF enc P fs (off + d.sz) d' ok'):OpensF enc P (f::fs) off (Kd.pair d d') (fun x=>ok x.1∧ok' x.2):=by
  intro w n cs hl h
  obtain ⟨x,hx⟩:=h f (by simp)
  rw [ho,hc] at hx
  obtain ⟨a,ha,hok⟩:=h0 w n _ x hx
  have hsz:(Kd.pair d d').sz=d.sz + d'.sz:=rfl
  obtain ⟨b,hb,hok'⟩:=h1 w n cs (by omega) (fun g hg=>h g (by simp [hg]))
  refine ⟨(a,b),⟨(cs.drop off).take d.sz,cs.drop (off + d.sz),?_,ha,hb⟩,hok,hok'⟩
  rw [← List.drop_drop,List.take_append_drop]
theorem opens_struct {t:TypeId} {fs:Array Field} {α β:Type} {d:Kd α} {f:β→α} {g:α→β} {ok:α→Prop} (hfg:∀ a,f (g a)=a) (hu:P.underlying t=some (.struct fs)) (hc:P.cellsOf t=d.sz) (h:OpensF enc P fs.toList 0 d ok) :
    Opens enc P t (Kd.iso d f) (fun b=>ok (f b)):=by
  intro w fuel cs x hx
  obtain ⟨xs,n,_,_,hl,hxl,hi⟩:=DataW.trod_struct hu hx
  obtain ⟨a,ha,ho⟩:=h w n cs (by omega) (fun fl hfl=>by
    obtain ⟨i,hi1⟩:=List.getElem?_of_mem hfl
    have hlt:i < fs.size:=by
      have:=(List.getElem?_eq_some_iff.1 hi1).1
      simpa using this
    refine ⟨xs[i]'(by omega),?_⟩
    have h2:=hi i fl (by simpa using hi1)
    rw [h2,List.getElem?_eq_getElem (by omega)])
  refine ⟨g a,?_,?_⟩
  · show d.K w (f (g a)) cs
    rw [hfg]
    simpa using ha
  · show ok (f (g a))
    rw [hfg]
    exact ho
end
end Go.Proofs.YtjgonpcajedkjaaGreat.Open
