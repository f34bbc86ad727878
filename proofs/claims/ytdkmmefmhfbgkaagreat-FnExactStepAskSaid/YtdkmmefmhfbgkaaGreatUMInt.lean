/- Lemmas on the laws' own helpers: copies, comparisons, sizes. Written by genul.py. -/
import Derived.Test.YtdkmmefmhfbgkaaGreatFX00d
import Derived.Test.YtdkmmefmhfbgkaaGreatURd
set_option linter.unusedVariables false
set_option linter.unusedSimpArgs false
namespace Go.Proofs.YtdkmmefmhfbgkaaGreat.U
open Go.RowKit Go.Proofs.YtdkmmefmhfbgkaaGreatW.PrintWords Go.Proofs.YtdkmmefmhfbgkaaGreatW.PrintLast Go.Proofs.YtdkmmefmhfbgkaaGreatW.PrintMore Go.Proofs.YtdkmmefmhfbgkaaGreat.P Go.Proofs.YtdkmmefmhfbgkaaGreat.Open
def marks (l:List Int) (a:Int):Nat→List Int
  | 0=>l
  | i + 1=>(marks l a i).set i (a + i)
theorem marks_len (l:List Int) (a:Int):∀ i,(marks l a i).length=l.length
  | 0=>rfl
  | i + 1=>by unfold marks;rw [List.length_set];exact marks_len l a i
theorem marks_rd (l:List Int) (a:Int):∀ i j:Nat,j < i→j < l.length→rd (marks l a i) (j:Int)=a + j
  | 0,j,h,_=>absurd h (by omega)
  | i + 1,j,h,hl=>by
    have hi:=marks_len l a i
    rw [rd_at _ j (by rw [marks_len];exact hl)]
    unfold marks
    rw [List.getElem_set]
    by_cases e:i=j
    · rw [if_pos e,e]
    · rw [if_neg e,← rd_at _ j (by rw [hi];exact hl)]
      exact marks_rd l a i j (by omega) hl
theorem markIntS (l:List Int) (a:Int) (ha:0≤a) (ha1:a≤1152921504606846976) (h:l.length≤1099511627776):Ev (fun k=>laws_markIntS.f k l a) (a + l.length,marks l a l.length):=by
  unfold laws_markIntS.f
  have e:Ev (fun k=>laws_markIntS.l0 k (marks l a 0) (a + ((0:Nat):Int)) ((0:Nat):Int)) (a + l.length,marks l a l.length):=by
    refine ev_for0 (F:=fun k i=>laws_markIntS.l0 k (marks l a i) (a + (i:Int)) (i:Int)) l.length (fun i hi ih=>?_) ?_
    · have hm:=marks_len l a i
      refine Ev.step (fun k=>by rw [laws_markIntS.l0]) (ev_t (by rw [hm];omega) (ev_t (by omega) ?_))
      rw [Int.toNat_natCast,w_succ hi (by omega),w64 (by omega) (by omega),show a + (i:Int) + 1=a + ((i + 1:Nat):Int) by omega]
      exact ih
    · have hm:=marks_len l a l.length
      exact Ev.step (fun k=>by rw [laws_markIntS.l0]) (ev_f (by rw [hm];omega) (Ev.now _))
  have e0:a + ((0:Nat):Int)=a:=by omega
  rw [e0] at e
  exact e
end Go.Proofs.YtdkmmefmhfbgkaaGreat.U
