/- Printed by myprint.py (wip/tools) over the kit's print: what Go's functions compute, and that they do. Lean checks it. -/
import Derived.Test.YtimmadeghcghoaaF0
import Derived.Test.YtimmadeghcghoaaFX00
import Derived.Test.YtimmadeghcghoaaFX00b
import Derived.Shelf.RegionOpenPlain
import Derived.Lib.Overlaps
import Derived.Laws.Externs
namespace Go.Proofs.Ytimmadeghcghoaa.P
open Go.RowKit Go.Proofs.YtimmadeghcghoaaW.PrintWords Go.Proofs.YtimmadeghcghoaaW.PrintLast Go.Proofs.YtimmadeghcghoaaW.PrintMore Go.Proofs.Ytimmadeghcghoaa.Sq
attribute [local go_sem] max2_int min2_int max_two min_two max_three min_three max_four min_four
set_option linter.unusedVariables false
set_option linter.unusedSimpArgs false

/-! ### impl_AddWant: function 51 -/
theorem impl_AddWant.one {α : Type} {R : α → List Value → Prop} {size : Nat} {ps : List α} {cs : List Value} (h : Reps R size ps cs) (hs : 0 < size) (hR : ∀ p c, R p c → ∀ u ∈ c, u.oneCell' = true) : ∀ u ∈ cs, u.oneCell' = true := by
 intro u hu
 obtain ⟨q, hq, rfl⟩ := List.mem_iff_getElem.1 hu
 have hj : q / size < ps.length := by
  rw [Nat.div_lt_iff_lt_mul hs, ← h.1]
  exact hq
 refine hR _ _ (h.2 (q / size) _ (List.getElem?_eq_getElem hj)) _ (List.mem_iff_getElem?.2 ⟨q % size, ?_⟩)
 rw [List.getElem?_take, if_pos (Nat.mod_lt _ hs), List.getElem?_drop, Nat.mul_comm, Nat.div_add_mod, List.getElem?_eq_getElem hq]
theorem impl_AddWant.cp {P : Program} (w : World) (t ty e : TypeId) (sz b o dLen dCap : Nat) (a : Addr) (sLen sCap q : Nat) (cs : List Value)
  (hu : P.underlying t = some (.slice e)) (hs : (P.info? e).map (·.size) = some sz) (hq : Nat.min sLen dLen = q) (hn : cs.length = q * sz)
  (hsrc : ∀ j v, cs[j]? = some v → w.cell? (a.add j) = some v) (hc : ∀ j, j < cs.length → (w.cell? ⟨b, o + j, none⟩).isSome = true) (hf : ∀ j, j < cs.length → w.frozen? ⟨b, o + j, none⟩ = false) (h1 : ∀ v ∈ cs, v.oneCell' = true) :
  (Builtin.copy_ #[t, t] ty #[.slice (some ⟨b, o, none⟩) dLen dCap, .slice (some a) sLen sCap]).run P w = .ok (goInt q) (w.setCells b o cs) := by
 have hst := run_storeCells_cells (P := P) b o cs 0 w (by simpa using hc) (by simpa using hf) h1
 simp only [Nat.add_zero] at hst
 cases hi : P.info? e with
 | none => simp [hi] at hs
 | some i =>
  have hz : i.size = sz := by simpa [hi] using hs
  subst hz
  have hfc := run_firstCells_some (P := P) w i.size q a sLen sCap cs hn hsrc
  simp [Builtin.copy_, run_underlying hu, Builtin.lenOf, sizeOf, typeInfo, hi, hq, hfc, hst]
theorem impl_AddWant.az {P : Program} (w : World) (t ti ty e : TypeId) (i : TypeInfo) (z : Value) (size bytes : Nat) (ht : P.underlying t = some (.slice e)) {k : IntKind} (hti : P.underlying ti = some (.int k)) (hi : P.info? e = some i) (hz : i.zero = some z)
  (hsize : i.size = size) (hby : i.bytes = bytes) (hzs : z.cells.size = size) (hsz : 0 < size) (hb0 : 0 < bytes)
  (A : Addr) (n cap : Nat) (xs : List Value) (hxl : xs.length = n * size) (hxc : ∀ j u, xs[j]? = some u → w.cell? (A.add j) = some u) (kx : IntKind) (m : Nat) (hm : ¬ m = 0) (hcap : cap < n + m)
  (hbytes : (n + m) * bytes ≤ 140737488355328) :
  ∃ C cells, (Builtin.append_ #[t, ti] ty #[.slice (some A) n cap, .int kx m]).run P w = .ok (.slice (some ⟨w.heap.size, 0, none⟩) (n + m) C) (w.drew.alloc (.cells cells e)) ∧ n + m ≤ C ∧ C ≤ maxLen ∧ cells.size = C * size ∧ cells.toList.take (n * size) = xs := by
 subst hsize
 subst hby
 have hle : n + m ≤ 140737488355328 := Nat.le_trans (Nat.le_mul_of_pos_right _ hb0) hbytes
 have h63 : n + m ≤ maxLen := by simp only [maxLen]; omega
 have hw : IntKind.i64.wrap (m : Int) = m := by rw [IntKind.wrap_i64]; omega
 have hneg : ¬ ((m : Int) < 0) := by omega
 have hmb : m * i.bytes ≤ 140737488355328 := Nat.le_trans (Nat.mul_le_mul_right _ (Nat.le_add_left m n)) hbytes
 have hbig : ¬ (281474976710656 < (m : Int) * (i.bytes : Int)) := by
  rw [← Int.natCast_mul]
  omega
 have hsn : i.size ≠ 0 := by omega
 obtain ⟨news, hnews⟩ : ∃ news, news = (Builtin.zeroCells z.cells m).toList := ⟨_, rfl⟩
 have hl : news.length = m * i.size := by rw [hnews, Array.length_toList, size_zeroCells, hzs]
 have hna : Builtin.zeroCells z.cells m = news.toArray := by rw [hnews]
 have hge := grownCap_ge w (n + m) cap e
 have hcm : grownCap w (n + m) cap e ≤ maxLen := grownCap_le_maxLen w (n + m) cap e h63
 have hfo : (Builtin.firstCells i.size n (.slice (some A) n cap)).run P w.drew = .ok xs.toArray w.drew := run_firstCells_some (P := P) w.drew i.size n _ n cap xs hxl (by simpa using hxc)
 have runs : (Builtin.append_ #[t, ti] ty #[.slice (some A) n cap, .int kx m]).run P w =
   .ok (.slice (some ⟨w.heap.size, 0, none⟩) (n + m) (grownCap w (n + m) cap e)) (w.drew.alloc (.cells (xs.toArray ++ news.toArray ++ Builtin.zeroCells z.cells (grownCap w (n + m) cap e - (n + m))) e)) := by
  have hn : ¬ (n + m ≤ cap) := by omega
  have h63' : ¬ (9223372036854775807 < ((n : Int) + (m : Int))) := by omega
  have hfit := growslice_fits hcap hbytes
  have h48' : ¬ (281474976710656 < Builtin.nextslicecap (n + m) cap * i.bytes) := by omega
  have hmz : ¬ (m * i.size = 0) := Nat.mul_ne_zero hm hsn
  simp [Builtin.append_, run_underlying ht, run_underlying hti, sizeOf, typeInfo, zeroValue, hi, hz, asInt, asIntOf, hw, hneg, hbig, hn, h63', h48', Question.forced, hfo, newRow, grownCap, hmz, hna]
  congr 2
  apply Array.ext'
  simp [List.append_assoc]
 refine ⟨_, _, runs, hge, hcm, ?_, ?_⟩
 ·
  simp only [Array.size_append, List.size_toArray, size_zeroCells, hzs, hxl, hl, ← Nat.add_mul]
  congr 1
  omega
 ·
  simp only [Array.toList_append, List.append_assoc]
  rw [← hxl]
  exact List.take_left
theorem impl_AddWant.two {e g : Nat} (w w1 : World) (cur : Array Value) (cs rest : List Value) (o : Nat) (h : w.heap[g]? = some (.cells cur e (0, 0))) (hw1 : w1.heap[g]? = (w.setCells g o cs).heap[g]?) (hl : o + cs.length + rest.length ≤ cur.size) :
  ∃ cur', (w1.setCells g (o + cs.length) rest).heap[g]? = some (.cells cur' e (0, 0)) ∧ cur'.size = cur.size ∧ cur'.toList.take (o + cs.length + rest.length) = cur.toList.take o ++ cs ++ rest := by
 obtain ⟨c1, h1, h2, h3⟩ := setCells_row cs o w cur h (by omega)
 obtain ⟨c2, h4, h5, h6⟩ := setCells_row rest (o + cs.length) w1 c1 (hw1.trans h1) (by omega)
 have hlen : (cur.toList.take o).length = o := by rw [List.length_take, Array.length_toList]; omega
 refine ⟨c2, h4, by omega, ?_⟩
 rw [h6, h3]
 have ha : (cur.toList.take o ++ cs ++ cur.toList.drop (o + cs.length)).take (o + cs.length) = cur.toList.take o ++ cs := List.take_left' (by rw [List.length_append, hlen])
 rw [ha]
 exact List.take_left' (by rw [List.length_append, List.length_append, hlen])
theorem impl_AddWant.two' {e g : Nat} (w : World) (cur : Array Value) (cs rest : List Value) (o : Nat) (h : w.heap[g]? = some (.cells cur e (0, 0))) (hl : o + cs.length + rest.length ≤ cur.size) :
  ∃ cur', ((w.setCells g (o + cs.length) rest).setCells g o cs).heap[g]? = some (.cells cur' e (0, 0)) ∧ cur'.size = cur.size ∧ cur'.toList.take (o + cs.length + rest.length) = cur.toList.take o ++ cs ++ rest := by
 obtain ⟨c1, h1, h2, h3⟩ := setCells_row rest (o + cs.length) w cur h (by omega)
 obtain ⟨c2, h4, h5, h6⟩ := setCells_row cs o (w.setCells g (o + cs.length) rest) c1 h1 (by omega)
 have hlen : (cur.toList.take o).length = o := by rw [List.length_take, Array.length_toList]; omega
 have hlen2 : (cur.toList.take (o + cs.length)).length = o + cs.length := by rw [List.length_take, show cur.toList.length = cur.size from Array.length_toList]; omega
 refine ⟨c2, h4, by omega, ?_⟩
 rw [h6, h3]
 have ha : (cur.toList.take (o + cs.length) ++ rest ++ cur.toList.drop (o + cs.length + rest.length)).take o = cur.toList.take o := by
  rw [List.append_assoc, List.take_append_of_le_length (by omega), List.take_take, Nat.min_eq_left (by omega)]
 have hb : (cur.toList.take (o + cs.length) ++ rest ++ cur.toList.drop (o + cs.length + rest.length)).drop (o + cs.length) = rest ++ cur.toList.drop (o + cs.length + rest.length) := by
  rw [List.append_assoc]
  exact List.drop_left' hlen2
 rw [ha, hb, ← List.append_assoc]
 exact List.take_left' (by rw [List.length_append, List.length_append, hlen])
theorem impl_AddWant.mk {α : Type} (d : Kd α) (e : Nat) (w' : World) (base g C k : Nat) (cur : Array Value) (xs : List α) (x : α) (inner cs : List Value)
  (hr : Reps (d.M w' base (fun k => True ∧ some k ≠ some g)) d.sz xs inner) (hx : d.M w' base (fun k => True ∧ some k ≠ some g) x cs) (hk : k ≤ xs.length) (hb : base ≤ g) (hg : w'.heap[g]? = some (.cells cur e (0, 0)))
  (hC : xs.length + 1 ≤ C) (hCm : C ≤ maxLen) (hcs : cur.size = C * d.sz) (ht : cur.toList.take ((xs.length + 1) * d.sz) = inner.take (k * d.sz) ++ cs ++ inner.drop (k * d.sz)) :
  d.R e w' base (fun _ => True) (.slice (some ⟨g, 0, none⟩) (xs.length + 1) C) (xs.take k ++ [x] ++ xs.drop k) := by
 have hl : (xs.take k ++ [x] ++ xs.drop k).length = xs.length + 1 := by simp; omega
 have hcl : cs.length = d.sz := d.K_len (d.K_of_M hx)
 have h1 : Reps (d.M w' base (fun k => True ∧ some k ≠ some g)) d.sz (xs.take k ++ [x] ++ xs.drop k) (inner.take (k * d.sz) ++ cs ++ inner.drop (k * d.sz)) :=
  Kd.reps_append (Reps.snoc (Kd.reps_take hr hk) hx hcl) (Kd.reps_drop hr)
 exact ⟨fun _ _ => trivial, _, ⟨h1.1, .inr ⟨g, C, cur, by rw [hl], hb, hg, by rw [hl]; exact hC, hCm, hcs, by rw [hl]; exact ht⟩⟩, h1⟩
theorem impl_AddWant.wcopy {P : Program} (w : World) {ops : Array Oper} {rest : List Oper} {o : Oper} {a : Act} {Q : Exit → Act → World → Prop} (hgd : o.guard = none) (d s : Operand) (t t' : TypeId)
  (ho : o.op = .call { callee := .builtin .copy, args := #[d, s], argTypes := #[t, t'] }) (v u : Value) (hd : a.eval d = v) (hs : a.eval s = u) {v' : Value} {w' : World}
  (hr : (Builtin.copy_ #[t, t'] o.type #[v, u]).run P w = .ok v' w') (h : wpList P ops Q rest (a.put o.dst v') w') : wpList P ops Q (o :: rest) a w :=
 wpList_plain hgd fun K hK => by
  unfold Oper.wp execOp
  simp only [ho, resolve, invoke, builtin, Sem.run_bind, Sem.run_pure, Result.andThen_ok, List.map_toArray, List.map_cons, List.map_nil, hd, hs, hr]
  exact hK _ _ h
theorem impl_AddWant.wapp {P : Program} (w : World) {ops : Array Oper} {rest : List Oper} {o : Oper} {a : Act} {Q : Exit → Act → World → Prop} (hgd : o.guard = none) (d s : Operand) (t t' : TypeId)
  (ho : o.op = .call { callee := .builtin .append, args := #[d, s], argTypes := #[t, t'] }) (v u : Value) (hd : a.eval d = v) (hs : a.eval s = u) {v' : Value} {w' : World}
  (hr : (Builtin.append_ #[t, t'] o.type #[v, u]).run P w = .ok v' w') (h : wpList P ops Q rest (a.put o.dst v') w') : wpList P ops Q (o :: rest) a w :=
 wpList_plain hgd fun K hK => by
  unfold Oper.wp execOp
  simp only [ho, resolve, invoke, builtin, Sem.run_bind, Sem.run_pure, Result.andThen_ok, List.map_toArray, List.map_cons, List.map_nil, hd, hs, hr]
  exact hK _ _ h
theorem impl_AddWant.scopy {P : Program} {ops : Array Oper} {o : Oper} {a : Act} {w : World} {K : Act → World → Prop} {Q : Exit → Act → World → Prop} {E : Prop}
  (hg : o.guard = none) (d x : Operand) (dT sT : TypeId) (hop : o.op = Op.call { callee := Callee.builtin Builtin.copy, args := #[d, x], argTypes := #[dT, sT] })
  (v u : Value) (hd : a.eval d = v) (hx : a.eval x = u) {v' : Value} {w' : World} (hr : (Builtin.copy_ #[dT, sT] o.type #[v, u]).run P w = .ok v' w') (hK : K (a.put o.dst v') w') :
  if Region.wanted o (yielded ops a.tmps) = true then Oper.wp P o a w K Q else E := by
 have hw : Region.wanted o (yielded ops a.tmps) = true := by simp [Region.wanted, hg]
 rw [if_pos hw]
 unfold Oper.wp
 simp [execOp, hop, resolve, invoke, builtin, hd, hx, hr, Result.andThen]
 exact hK
theorem impl_AddWant.flat {w w' : World} {base base' : Nat} {ok ok' : Nat → Prop} {p : S87} {cs : List Value} (h : (k87).M w base ok p cs) : (k87).M w' base' ok' p cs := h
set_option maxHeartbeats 4000000 in
set_option maxRecDepth 100000 in
theorem impl_AddWant.at_end (base c gv cv : Nat) (l0 : List S87) (x : S87) (ok okv : Nat → Prop) (w0 w : World) (hlim : l0.length < 8796093022208) (A : Option Addr)
  (HO : Kd.R k87 87 w base ok (.slice A l0.length c) l0) (HV : Kd.R k87 87 w base okv (.slice (some ⟨gv, 0, none⟩) 1 cv) [x]) (hb : Below base w0 w) (hbase : base ≤ w.heap.size) :
  Calls Try.prog 96 #[.slice A l0.length c, .int .i64 (l0.length : Int), .slice (some ⟨gv, 0, none⟩) 1 cv] w fun e w' => ∃ v0_ : Value, e = .returned v0_ ∧ Kd.R k87 87 w' base (fun _ => True) v0_ (l0 ++ [x]) ∧ Below base w0 w' := by
 have HO0 := Aside0.mk HO
 have HV0 := Aside0.mk HV
 have HL := Aside0.mk hlim
 have HB := Aside0.mk hb
 have HS := Aside0.mk hbase
 clear HO HV hlim hb hbase
 go_enter Try.func96, Try.ntmps96
 go_wp2_with (first
  | ((with_reducible refine gate_builtin (b := .append) (xs := #[.tmp 23, .tmp 24]) rfl ?_); at_builtin; refine Kd.R_append_rows k87 (w0 := w0) base rfl (.tmp 23) (.tmp 24) 45 87 (.agg #[(.int .i64 0), (.int .i64 0)]) 16 rfl Try.underlying45 info87 rfl (by decide) (by omega) (.slice A l0.length c) l0 [x] _ _ _ (fun _ => True) (fun _ => False) rfl rfl ?aO ?aR (fun _ _ h => h) (fun _ h => h.elim) ?aF ?aB ?aS ?aL ?_; (case aR => exact (Kd.R_reads' HV0.out).2.2); (case aB => exact HB.out); (case aF => exact (fun _ _ => trivial)); (case aO => exact Kd.R_mono HO0.out (fun _ _ => trivial)); (case aS => exact HS.out); (case aL => have := HL.out; simp; omega); intro v1 w9 ho hb hg hat; have HO1 := Aside0.mk ho; have HB1 := Aside0.mk hb; clear ho hb hg hat))
 all_goals
  go_ret
  exact ⟨_, rfl, HO1.out, HB1.out⟩
set_option maxHeartbeats 4000000 in
set_option maxRecDepth 100000 in
theorem impl_AddWant.grow_facts (base g gv cv k : Nat) (l0 : List S87) (x : S87) (ok okv : Nat → Prop) (w0 w : World) (hlim : l0.length < 4398046511104) (hk : k < l0.length) (hne : gv ≠ g)
  (HO : Kd.R k87 87 w base ok (.slice (some ⟨g, 0, none⟩) l0.length l0.length) l0) (HV : Kd.R k87 87 w base okv (.slice (some ⟨gv, 0, none⟩) 1 cv) [x]) (hb : Below base w0 w) (hbase : base ≤ w.heap.size) :
  ∃ (C : Nat) (W1 W2 W3 : World), l0.length + 1 ≤ C ∧
   (Builtin.append_ #[45, 3] 45 #[.slice (some ⟨g, 0, none⟩) k l0.length, .int .i64 ((l0.length : Int) + 1 - (k : Int))]).run Try.prog w = .ok (.slice (some ⟨w.heap.size, 0, none⟩) (l0.length + 1) C) W1 ∧
   (∀ ty dc, (Builtin.copy_ #[45, 45] ty #[.slice (some ⟨w.heap.size, k * 2, none⟩) (l0.length + 1 - k) dc, .slice (some ⟨gv, 0, none⟩) 1 cv]).run Try.prog W1 = .ok (goInt ((1 : Nat) : Int)) W2) ∧
   (∀ ty dc sc, (Builtin.copy_ #[45, 45] ty #[.slice (some ⟨w.heap.size, (k + 1) * 2, none⟩) (l0.length - k) dc, .slice (some ⟨g, k * 2, none⟩) (l0.length - k) sc]).run Try.prog W2.drew = .ok (goInt ((l0.length - k : Nat) : Int)) W3) ∧
   Kd.R k87 87 W3 base (fun _ => True) (.slice (some ⟨w.heap.size, 0, none⟩) (l0.length + 1) C) (l0.take k ++ [x] ++ l0.drop k) ∧ Below base w0 W3 := by
 obtain ⟨_, inner, hown, hr⟩ := HO
 obtain ⟨_, innv, hownv, hrv⟩ := HV
 rcases hown.2 with ⟨hv, _⟩ | ⟨g', c', cur, hv, hbg, hh, _, hcm, hcs, htake⟩
 ·
  cases hv
 injection hv with ha _ hcc
 injection ha with ha
 injection ha with hgg
 subst hgg; subst hcc
 rcases hownv.2 with ⟨hv, _⟩ | ⟨g', c', curv, hv, hbgv, hhv, hv1, hcmv, hcsv, htakev⟩
 ·
  cases hv
 injection hv with ha _ hcc
 injection ha with ha
 injection ha with hgg
 subst hgg; subst hcc
 have hil : inner.length = l0.length * 2 := hr.1
 have hivl : innv.length = 2 := by rw [hrv.1]; rfl
 have hx0 := hrv.2 0 x rfl
 have hx1 : (innv.drop (0 * (k87).sz)).take (k87).sz = innv := by rw [Nat.zero_mul, List.drop_zero]; exact List.take_of_length_le (Nat.le_of_eq hivl)
 rw [hx1] at hx0
 have hsz : (Try.prog.info? 87).map (·.size) = some 2 := by
  have h := info87
  cases hq : Try.prog.info? 87 with
  | none => rw [hq] at h; simp at h
  | some i => rw [hq] at h; simp at h; simp [h]
 have h1i : ∀ u ∈ inner, u.oneCell' = true := impl_AddWant.one hr (by decide) (fun _ _ hp => (k87).K_one ((k87).K_of_M hp))
 have h1v : ∀ u ∈ innv, u.oneCell' = true := (k87).K_one ((k87).K_of_M hx0)
 have hsc : cur.size = l0.length * 2 := hcs
 have hscv : curv.size = cv * 2 := hcsv
 have hcur : ∀ q, q < l0.length * 2 → cur.toList[q]? = inner[q]? := by
  intro q hq
  rw [← (show cur.toList.take (l0.length * 2) = inner from htake), List.getElem?_take, if_pos hq]
 have hcv : ∀ (W : World), W.heap[gv]? = some (.cells curv 87 (0, 0)) → ∀ j v, innv[j]? = some v → W.cell? ((⟨gv, 0, none⟩ : Addr).add j) = some v := by
  intro W hW j v hj
  have hlt : j < innv.length := (List.getElem?_eq_some_iff.1 hj).1
  rw [add_plain, cell_of_row W gv _ curv 87 (0, 0) hW, ← Array.getElem?_toList]
  rw [← (show curv.toList.take ([x].length * 2) = innv from htakev), List.getElem?_take] at hj
  rw [if_pos (by simp; omega)] at hj
  exact hj
 have hdl : (inner.drop (k * 2)).length = (l0.length - k) * 2 := by rw [List.length_drop, hil]; omega
 have htl : (inner.take (k * 2)).length = k * 2 := by rw [List.length_take, hil]; omega
 have hgl : g < w.heap.size := blk_lt hh
 have hgvl : gv < w.heap.size := blk_lt hhv
 obtain ⟨i0, hi0, hz0, hz1, hz2⟩ : ∃ i, Try.prog.info? 87 = some i ∧ i.zero = some (.agg #[(.int .i64 0), (.int .i64 0)]) ∧ i.size = 2 ∧ i.bytes = 16 := by
  have h := info87
  cases hq : Try.prog.info? 87 with
  | none => rw [hq] at h; simp at h
  | some i => rw [hq] at h; simp at h; exact ⟨i, rfl, h.1, h.2.1, h.2.2⟩
 obtain ⟨C, cells, hap, hC, hCm, hCs, hCt⟩ := impl_AddWant.az (P := Try.prog) w 45 3 45 87 i0 (.agg #[(.int .i64 0), (.int .i64 0)]) 2 16 Try.underlying45 Try.underlying3 hi0 hz0 hz1 hz2 rfl (by decide) (by decide) ⟨g, 0, none⟩ k l0.length (inner.take (k * 2)) htl
  (fun j u hu => by
   have hlt : j < (inner.take (k * 2)).length := (List.getElem?_eq_some_iff.1 hu).1
   rw [add_plain, cell_of_row w g _ cur 87 (0, 0) hh, ← Array.getElem?_toList, hcur _ (by omega)]
   rw [List.getElem?_take, if_pos (by omega)] at hu
   exact hu) .i64 (l0.length + 1 - k) (by omega) (by omega) (by omega)
 have hkn : k + (l0.length + 1 - k) = l0.length + 1 := by omega
 have hcast : ((l0.length + 1 - k : Nat) : Int) = (l0.length : Int) + 1 - (k : Int) := by omega
 rw [hkn, hcast] at hap
 rw [hkn] at hC
 obtain ⟨W1, hW1⟩ : ∃ W1, W1 = w.drew.alloc (.cells cells 87) := ⟨_, rfl⟩
 have hG : W1.heap[w.heap.size]? = some (.cells cells 87 (0, 0)) := by rw [hW1]; exact heap_alloc_new w.drew _
 have hold : ∀ q, q < w.heap.size → W1.heap[q]? = w.heap[q]? := fun q hq => by rw [hW1]; exact heap_alloc_old w.drew _ hq
 have hgr1 : w.grownBy W1 none := by rw [hW1]; exact ⟨rfl, rfl, rfl, by simp, fun q hq _ => heap_alloc_old w.drew _ hq⟩
 rw [← hW1] at hap
 have hcp2 : ∀ ty dc, (Builtin.copy_ #[45, 45] ty #[.slice (some ⟨w.heap.size, k * 2, none⟩) (l0.length + 1 - k) dc, .slice (some ⟨gv, 0, none⟩) 1 cv]).run Try.prog W1 = .ok (goInt ((1 : Nat) : Int)) (W1.setCells w.heap.size (k * 2) innv) := fun ty dc =>
  impl_AddWant.cp W1 45 ty 87 2 w.heap.size (k * 2) (l0.length + 1 - k) dc ⟨gv, 0, none⟩ 1 cv 1 innv Try.underlying45 hsz (by simp only [Nat.min_def]; split <;> omega) (by rw [hivl])
   (hcv W1 ((hold gv hgvl).trans hhv))
   (fun j hj => by rw [cell_of_row W1 w.heap.size _ cells 87 (0, 0) hG]; simp; omega) (fun j _ => blk_frozen (w := W1) hG _) h1v
 obtain ⟨W2, hW2⟩ : ∃ W2, W2 = W1.setCells w.heap.size (k * 2) innv := ⟨_, rfl⟩
 obtain ⟨c1, hd1, hd2, hd3⟩ := setCells_row innv (k * 2) W1 cells hG (by omega)
 rw [← hW2] at hcp2 hd1
 have hg2 : W2.drew.heap[g]? = some (.cells cur 87 (0, 0)) := by
  show W2.heap[g]? = _
  rw [hW2, setCells_far _ _ g (by omega), hold g hgl, hh]
 have hcp1 : ∀ ty dc sc, (Builtin.copy_ #[45, 45] ty #[.slice (some ⟨w.heap.size, (k + 1) * 2, none⟩) (l0.length - k) dc, .slice (some ⟨g, k * 2, none⟩) (l0.length - k) sc]).run Try.prog W2.drew = .ok (goInt ((l0.length - k : Nat) : Int)) (W2.drew.setCells w.heap.size ((k + 1) * 2) (inner.drop (k * 2))) := fun ty dc sc =>
  impl_AddWant.cp W2.drew 45 ty 87 2 w.heap.size ((k + 1) * 2) (l0.length - k) dc ⟨g, k * 2, none⟩ (l0.length - k) sc (l0.length - k) (inner.drop (k * 2)) Try.underlying45 hsz (by simp only [Nat.min_def]; split <;> omega) hdl
   (fun j v hj => by
    have hlt : j < (inner.drop (k * 2)).length := (List.getElem?_eq_some_iff.1 hj).1
    rw [add_at, cell_of_row W2.drew g _ cur 87 (0, 0) hg2, ← Array.getElem?_toList, hcur _ (by omega)]
    rwa [List.getElem?_drop] at hj)
   (fun j hj => by rw [cell_of_row W2.drew w.heap.size _ c1 87 (0, 0) hd1]; simp; omega) (fun j _ => blk_frozen (w := W2.drew) hd1 _) (fun v hv => h1i v (List.mem_of_mem_drop hv))
 have hin2 : k * 2 + innv.length = (k + 1) * 2 := by omega
 obtain ⟨c2, he1, he2, he3⟩ := impl_AddWant.two (e := 87) (g := w.heap.size) W1 W2.drew cells innv (inner.drop (k * 2)) (k * 2) hG (by rw [hW2]; rfl) (by omega)
 rw [hin2] at he1
 obtain ⟨W3, hW3⟩ : ∃ W3, W3 = W2.drew.setCells w.heap.size ((k + 1) * 2) (inner.drop (k * 2)) := ⟨_, rfl⟩
 rw [← hW3] at hcp1 he1
 have hB3 : Below base w0 W3 := by
  refine Below.grown hb ?_ hbase (row := none) (fun q hq => by cases hq)
  obtain ⟨s1, s2, s3, s4⟩ := setCells_same w.heap.size (inner.drop (k * 2)) ((k + 1) * 2) W2.drew
  obtain ⟨t1, t2, t3, t4⟩ := setCells_same w.heap.size innv (k * 2) W1
  rw [hW3]
  refine ⟨s1.trans ?_, s2.trans ?_, s3.trans ?_, ?_, fun q hql _ => ?_⟩
  ·
   show W2.os = _; rw [hW2]; exact t1.trans hgr1.os
  ·
   show W2.tape = _; rw [hW2]; exact t2.trans hgr1.tape
  ·
   show W2.output = _; rw [hW2]; exact t3.trans hgr1.output
  ·
   rw [s4]; show _ ≤ W2.heap.size; rw [hW2, t4]; exact hgr1.size
  ·
   rw [setCells_far _ _ q (by omega)]; show W2.heap[q]? = _; rw [hW2, setCells_far _ _ q (by omega)]; exact hold q hql
 have hR3 : Kd.R k87 87 W3 base (fun _ => True) (.slice (some ⟨w.heap.size, 0, none⟩) (l0.length + 1) C) (l0.take k ++ [x] ++ l0.drop k) :=
  impl_AddWant.mk k87 87 W3 base w.heap.size C k c2 l0 x inner innv (hr.imp_ (fun _ _ hp => impl_AddWant.flat hp)) (impl_AddWant.flat hx0) (by omega) hbase he1 hC hCm (by rw [he2]; exact hCs) (by
   have h6 : k * 2 + innv.length + (inner.drop (k * 2)).length = (l0.length + 1) * 2 := by omega
   rw [h6, hCt] at he3
   exact he3)
 exact ⟨C, W1, W2, W3, hC, hap, hcp2, hcp1, hR3, hB3⟩
set_option maxHeartbeats 4000000 in
set_option maxRecDepth 100000 in
theorem impl_AddWant.at_grow (base g gv cv k : Nat) (l0 : List S87) (x : S87) (ok okv : Nat → Prop) (w0 w : World) (hlim : l0.length < 4398046511104) (hk : k < l0.length) (hne : gv ≠ g)
  (HO : Kd.R k87 87 w base ok (.slice (some ⟨g, 0, none⟩) l0.length l0.length) l0) (HV : Kd.R k87 87 w base okv (.slice (some ⟨gv, 0, none⟩) 1 cv) [x]) (hb : Below base w0 w) (hbase : base ≤ w.heap.size) :
  Calls Try.prog 96 #[.slice (some ⟨g, 0, none⟩) l0.length l0.length, .int .i64 (k : Int), .slice (some ⟨gv, 0, none⟩) 1 cv] w fun e w' => ∃ v0_ : Value, e = .returned v0_ ∧ Kd.R k87 87 w' base (fun _ => True) v0_ (l0.take k ++ [x] ++ l0.drop k) ∧ Below base w0 w' := by
 obtain ⟨C, W1, W2, W3, hC, hap, hcp2, hcp1, hR3, hB3⟩ := impl_AddWant.grow_facts base g gv cv k l0 x ok okv w0 w hlim hk hne HO HV hb hbase
 have HR3 := Aside0.mk hR3
 have HB3 := Aside0.mk hB3
 have hlen : l0.length ≤ 9223372036854775807 := by omega
 have n1 : (l0.length = k) = False := eq_false (by omega)
 have n1b : (C = k) = False := eq_false (by omega)
 have n1c : (C = k + 1) = False := eq_false (by omega)
 have n2 : (k = l0.length) = False := eq_false (by omega)
 have n3 : ((k : Int) == (l0.length : Int)) = false := by simp; omega
 have n4 : IntKind.i64.wrap ((l0.length : Int) + 1) = (l0.length : Int) + 1 := by rw [IntKind.wrap_i64]; omega
 have n5 : IntKind.i64.wrap ((l0.length : Int) + 1 - (k : Int)) = (l0.length : Int) + 1 - (k : Int) := by rw [IntKind.wrap_i64]; omega
 have n6 : IntKind.i64.wrap ((k : Int) + 1) = (k : Int) + 1 := by rw [IntKind.wrap_i64]; omega
 have n7 : k ≤ l0.length := by omega
 have n8 : decide ((l0.length : Int) < (l0.length : Int) + 1) = true := decide_eq_true (by omega)
 have n9 : (0 : Int) ≤ (l0.length : Int) + 1 := by omega
 have n12 : ((k : Int) + 1).toNat = k + 1 := by omega
 have n13 : (0 : Int) ≤ (k : Int) + 1 := by omega
 have n14 : (k : Int) ≤ (l0.length : Int) + 1 := by omega
 have n15 : k ≤ l0.length + 1 := by omega
 have mixed : Try.prog.follows Departure.mixedOrders = true := by kernel_rfl
 clear hR3 hB3 HO HV hb hbase hne hk hlim hC
 go_enter Try.func96, Try.ntmps96
 go_wp2_with (first
  | (at_builtin; refine impl_AddWant.wapp _ rfl _ _ _ _ rfl _ _ rfl rfl hap ?_)
  | (at_builtin; refine impl_AddWant.wcopy _ rfl _ _ 45 45 rfl _ _ rfl rfl (hcp2 _ _) ?_))
 go_region_law_o (refine impl_AddWant.scopy rfl _ _ 45 45 rfl _ _ (by simp [Act.eval, Act.put]) (by simp [Act.eval, Act.put]) (hcp1 _ _ _) ?_)
 go_wp2
 go_ret
 exact ⟨_, rfl, HR3.out, HB3.out⟩
set_option maxHeartbeats 4000000 in
set_option maxRecDepth 100000 in
theorem impl_AddWant.room_facts (base g c gv cv k : Nat) (l0 : List S87) (x : S87) (ok okv : Nat → Prop) (w0 w : World) (hlim : l0.length < 8796093022208) (hk : k < l0.length) (hc : l0.length < c) (hne : gv ≠ g)
  (HO : Kd.R k87 87 w base ok (.slice (some ⟨g, 0, none⟩) l0.length c) l0) (HV : Kd.R k87 87 w base okv (.slice (some ⟨gv, 0, none⟩) 1 cv) [x]) (hb : Below base w0 w) (hbase : base ≤ w.heap.size) :
  ∃ W1 W2 : World, (∀ ty dc sc, (Builtin.copy_ #[45, 45] ty #[.slice (some ⟨g, (k + 1) * 2, none⟩) (l0.length - k) dc, .slice (some ⟨g, k * 2, none⟩) (l0.length + 1 - k) sc]).run Try.prog w.drew = .ok (goInt ((l0.length - k : Nat) : Int)) W1) ∧
   (∀ ty dc, (Builtin.copy_ #[45, 45] ty #[.slice (some ⟨g, k * 2, none⟩) (l0.length + 1 - k) dc, .slice (some ⟨gv, 0, none⟩) 1 cv]).run Try.prog W1 = .ok (goInt ((1 : Nat) : Int)) W2) ∧
   Kd.R k87 87 W2 base (fun _ => True) (.slice (some ⟨g, 0, none⟩) (l0.length + 1) c) (l0.take k ++ [x] ++ l0.drop k) ∧ Below base w0 W2 ∧
   (∀ lb cb, (callFunc 126 #[.slice (some ⟨gv, 0, none⟩) 1 cv, .slice (some ⟨g, (k + 1) * 2, none⟩) lb cb]).run Try.prog w = .ok (.value (.bool false)) w) := by
 obtain ⟨_, inner, hown, hr⟩ := HO
 obtain ⟨_, innv, hownv, hrv⟩ := HV
 rcases hown.2 with ⟨hv, _⟩ | ⟨g', c', cur, hv, hbg, hh, _, hcm, hcs, htake⟩
 ·
  cases hv
 injection hv with ha _ hcc
 injection ha with ha
 injection ha with hgg
 subst hgg; subst hcc
 rcases hownv.2 with ⟨hv, _⟩ | ⟨g', c', curv, hv, hbgv, hhv, hv1, hcmv, hcsv, htakev⟩
 ·
  cases hv
 injection hv with ha _ hcc
 injection ha with ha
 injection ha with hgg
 subst hgg; subst hcc
 have hil : inner.length = l0.length * 2 := hr.1
 have hivl : innv.length = 2 := by rw [hrv.1]; rfl
 have hx0 := hrv.2 0 x rfl
 have hx1 : (innv.drop (0 * (k87).sz)).take (k87).sz = innv := by rw [Nat.zero_mul, List.drop_zero]; exact List.take_of_length_le (Nat.le_of_eq hivl)
 rw [hx1] at hx0
 have hsz : (Try.prog.info? 87).map (·.size) = some 2 := by
  have h := info87
  cases hq : Try.prog.info? 87 with
  | none => rw [hq] at h; simp at h
  | some i => rw [hq] at h; simp at h; simp [h]
 have h1i : ∀ u ∈ inner, u.oneCell' = true := impl_AddWant.one hr (by decide) (fun _ _ hp => (k87).K_one ((k87).K_of_M hp))
 have h1v : ∀ u ∈ innv, u.oneCell' = true := (k87).K_one ((k87).K_of_M hx0)
 have hsc : cur.size = c * 2 := hcs
 have hscv : curv.size = cv * 2 := hcsv
 have hcur : ∀ q, q < l0.length * 2 → cur.toList[q]? = inner[q]? := by
  intro q hq
  rw [← (show cur.toList.take (l0.length * 2) = inner from htake), List.getElem?_take, if_pos hq]
 have hcv : ∀ (W : World), W.heap[gv]? = some (.cells curv 87 (0, 0)) → ∀ j v, innv[j]? = some v → W.cell? ((⟨gv, 0, none⟩ : Addr).add j) = some v := by
  intro W hW j v hj
  have hlt : j < innv.length := (List.getElem?_eq_some_iff.1 hj).1
  rw [add_plain, cell_of_row W gv _ curv 87 (0, 0) hW, ← Array.getElem?_toList]
  rw [← (show curv.toList.take ([x].length * 2) = innv from htakev), List.getElem?_take] at hj
  rw [if_pos (by simp; omega)] at hj
  exact hj
 have hdl : (inner.drop (k * 2)).length = (l0.length - k) * 2 := by rw [List.length_drop, hil]; omega
 have hcp1 : ∀ ty dc sc, (Builtin.copy_ #[45, 45] ty #[.slice (some ⟨g, (k + 1) * 2, none⟩) (l0.length - k) dc, .slice (some ⟨g, k * 2, none⟩) (l0.length + 1 - k) sc]).run Try.prog w.drew = .ok (goInt ((l0.length - k : Nat) : Int)) (w.drew.setCells g ((k + 1) * 2) (inner.drop (k * 2))) := fun ty dc sc =>
  impl_AddWant.cp w.drew 45 ty 87 2 g ((k + 1) * 2) (l0.length - k) dc ⟨g, k * 2, none⟩ (l0.length + 1 - k) sc (l0.length - k) (inner.drop (k * 2)) Try.underlying45 hsz (by simp only [Nat.min_def]; split <;> omega) hdl
   (fun j v hj => by
    have hlt : j < (inner.drop (k * 2)).length := (List.getElem?_eq_some_iff.1 hj).1
    rw [add_at, cell_of_row w.drew g _ cur 87 (0, 0) hh, ← Array.getElem?_toList, hcur _ (by omega)]
    rwa [List.getElem?_drop] at hj)
   (fun j hj => by rw [cell_of_row w.drew g _ cur 87 (0, 0) hh]; simp; omega) (fun j _ => blk_frozen (w := w.drew) hh _) (fun v hv => h1i v (List.mem_of_mem_drop hv))
 obtain ⟨c1, hd1, hd2, hd3⟩ := setCells_row (inner.drop (k * 2)) ((k + 1) * 2) w.drew cur hh (by omega)
 have hfv : (w.drew.setCells g ((k + 1) * 2) (inner.drop (k * 2))).heap[gv]? = some (.cells curv 87 (0, 0)) := (setCells_far _ _ gv hne).trans hhv
 obtain ⟨W1, hW1⟩ : ∃ W1, W1 = w.drew.setCells g ((k + 1) * 2) (inner.drop (k * 2)) := ⟨_, rfl⟩
 rw [← hW1] at hcp1 hd1 hfv
 have hcp2 : ∀ ty dc, (Builtin.copy_ #[45, 45] ty #[.slice (some ⟨g, k * 2, none⟩) (l0.length + 1 - k) dc, .slice (some ⟨gv, 0, none⟩) 1 cv]).run Try.prog W1 = .ok (goInt ((1 : Nat) : Int)) (W1.setCells g (k * 2) innv) := fun ty dc =>
  impl_AddWant.cp W1 45 ty 87 2 g (k * 2) (l0.length + 1 - k) dc ⟨gv, 0, none⟩ 1 cv 1 innv Try.underlying45 hsz (by simp only [Nat.min_def]; split <;> omega) (by rw [hivl])
   (hcv W1 hfv)
   (fun j hj => by rw [cell_of_row W1 g _ c1 87 (0, 0) hd1]; simp; omega) (fun j _ => blk_frozen (w := W1) hd1 _) h1v
 have hin2 : k * 2 + innv.length = (k + 1) * 2 := by omega
 obtain ⟨c2, he1, he2, he3⟩ := impl_AddWant.two' (e := 87) (g := g) w.drew cur innv (inner.drop (k * 2)) (k * 2) hh (by omega)
 rw [hin2, ← hW1] at he1
 obtain ⟨W2, hW2⟩ : ∃ W2, W2 = W1.setCells g (k * 2) innv := ⟨_, rfl⟩
 rw [← hW2] at hcp2 he1
 have hB2 : Below base w0 W2 := by
  refine Below.grown hb ?_ hbase (row := some g) (fun q hq => by injection hq with hq; omega)
  obtain ⟨s1, s2, s3, s4⟩ := setCells_same g innv (k * 2) W1
  obtain ⟨t1, t2, t3, t4⟩ := setCells_same g (inner.drop (k * 2)) ((k + 1) * 2) w.drew
  rw [hW2]
  refine ⟨s1.trans (by rw [hW1]; exact t1), s2.trans (by rw [hW1]; exact t2), s3.trans (by rw [hW1]; exact t3), by rw [s4, hW1, t4]; exact Nat.le_refl _, fun q _ hq => ?_⟩
  rw [setCells_far _ _ q (fun he => hq (by rw [he])), hW1, setCells_far _ _ q (fun he => hq (by rw [he]))]
  rfl
 have hR2 : Kd.R k87 87 W2 base (fun _ => True) (.slice (some ⟨g, 0, none⟩) (l0.length + 1) c) (l0.take k ++ [x] ++ l0.drop k) :=
  impl_AddWant.mk k87 87 W2 base g c k c2 l0 x inner innv (hr.imp_ (fun _ _ hp => impl_AddWant.flat hp)) (impl_AddWant.flat hx0) (by omega) hbg he1 (by omega) hcm (by rw [he2, hcs]) (by
   have h5 : cur.toList.take (k * 2) = inner.take (k * 2) := by
    rw [← (show cur.toList.take (l0.length * 2) = inner from htake), List.take_take, Nat.min_eq_left (by omega)]
   have h6 : k * 2 + innv.length + (inner.drop (k * 2)).length = (l0.length + 1) * 2 := by omega
   rw [h6, h5] at he3
   exact he3)
 have hov : ∀ lb cb, (callFunc 126 #[.slice (some ⟨gv, 0, none⟩) 1 cv, .slice (some ⟨g, (k + 1) * 2, none⟩) lb cb]).run Try.prog w = .ok (.value (.bool false)) w := fun lb cb => by
  rw [run_callFunc_extern Try.func126 (by kernel_rfl) (by kernel_rfl) (by kernel_rfl) (e := Extern.SlicesOverlaps.overlaps #[45, 45] #[4]) (by kernel_rfl),
   Lib.run_overlaps_apart w 45 4 87 Try.underlying45 2 Try.sizeOf87 ⟨gv, 0, none⟩ ⟨g, (k + 1) * 2, none⟩ 1 cv lb cb hne 87 87 curv.size cur.size (by simp [World.shape?, hhv]) (by simp [World.shape?, hh]) (by omega) (blk_frozen hhv _) (blk_frozen hhv _)]
  rfl
 exact ⟨W1, W2, hcp1, hcp2, hR2, hB2, hov⟩
set_option maxHeartbeats 4000000 in
set_option maxRecDepth 100000 in
theorem impl_AddWant.at_room (base g c gv cv k : Nat) (l0 : List S87) (x : S87) (ok okv : Nat → Prop) (w0 w : World) (hlim : l0.length < 8796093022208) (hk : k < l0.length) (hc : l0.length < c) (hne : gv ≠ g)
  (HO : Kd.R k87 87 w base ok (.slice (some ⟨g, 0, none⟩) l0.length c) l0) (HV : Kd.R k87 87 w base okv (.slice (some ⟨gv, 0, none⟩) 1 cv) [x]) (hb : Below base w0 w) (hbase : base ≤ w.heap.size) :
  Calls Try.prog 96 #[.slice (some ⟨g, 0, none⟩) l0.length c, .int .i64 (k : Int), .slice (some ⟨gv, 0, none⟩) 1 cv] w fun e w' => ∃ v0_ : Value, e = .returned v0_ ∧ Kd.R k87 87 w' base (fun _ => True) v0_ (l0.take k ++ [x] ++ l0.drop k) ∧ Below base w0 w' := by
 obtain ⟨W1, W2, hcp1, hcp2, hR2, hB2, hov⟩ := impl_AddWant.room_facts base g c gv cv k l0 x ok okv w0 w hlim hk hc hne HO HV hb hbase
 have HR2 := Aside0.mk hR2
 have HB2 := Aside0.mk hB2
 have HK := Aside0.mk hk
 have hlen : l0.length ≤ 9223372036854775807 := by omega
 have n1 : (c = k) = False := eq_false (by omega)
 have n1b : (c = k + 1) = False := eq_false (by omega)
 have n2 : (k = l0.length) = False := eq_false (by omega)
 have n3 : ((k : Int) == (l0.length : Int)) = false := by simp; omega
 have n4 : IntKind.i64.wrap ((l0.length : Int) + 1) = (l0.length : Int) + 1 := by rw [IntKind.wrap_i64]; omega
 have n6 : IntKind.i64.wrap ((k : Int) + 1) = (k : Int) + 1 := by rw [IntKind.wrap_i64]; omega
 have n7 : k ≤ l0.length := by omega
 have n8 : decide ((c : Int) < (l0.length : Int) + 1) = false := decide_eq_false (by omega)
 have n9 : (0 : Int) ≤ (l0.length : Int) + 1 := by omega
 have n10 : (l0.length : Int) + 1 ≤ (c : Int) := by omega
 have n11 : ((l0.length : Int) + 1).toNat = l0.length + 1 := by omega
 have n12 : ((k : Int) + 1).toNat = k + 1 := by omega
 have n13 : (0 : Int) ≤ (k : Int) + 1 := by omega
 have n14 : (k : Int) ≤ (l0.length : Int) + 1 := by omega
 have n15 : k ≤ l0.length + 1 := by omega
 have n16 : l0.length + 1 ≤ c := by omega
 have mixed : Try.prog.follows Departure.mixedOrders = true := by kernel_rfl
 clear hR2 hB2 HO HV hb hbase hne hk hc hlim
 go_enter Try.func96, Try.ntmps96
 go_wp2_with (simp only [hov])
 go_region_law_o (refine impl_AddWant.scopy rfl _ _ 45 45 rfl _ _ (by simp [Act.eval, Act.put]) (by simp [Act.eval, Act.put]) (hcp1 _ _ _) ?_)
 go_wp2_with (at_builtin; refine impl_AddWant.wcopy _ rfl _ _ 45 45 rfl _ _ rfl rfl (hcp2 _ _) ?_)
 go_ret
 exact ⟨_, rfl, HR2.out, HB2.out⟩
set_option maxHeartbeats 4000000 in
theorem impl_AddWant.ins (base c gv cv k : Nat) (l0 : List S87) (x : S87) (ok okv : Nat → Prop) (w0 w : World) (hlim : l0.length < 4398046511104) (A : Option Addr) (hk : k ≤ l0.length) (hne : ∀ q, (Value.slice A l0.length c).ownBlock = some q → gv ≠ q)
  (HO : Kd.R k87 87 w base ok (.slice A l0.length c) l0) (HV : Kd.R k87 87 w base okv (.slice (some ⟨gv, 0, none⟩) 1 cv) [x]) (hb : Below base w0 w) (hbase : base ≤ w.heap.size) :
  Calls Try.prog 96 #[.slice A l0.length c, .int .i64 (k : Int), .slice (some ⟨gv, 0, none⟩) 1 cv] w fun e w' => ∃ v0_ : Value, e = .returned v0_ ∧ Kd.R k87 87 w' base (fun _ => True) v0_ (l0.take k ++ [x] ++ l0.drop k) ∧ Below base w0 w' := by
 by_cases hkl : k = l0.length
 ·
  subst hkl
  rw [List.take_length, List.drop_length, List.append_nil]
  exact impl_AddWant.at_end base c gv cv l0 x ok okv w0 w (by omega) A HO HV hb hbase
 ·
  obtain ⟨g, cap, he, _, _, _⟩ := Kd.R_form HO (by omega)
  injection he with ha _ hcc
  subst ha; subst hcc
  have hg := hne g (by simp [Value.ownBlock])
  have hc := (Kd.R_reads' HO).2.1
  by_cases hcl : c = l0.length
  ·
   subst hcl
   exact impl_AddWant.at_grow base g gv cv k l0 x ok okv w0 w hlim (by omega) hg HO HV hb hbase
  ·
   exact impl_AddWant.at_room base g c gv cv k l0 x ok okv w0 w (by omega) (by omega) (by omega) hg HO HV hb hbase
def impl_AddWant.q (id : Int) (x : S87) : Bool := decide (x.f0 = id)
set_option maxHeartbeats 400000 in
set_option maxRecDepth 100000 in
theorem impl_AddWant.clo (id : Int) (g : Nat) (x : S87) (w : World) (hc : w.cell? ⟨g, 0, none⟩ = some (.int .i64 id)) :
  Calls Try.prog 95 #[.agg #[.int .i64 x.f0, .int .i64 x.f1], .pointer (some ⟨g, 0, none⟩)] w fun e w' => e = .returned (.bool (impl_AddWant.q id x)) ∧ Below w.heap.size w w' := by
 have hu := Try.underlying87
 have hg : g < w.heap.size := World.block_lt_of_cell? w _ hc
 go_enter Try.func95, Try.ntmps95
 go_wp2
 go_ret
 exact ⟨by unfold impl_AddWant.q; first | rfl | simp, (Below.refl _ _).alloc (Nat.le_refl _) _⟩
def impl_AddWant.ix (id : Int) : List S87 → Int → Int
 | [], _ => -1
 | x :: l, i => if impl_AddWant.q id x = true then i else impl_AddWant.ix id l (i + 1)
theorem impl_AddWant.ix_hit (id : Int) : ∀ (l : List S87) (i : Int) (m : Nat) (hm : m < l.length), (∀ j (hj : j < m), impl_AddWant.q id (l[j]'(by omega)) = false) → impl_AddWant.q id l[m] = true → impl_AddWant.ix id l i = i + m
 | [], i, m, hm, _, _ => absurd hm (by simp)
 | p :: l, i, 0, hm, _, h => by
  unfold impl_AddWant.ix
  rw [if_pos (show impl_AddWant.q id p = true from h)]
  simp
 | p :: l, i, m + 1, hm, hne, h => by
  unfold impl_AddWant.ix
  have h2 : impl_AddWant.q id p = false := hne 0 (by omega)
  rw [if_neg (by rw [h2]; decide), impl_AddWant.ix_hit id l (i + 1) m (by simpa using hm) (fun j hj => hne (j + 1) (by omega)) h]
  omega
theorem impl_AddWant.ix_miss (id : Int) : ∀ (l : List S87) (i : Int), (∀ j (hj : j < l.length), impl_AddWant.q id l[j] = false) → impl_AddWant.ix id l i = -1
 | [], i, _ => rfl
 | p :: l, i, h => by
  unfold impl_AddWant.ix
  have h2 : impl_AddWant.q id p = false := h 0 (by simp)
  rw [if_neg (by rw [h2]; decide), impl_AddWant.ix_miss id l (i + 1) (fun j hj => h (j + 1) (by simpa using hj))]
theorem impl_AddWant.rd_ (l : List S87) (j : Nat) (hj : j < l.length) : rd_T87 l (j : Int) = l[j] := by
 unfold rd_T87; simp [List.getD_eq_getElem?_getD, List.getElem?_eq_getElem hj]
set_option maxHeartbeats 4000000 in
set_option maxRecDepth 100000 in
theorem impl_AddWant.idx (id : Int) (g : Nat) (A0 : Option Addr) (c0 : Nat) (l0 : List S87) (w : World) (hr0 : Kd.C k87 w A0 l0.length l0) (hc0 : l0.length ≤ c0) (hc : w.cell? ⟨g, 0, none⟩ = some (.int .i64 id)) :
  Calls Try.prog 125 #[.slice A0 l0.length c0, .func (.func 95) #[] #[.pointer (some ⟨g, 0, none⟩)]] w fun e w' => e = .returned (.int .i64 (impl_AddWant.ix id l0 0)) ∧ Below w.heap.size w w' := by
 have hu := Try.underlying87
 have HC := Aside0.mk hc
 clear hc
 have HR0 := Aside0.mk hr0
 have HC0 := Aside0.mk hc0
 have hlen : l0.length ≤ 9223372036854775807 := hr0.2.1
 clear hr0 hc0
 have HB := Aside0.mk (Below.refl w.heap.size w)
 go_enter Try.func125, Try.ntmps125
 go_wp2
 go_loopg [5, 8] l0.length (fun gg v5 v8 w' => ∃ kk : Nat, v8 = .int .i64 kk ∧ Aside0 (kk ≤ l0.length) ∧ Aside0 (l0.length - kk ≤ gg) ∧ Aside0 (Below w.heap.size w w') ∧ Aside0 (∀ j (hj : j < kk) (hl : j < l0.length), impl_AddWant.q id l0[j] = false))
 case atStart => exact ⟨0, rfl, ⟨Nat.zero_le _⟩, ⟨by omega⟩, HB, ⟨fun j hj => absurd hj (Nat.not_lt_zero _)⟩⟩
 case round =>
  clear HB
  obtain ⟨kk, rfl, hk, hg, HB, HA⟩ := hrel
  by_cases hlt : kk < l0.length
  ·
   have hltz : decide ((kk : Int) < (l0.length : Int)) = true := decide_eq_true (by omega)
   have hltn : decide (kk < l0.length) = true := decide_eq_true hlt
   have p0 : (0 : Int) ≤ (kk : Int) := by omega
   have q0 : (kk : Int) < (l0.length : Int) := by omega
   have HE := Aside0.mk (impl_AddWant.rd_ l0 kk hlt)
   obtain ⟨ad, e1, hx0, hx1⟩ := at_T87 HR0.out (kk : Int) p0 q0
   cases e1
   rw [Int.toNat_natCast] at hx0 hx1
   replace hx0 := hC HB hx0
   replace hx1 := hC HB hx1
   replace p0 := eq_true p0
   replace q0 := eq_true q0
   have hcl := fun (w' : World) (hb : Below w.heap.size w w') => impl_AddWant.clo id g (rd_T87 l0 (kk : Int)) w' ((hb.cell (World.block_lt_of_cell? w _ HC.out)).trans HC.out)
   cases hq : impl_AddWant.q id (rd_T87 l0 (kk : Int)) with
   | true =>
    rw [hq] at hcl
    have HCL := Aside0.mk hcl
    have HQ := Aside0.mk hq
    clear hcl hq
    go_wp2_with (go_at_call 95; refine (HCL.out _ HB.out).mono ?_; rintro e w1 ⟨rfl, hb1⟩)
    go_ret
    refine ⟨?_, below_step HB.out hb1⟩
    have hq := HQ.out
    rw [HE.out] at hq
    rw [impl_AddWant.ix_hit id l0 0 kk hlt (fun j hj => HA.out j hj (by omega)) hq, Int.zero_add]
    rfl
   | false =>
    rw [hq] at hcl
    have HCL := Aside0.mk hcl
    have HQ := Aside0.mk hq
    clear hcl hq
    go_wp2_with (go_at_call 95; refine (HCL.out _ HB.out).mono ?_; rintro e w1 ⟨rfl, hb1⟩)
    go_roundg (l0.length - (kk + 1))
    case measure => have := hg.out; omega
    case rel =>
     refine ⟨kk + 1, by go_num, ⟨by omega⟩, ⟨by omega⟩, ⟨below_step HB.out hb1⟩, ⟨fun j hj hl => ?_⟩⟩
     rcases Nat.lt_or_ge j kk with h3 | h3
     ·
      exact HA.out j h3 hl
     ·
      have h4 : j = kk := by omega
      subst h4
      rw [← HE.out]
      exact HQ.out
  ·
   have hge : decide ((kk : Int) < (l0.length : Int)) = false := decide_eq_false (by omega)
   have hgen : decide (kk < l0.length) = false := decide_eq_false hlt
   go_wp2
   go_ret
   refine ⟨?_, HB.out⟩
   rw [impl_AddWant.ix_miss id l0 0 (fun j hj => HA.out j (by omega) hj)]
   rfl
def impl_AddWant.pos (id : Int) : List S87 → Nat
 | [] => 0
 | x :: l => if x.f0 < id then impl_AddWant.pos id l + 1 else 0
theorem impl_AddWant.pos_of (id : Int) : ∀ (l : List S87) (n : Nat) (hn : n ≤ l.length), (∀ j (hj : j < n), (l[j]'(by omega)).f0 < id) → (n = l.length ∨ ∃ h : n < l.length, ¬ l[n].f0 < id) → impl_AddWant.pos id l = n
 | [], n, hn, _, _ => by simp at hn; simp [impl_AddWant.pos, hn]
 | x :: l, 0, hn, _, h => by
  rcases h with h | ⟨h1, h2⟩
  ·
   simp at h
  ·
   have h3 : ¬ x.f0 < id := h2
   unfold impl_AddWant.pos
   rw [if_neg h3]
 | x :: l, n + 1, hn, ha, h => by
  have h0 : x.f0 < id := ha 0 (by omega)
  unfold impl_AddWant.pos
  rw [if_pos h0, impl_AddWant.pos_of id l n (by simpa using hn) (fun j hj => ha (j + 1) (by omega)) (by
   rcases h with h | ⟨h1, h2⟩
   ·
    exact .inl (by simpa using h)
   ·
    exact .inr ⟨by simpa using h1, h2⟩)]
set_option maxHeartbeats 400000 in
set_option maxRecDepth 100000 in
theorem impl_AddWant.cont (id : Int) (g : Nat) (A0 : Option Addr) (c0 : Nat) (l0 : List S87) (w : World) (hr0 : Kd.C k87 w A0 l0.length l0) (hc0 : l0.length ≤ c0) (hc : w.cell? ⟨g, 0, none⟩ = some (.int .i64 id)) :
  Calls Try.prog 94 #[.slice A0 l0.length c0, .func (.func 95) #[] #[.pointer (some ⟨g, 0, none⟩)]] w fun e w' => e = .returned (.bool (decide (0 ≤ impl_AddWant.ix id l0 0))) ∧ Below w.heap.size w w' := by
 have HR0 := Aside0.mk hr0
 have HC0 := Aside0.mk hc0
 have HC := Aside0.mk hc
 clear hr0 hc0 hc
 go_enter Try.func94, Try.ntmps94
 go_wp2_with (go_at_call 125; refine (impl_AddWant.idx id g A0 c0 l0 _ HR0.out HC0.out HC.out).mono ?_; rintro e w1 ⟨rfl, hb1⟩)
 go_ret
 exact ⟨rfl, hb1⟩
def impl_AddWant.f (k : Nat) (l0 : List S90) (l1 : List S87) (a2 : Int) : Option (List S87 × Bool) :=
 if l1.length < 4398046511104 then (if 0 ≤ impl_AddWant.ix a2 l1 0 then some (l1, false)
  else ((impl_AreWants.f k l0 (l1.take (impl_AddWant.pos a2 l1) ++ [⟨a2, 0⟩] ++ l1.drop (impl_AddWant.pos a2 l1))).bind fun b => if b = true then some (l1.take (impl_AddWant.pos a2 l1) ++ [⟨a2, 0⟩] ++ l1.drop (impl_AddWant.pos a2 l1), true) else some (l1, false))) else none
theorem impl_AddWant.mono : ∀ a0 a1 a2 k, LeO (impl_AddWant.f k a0 a1 a2) (impl_AddWant.f (k + 1) a0 a1 a2) := by
 intro a0 a1 a2 k
 unfold impl_AddWant.f
 refine LeO.ite (LeO.ite (LeO.refl _) (LeO.bind (impl_AreWants.mono _ _ _) (fun _ => LeO.refl _))) (LeO.none _)
set_option maxHeartbeats 8000000 in
set_option maxRecDepth 100000 in
theorem impl_AddWant.calls (k : Nat) (A0 : Option Addr) (c0 : Nat) (l0 : List S90) (A1 : Option Addr) (c1 : Nat) (l1 : List S87) (a2 : Int) (r1 : List S87) (r2 : Bool) (w : World) (hr0 : Kd.C k90 w A0 l0.length l0) (hc0 : l0.length ≤ c0) (hr1 : Kd.C k87 w A1 l1.length l1) (hc1 : l1.length ≤ c1) (h : impl_AddWant.f k l0 l1 a2 = some (r1, r2)) :
  Calls Try.prog 51 #[.slice A0 l0.length c0, .slice A1 l1.length c1, .int .i64 a2] w fun e w' => ∃ v0_ : Value, e = .returned (.tuple #[v0_, .bool r2]) ∧ Kd.R k87 87 w' w.heap.size (fun _ => True) v0_ r1 ∧ Below w.heap.size w w' := by
 have hu := Try.underlying87
 have HR0 := Aside0.mk hr0
 have HC0 := Aside0.mk hc0
 have HR1 := Aside0.mk hr1
 have HC1 := Aside0.mk hc1
 have hlen : l1.length ≤ 9223372036854775807 := hr1.2.1
 have mixed : Try.prog.follows Departure.mixedOrders = true := by kernel_rfl
 clear hr0 hc0 hr1 hc1
 unfold impl_AddWant.f at h
 have hlim := ifN h
 replace h := ifT h
 have HL := Aside0.mk hlim
 have hcl : impl_Want_93.f l1 = some l1 := by
  unfold impl_Want_93.f
  exact if_pos (by omega)
 have HCL := Aside0.mk hcl
 by_cases hq : 0 ≤ impl_AddWant.ix a2 l1 0
 ·
  rw [if_pos hq] at h
  obtain ⟨rfl, rfl⟩ := Prod.mk.inj (Option.some.inj h)
  have hqd : decide (0 ≤ impl_AddWant.ix a2 l1 0) = true := decide_eq_true hq
  clear h hlim hcl hq
  go_enter Try.func51, Try.ntmps51
  go_wp2_with (first
   | (go_at_call 93; refine (impl_Want_93.calls A1 c1 l1 l1 _ ?s1 HC1.out HCL.out).mono ?_; (case s1 => exact Kd.C_alloc HR1.out _); rintro e w1 ⟨v1, rfl, ho1, hb1⟩; have HO1 := Aside0.mk ho1; have HB1 := Aside0.mk hb1; clear ho1 hb1)
   | (go_at_call 94; refine (impl_AddWant.cont a2 w.heap.size A1 c1 l1 _ ?s2 HC1.out ?s3).mono ?_; (case s2 => exact Kd.C_below (Kd.C_alloc HR1.out _) HB1.out); (case s3 => (rw [HB1.out.cell (by simp)]; simp)); rintro e w2 ⟨rfl, hb2⟩; have HB2 := Aside0.mk hb2; clear hb2))
  go_ret2
  exact ⟨_, rfl, Kd.R_below (Kd.R_lower HO1.out (by simp)) HB2.out, below_step (below_step (below_alloc (Below.refl _ _) _) HB1.out) HB2.out⟩
 ·
  have HH := Aside0.mk h
  have HQ := Aside0.mk hq
  have hqd : decide (0 ≤ impl_AddWant.ix a2 l1 0) = false := decide_eq_false hq
  clear h hlim hcl hq
  go_enter Try.func51, Try.ntmps51
  go_wp2_with (first
   | (go_at_call 93; refine (impl_Want_93.calls A1 c1 l1 l1 _ ?s1 HC1.out HCL.out).mono ?_; (case s1 => exact Kd.C_alloc HR1.out _); rintro e w1 ⟨v1, rfl, ho1, hb1⟩; obtain ⟨Ao, co, eo⟩ := Kd.R_slice ho1; subst eo; have HO1 := Aside0.mk ho1; have HB1 := Aside0.mk hb1; clear ho1 hb1)
   | (go_at_call 94; refine (impl_AddWant.cont a2 w.heap.size A1 c1 l1 _ ?s2 HC1.out ?s3).mono ?_; (case s2 => exact Kd.C_below (Kd.C_alloc HR1.out _) HB1.out); (case s3 => (rw [HB1.out.cell (by simp)]; simp)); rintro e w2 ⟨rfl, hb2⟩; have HB2 := Aside0.mk hb2; clear hb2))
  have B2 := Aside0.mk (below_step (below_step (below_alloc (Below.refl w.heap.size w) _) HB1.out) HB2.out)
  have O2 := Aside0.mk (Kd.R_below (Kd.R_lower HO1.out (show w.heap.size ≤ _ by simp)) HB2.out)
  have R2 := Aside0.mk (Kd.C_below HR1.out B2.out)
  have hx2 : w2.cell? ⟨w.heap.size, 0, none⟩ = some (.int .i64 a2) := by
   have h1 := HB1.out.cell (p := ⟨w.heap.size, 0, none⟩) (by simp)
   have h2 := HB2.out.cell (p := ⟨w.heap.size, 0, none⟩) (by have := HB1.out.size; simp at this; show w.heap.size < _; omega)
   rw [h2, h1]
   simp
  have X2 := Aside0.mk hx2
  have HB := Aside0.mk (Below.refl w2.heap.size w2)
  clear HO1 HB1 HB2 hx2
  go_loopg [9] l1.length (fun gg v9 w' => ∃ kk : Nat, v9 = .int .i64 kk ∧ Aside0 (kk ≤ l1.length) ∧ Aside0 (l1.length - kk ≤ gg) ∧ Aside0 (Below w2.heap.size w2 w') ∧ Aside0 (∀ j (hj : j < kk) (hl : j < l1.length), l1[j].f0 < a2))
  case atStart => exact ⟨0, rfl, ⟨Nat.zero_le _⟩, ⟨by omega⟩, HB, ⟨fun j hj => absurd hj (Nat.not_lt_zero _)⟩⟩
  case round =>
   clear HB
   obtain ⟨kk, rfl, HK, hg, HB, HF⟩ := hrel
   have B3 := Aside0.mk (below_step B2.out HB.out)
   have O3 := Aside0.mk (Kd.R_below O2.out HB.out)
   have x3 := (HB.out.cell (World.block_lt_of_cell? w2 _ X2.out)).trans X2.out
   by_cases hlt : kk < l1.length
   ·
    have hltz : decide ((kk : Int) < (l1.length : Int)) = true := decide_eq_true (by omega)
    have hltn : decide (kk < l1.length) = true := decide_eq_true hlt
    have p0 : (0 : Int) ≤ (kk : Int) := by omega
    have q0 : (kk : Int) < (l1.length : Int) := by omega
    have HE := Aside0.mk (impl_AddWant.rd_ l1 kk hlt)
    obtain ⟨ad, e1, hx0, hx1⟩ := at_T87 R2.out (kk : Int) p0 q0
    cases e1
    rw [Int.toNat_natCast] at hx0 hx1
    replace hx0 := (HB.out.cell (World.block_lt_of_cell? w2 _ hx0)).trans hx0
    clear hx1
    replace p0 := eq_true p0
    replace q0 := eq_true q0
    by_cases hf : (rd_T87 l1 (kk : Int)).f0 < a2
    ·
     have hfd : decide ((rd_T87 l1 (kk : Int)).f0 < a2) = true := decide_eq_true hf
     have HFF := Aside0.mk hf
     clear hf
     go_wp2
     go_region
     go_wp2
     go_roundg (l1.length - (kk + 1))
     case measure => have := hg.out; omega
     case rel =>
      refine ⟨kk + 1, by go_num, ⟨by omega⟩, ⟨by omega⟩, ⟨by first | exact HB.out | exact below_drew HB.out⟩, ⟨fun j hj hl => ?_⟩⟩
      rcases Nat.lt_or_ge j kk with h3 | h3
      ·
       exact HF.out j h3 hl
      ·
       have h4 : j = kk := by omega
       subst h4
       rw [← HE.out]
       exact HFF.out
    ·
     have hfd : decide ((rd_T87 l1 (kk : Int)).f0 < a2) = false := decide_eq_false hf
     have HPOS := Aside0.mk (impl_AddWant.pos_of a2 l1 kk HK.out (fun j hj => HF.out j hj (by have := HK.out; omega)) (.inr ⟨hlt, by rw [← HE.out]; exact hf⟩))
     clear hf
     have V4 := Aside0.mk (show Kd.R k87 87 (wr.alloc (.cells #[.int .i64 a2, .int .i64 0] 87)).drew w.heap.size (fun _ => True) (.slice (some ⟨wr.heap.size, 0, none⟩) 1 1) [(⟨a2, 0⟩ : S87)] from Kd.R_drew ⟨fun _ _ => trivial, [.int .i64 a2, .int .i64 0], World.ownsRow_lit wr _ 1 B3.out.size (by decide) rfl, Reps.c2 (show Kd.M k87 _ _ _ (⟨a2, 0⟩ : S87) [.int .i64 a2, .int .i64 0] from (k87_mkM _ _ _ (⟨a2, 0⟩ : S87))) (Reps.none _ _)⟩)
     have B4 := Aside0.mk (show Below w.heap.size w (wr.alloc (.cells #[.int .i64 a2, .int .i64 0] 87)).drew from below_drew (below_alloc B3.out _))
     have h := HH.out
     rw [if_neg (show ¬ 0 ≤ impl_AddWant.ix a2 l1 0 by have := HQ.out; omega), HPOS.out] at h
     obtain ⟨L5, hL5⟩ : ∃ L, L = l1.take kk ++ [(⟨a2, 0⟩ : S87)] ++ l1.drop kk := ⟨_, rfl⟩
     rw [← hL5] at h
     have HL5 := Aside0.mk hL5
     clear hL5
     obtain ⟨b, ha, h⟩ := Option.bind_eq_some_iff.1 h
     cases b with
     | true =>
      rw [if_pos rfl] at h
      obtain ⟨rfl, rfl⟩ := Prod.mk.inj (Option.some.inj h)
      have HA := Aside0.mk ha
      clear h ha
      go_wp2
      go_region
      go_wp2_with (first
       | (go_at_call 96; refine (impl_AddWant.ins w.heap.size co wr.heap.size 1 kk l1 ⟨a2, 0⟩ (fun _ => True) (fun _ => True) w _ HL.out Ao HK.out ?t2 ?t3 ?t4 ?t5 ?t6).mono ?_; (case t2 => (intro q hq he; have h1 := Kd.R_lt O3.out q hq; omega)); (case t3 => exact Kd.R_drew (Kd.R_alloc O3.out _)); (case t4 => exact V4.out); (case t5 => exact B4.out); (case t6 => exact B4.out.size); rintro e w5 ⟨v5, rfl, ho5, hb5⟩; rw [← HL5.out] at ho5; obtain ⟨A5, c5, ev5, hc5, hr5⟩ := Kd.R_reads ho5; subst ev5; have O5 := Aside0.mk ho5; have B5 := Aside0.mk hb5; have R5 := Aside0.mk hr5; have C5 := Aside0.mk hc5; clear ho5 hb5 hr5 hc5)
       | (go_at_call 36; refine (impl_AreWants.calls k A0 c0 l0 A5 c5 L5 true _ (Kd.C_below HR0.out B5.out) HC0.out R5.out C5.out HA.out).mono ?_; rintro e w6 ⟨rfl, hb6⟩; have HB6 := Aside0.mk hb6; have B6 := Aside0.mk (below_step B5.out hb6); clear hb6)
       | (go_at_call 93; refine (impl_Want_93.calls _ c1 l1 l1 _ (Kd.C_below HR1.out B6.out) HC1.out HCL.out).mono ?_; rintro e w7 ⟨v7, rfl, ho7, hb7⟩; have O7 := Aside0.mk (Kd.R_lower ho7 B6.out.size); have B7 := Aside0.mk (below_step B6.out hb7); clear ho7 hb7))
      go_ret2
      exact ⟨_, rfl, Kd.R_below O5.out HB6.out, B6.out⟩
     | false =>
      rw [if_neg (by decide)] at h
      obtain ⟨rfl, rfl⟩ := Prod.mk.inj (Option.some.inj h)
      have HA := Aside0.mk ha
      clear h ha
      go_wp2
      go_region
      go_wp2_with (first
       | (go_at_call 96; refine (impl_AddWant.ins w.heap.size co wr.heap.size 1 kk l1 ⟨a2, 0⟩ (fun _ => True) (fun _ => True) w _ HL.out Ao HK.out ?t2 ?t3 ?t4 ?t5 ?t6).mono ?_; (case t2 => (intro q hq he; have h1 := Kd.R_lt O3.out q hq; omega)); (case t3 => exact Kd.R_drew (Kd.R_alloc O3.out _)); (case t4 => exact V4.out); (case t5 => exact B4.out); (case t6 => exact B4.out.size); rintro e w5 ⟨v5, rfl, ho5, hb5⟩; rw [← HL5.out] at ho5; obtain ⟨A5, c5, ev5, hc5, hr5⟩ := Kd.R_reads ho5; subst ev5; have O5 := Aside0.mk ho5; have B5 := Aside0.mk hb5; have R5 := Aside0.mk hr5; have C5 := Aside0.mk hc5; clear ho5 hb5 hr5 hc5)
       | (go_at_call 36; refine (impl_AreWants.calls k A0 c0 l0 A5 c5 L5 false _ (Kd.C_below HR0.out B5.out) HC0.out R5.out C5.out HA.out).mono ?_; rintro e w6 ⟨rfl, hb6⟩; have HB6 := Aside0.mk hb6; have B6 := Aside0.mk (below_step B5.out hb6); clear hb6)
       | (go_at_call 93; refine (impl_Want_93.calls _ c1 l1 l1 _ (Kd.C_below HR1.out B6.out) HC1.out HCL.out).mono ?_; rintro e w7 ⟨v7, rfl, ho7, hb7⟩; have O7 := Aside0.mk (Kd.R_lower ho7 B6.out.size); have B7 := Aside0.mk (below_step B6.out hb7); clear ho7 hb7))
      go_ret2
      exact ⟨_, rfl, O7.out, B7.out⟩
   ·
    have hge : decide ((kk : Int) < (l1.length : Int)) = false := decide_eq_false (by omega)
    have hgen : decide (kk < l1.length) = false := decide_eq_false hlt
    have HPOS := Aside0.mk (impl_AddWant.pos_of a2 l1 kk HK.out (fun j hj => HF.out j hj (by have := HK.out; omega)) (.inl (by have := HK.out; omega)))
    have V4 := Aside0.mk (show Kd.R k87 87 (wr.alloc (.cells #[.int .i64 a2, .int .i64 0] 87)).drew w.heap.size (fun _ => True) (.slice (some ⟨wr.heap.size, 0, none⟩) 1 1) [(⟨a2, 0⟩ : S87)] from Kd.R_drew ⟨fun _ _ => trivial, [.int .i64 a2, .int .i64 0], World.ownsRow_lit wr _ 1 B3.out.size (by decide) rfl, Reps.c2 (show Kd.M k87 _ _ _ (⟨a2, 0⟩ : S87) [.int .i64 a2, .int .i64 0] from (k87_mkM _ _ _ (⟨a2, 0⟩ : S87))) (Reps.none _ _)⟩)
    have B4 := Aside0.mk (show Below w.heap.size w (wr.alloc (.cells #[.int .i64 a2, .int .i64 0] 87)).drew from below_drew (below_alloc B3.out _))
    have h := HH.out
    rw [if_neg (show ¬ 0 ≤ impl_AddWant.ix a2 l1 0 by have := HQ.out; omega), HPOS.out] at h
    obtain ⟨L5, hL5⟩ : ∃ L, L = l1.take kk ++ [(⟨a2, 0⟩ : S87)] ++ l1.drop kk := ⟨_, rfl⟩
    rw [← hL5] at h
    have HL5 := Aside0.mk hL5
    clear hL5
    obtain ⟨b, ha, h⟩ := Option.bind_eq_some_iff.1 h
    cases b with
    | true =>
     rw [if_pos rfl] at h
     obtain ⟨rfl, rfl⟩ := Prod.mk.inj (Option.some.inj h)
     have HA := Aside0.mk ha
     clear h ha
     go_wp2
     go_region
     go_wp2_with (first
      | (go_at_call 96; refine (impl_AddWant.ins w.heap.size co wr.heap.size 1 kk l1 ⟨a2, 0⟩ (fun _ => True) (fun _ => True) w _ HL.out Ao HK.out ?t2 ?t3 ?t4 ?t5 ?t6).mono ?_; (case t2 => (intro q hq he; have h1 := Kd.R_lt O3.out q hq; omega)); (case t3 => exact Kd.R_drew (Kd.R_alloc O3.out _)); (case t4 => exact V4.out); (case t5 => exact B4.out); (case t6 => exact B4.out.size); rintro e w5 ⟨v5, rfl, ho5, hb5⟩; rw [← HL5.out] at ho5; obtain ⟨A5, c5, ev5, hc5, hr5⟩ := Kd.R_reads ho5; subst ev5; have O5 := Aside0.mk ho5; have B5 := Aside0.mk hb5; have R5 := Aside0.mk hr5; have C5 := Aside0.mk hc5; clear ho5 hb5 hr5 hc5)
      | (go_at_call 36; refine (impl_AreWants.calls k A0 c0 l0 A5 c5 L5 true _ (Kd.C_below HR0.out B5.out) HC0.out R5.out C5.out HA.out).mono ?_; rintro e w6 ⟨rfl, hb6⟩; have HB6 := Aside0.mk hb6; have B6 := Aside0.mk (below_step B5.out hb6); clear hb6)
      | (go_at_call 93; refine (impl_Want_93.calls _ c1 l1 l1 _ (Kd.C_below HR1.out B6.out) HC1.out HCL.out).mono ?_; rintro e w7 ⟨v7, rfl, ho7, hb7⟩; have O7 := Aside0.mk (Kd.R_lower ho7 B6.out.size); have B7 := Aside0.mk (below_step B6.out hb7); clear ho7 hb7))
     go_ret2
     exact ⟨_, rfl, Kd.R_below O5.out HB6.out, B6.out⟩
    | false =>
     rw [if_neg (by decide)] at h
     obtain ⟨rfl, rfl⟩ := Prod.mk.inj (Option.some.inj h)
     have HA := Aside0.mk ha
     clear h ha
     go_wp2
     go_region
     go_wp2_with (first
      | (go_at_call 96; refine (impl_AddWant.ins w.heap.size co wr.heap.size 1 kk l1 ⟨a2, 0⟩ (fun _ => True) (fun _ => True) w _ HL.out Ao HK.out ?t2 ?t3 ?t4 ?t5 ?t6).mono ?_; (case t2 => (intro q hq he; have h1 := Kd.R_lt O3.out q hq; omega)); (case t3 => exact Kd.R_drew (Kd.R_alloc O3.out _)); (case t4 => exact V4.out); (case t5 => exact B4.out); (case t6 => exact B4.out.size); rintro e w5 ⟨v5, rfl, ho5, hb5⟩; rw [← HL5.out] at ho5; obtain ⟨A5, c5, ev5, hc5, hr5⟩ := Kd.R_reads ho5; subst ev5; have O5 := Aside0.mk ho5; have B5 := Aside0.mk hb5; have R5 := Aside0.mk hr5; have C5 := Aside0.mk hc5; clear ho5 hb5 hr5 hc5)
      | (go_at_call 36; refine (impl_AreWants.calls k A0 c0 l0 A5 c5 L5 false _ (Kd.C_below HR0.out B5.out) HC0.out R5.out C5.out HA.out).mono ?_; rintro e w6 ⟨rfl, hb6⟩; have HB6 := Aside0.mk hb6; have B6 := Aside0.mk (below_step B5.out hb6); clear hb6)
      | (go_at_call 93; refine (impl_Want_93.calls _ c1 l1 l1 _ (Kd.C_below HR1.out B6.out) HC1.out HCL.out).mono ?_; rintro e w7 ⟨v7, rfl, ho7, hb7⟩; have O7 := Aside0.mk (Kd.R_lower ho7 B6.out.size); have B7 := Aside0.mk (below_step B6.out hb7); clear ho7 hb7))
     go_ret2
     exact ⟨_, rfl, O7.out, B7.out⟩

/-! ### laws_markWantS: function 52 -/
def laws_markWantS.l0 : Nat → List (S87) → Int → Int → Option (Int × (List (S87)))
 | 0, _, _, _ => none
 | k + 1, x0, x1, x5 => if x5 < (x0.length : Int) then (if 0 ≤ x5 then ((some (x0.set (x5 : Int).toNat (⟨x1, (rd_T87 x0 x5).f1⟩ : S87) : List (S87))).bind fun y245 => (laws_markWantS.l0 k (y245.set (x5 : Int).toNat (⟨(rd_T87 y245 x5).f0, wrap64 (x1 + 1)⟩ : S87)) (wrap64 ((wrap64 (x1 + 1)) + 1)) (wrap64 (x5 + 1)))) else (none)) else (some (x1, x0))
def laws_markWantS.f (k : Nat) (l0 : List (S87)) (a1 : Int) : Option (Int × (List (S87))) := laws_markWantS.l0 k l0 a1 0
theorem laws_markWantS.mono_l : ∀ k, (∀ y0 y1 y2, LeO (laws_markWantS.l0 k y0 y1 y2) (laws_markWantS.l0 (k + 1) y0 y1 y2))
 | 0 => fun _ _ _ r h => by simp [laws_markWantS.l0] at h
 | k + 1 => by
  have ih0 := laws_markWantS.mono_l k
  ·
   intro y0 y1 y2
   unfold laws_markWantS.l0
   repeat' first | (with_reducible first | exact LeO.refl _ | exact LeO.none _ | refine LeO.ite ?_ ?_ | refine LeO.bind ?_ (fun _ => ?_) | exact ih0 _ _ _) | exact LeO.none _ | refine LeO.ite ?_ ?_ | refine LeO.bind ?_ (fun _ => ?_) | exact ih0 _ _ _
theorem laws_markWantS.mono : ∀ a0 a1 k, LeO (laws_markWantS.f k a0 a1) (laws_markWantS.f (k + 1) a0 a1) := by
 intro a0 a1 k
 have ih0 := laws_markWantS.mono_l k
 unfold laws_markWantS.f
 repeat' first | (with_reducible first | exact LeO.refl _ | exact LeO.none _ | refine LeO.ite ?_ ?_ | refine LeO.bind ?_ (fun _ => ?_) | exact ih0 _ _ _) | exact LeO.none _ | refine LeO.ite ?_ ?_ | refine LeO.bind ?_ (fun _ => ?_) | exact ih0 _ _ _
set_option maxHeartbeats 8000000 in
set_option maxRecDepth 100000 in
theorem laws_markWantS.calls (k : Nat) (P0_ : Nat → Prop) (u9000_ : Value) (l0 : List (S87)) (a1 : Int) (r1 : Int) (r2 : List (S87)) (w0 w : World) (hB : Below w0.heap.size w0 w) (ho0 : Kd.R k87 87 w w0.heap.size P0_ u9000_ l0) (h : laws_markWantS.f k l0 a1 = some (r1, r2)) :
  Calls Try.prog 52 #[u9000_, .int .i64 a1] w fun e w' => e = .returned (.int .i64 r1) ∧ Kd.R k87 87 w' w0.heap.size (fun k_ => (P0_ k_ ∨ w.heap.size ≤ k_)) u9000_ r2 ∧ Below w0.heap.size w0 w' ∧ Kept w w' (fun k_ => P0_ k_) := by
 have HO0 := Aside0.mk (show Kd.R k87 87 w w0.heap.size (fun k_ => (P0_ k_ ∨ w.heap.size ≤ k_)) u9000_ l0 from Kd.R_mono ho0 (fun k_ hk => (.inl hk)))
 have HK := Aside0.mk (Kept.refl w (fun k_ => P0_ k_))
 have HW0 := Aside0.mk hB.size
 have HB := Aside0.mk hB
 clear hB
 have H : (laws_markWantS.l0 k l0 a1 0) = some (r1, r2) := h
 clear h
 have H' := Aside0.mk H
 clear H
 go_enter Try.func52, Try.ntmps52
 go_wp2
 go_loopg [1, 5] k (fun kq v1 v5 w' => ∃ (x0_1 : List (S87)) (x1_1 : Int) (x5_1 : Int), v1 = .int .i64 x1_1 ∧ v5 = .int .i64 x5_1 ∧ Aside0 (laws_markWantS.l0 kq x0_1 x1_1 x5_1 = some (r1, r2)) ∧ Aside0 (kq ≤ k) ∧ Aside0 (Kd.R k87 87 w' w0.heap.size (fun k_ => (P0_ k_ ∨ w.heap.size ≤ k_)) u9000_ x0_1) ∧ Aside0 (Kept w w' (fun k_ => P0_ k_)) ∧ Aside0 (Below w0.heap.size w0 w'))
 case atStart => exact ⟨(l0), (a1), (0), rS, rS, H', ⟨Nat.le_refl _⟩, ⟨rK HO0⟩, ⟨by repeat (first | (with_reducible first | exact HK.out | apply Kept.alloc | apply Kept.drewN | apply Kept.drew) | exact HK.out)⟩, ⟨bA⟩⟩
 case round =>
  clear H'
  try clear p2
  obtain ⟨x0_1, x1_1, x5_1, rfl, rfl, HA, HK1, HO_0, HK, HB⟩ := hrel
  cases gk with
  | zero => exact absurd HA.out (by simp [laws_markWantS.l0])
  | succ k1 =>
   have H := HA.out
   clear HA
   simp only [laws_markWantS.l0] at H
   by_cases c3 : x5_1 < (x0_1.length : Int)
   ·
    rw [if_pos c3] at H
    have c3b0 : decide (x5_1 < (x0_1.length : Int)) = true := decide_eq_true c3
    clear c3
    have c4 : 0 ≤ x5_1 := ifN H
    replace H := ifT H
    have c4b0 : decide (0 ≤ x5_1) = true := decide_eq_true c4
    clear c4
    obtain ⟨y245, hy245⟩ : ∃ y_ : List (S87), y_ = (x0_1.set (x5_1 : Int).toNat (⟨x1_1, (rd_T87 x0_1 x5_1).f1⟩ : S87)) := ⟨_, rfl⟩
    replace H : (laws_markWantS.l0 k1 (y245.set (x5_1 : Int).toNat (⟨(rd_T87 y245 x5_1).f0, wrap64 (x1_1 + 1)⟩ : S87)) (wrap64 ((wrap64 (x1_1 + 1)) + 1)) (wrap64 (x5_1 + 1))) = some (r1, r2) := by first | (rw [hy245]; with_reducible exact H) | (have H2_ := (Option.bind_some _ _).symm.trans H; rw [hy245]; with_reducible exact H2_) | (have H2_ := (Option.bind_some _ _).symm.trans H; with_reducible exact H2_) | with_reducible exact H | (rw [hy245]; exact H) | exact H
    have Ny245 := Aside0.mk hy245
    clear hy245
    obtain ⟨y246, hy246⟩ : ∃ y_ : List (S87), y_ = (y245.set (x5_1 : Int).toNat (⟨(rd_T87 y245 x5_1).f0, wrap64 (x1_1 + 1)⟩ : S87)) := ⟨_, rfl⟩
    replace H : (laws_markWantS.l0 k1 y246 (wrap64 ((wrap64 (x1_1 + 1)) + 1)) (wrap64 (x5_1 + 1))) = some (r1, r2) := by first | (rw [hy246]; with_reducible exact H) | (have H2_ := (Option.bind_some _ _).symm.trans H; rw [hy246]; with_reducible exact H2_) | (have H2_ := (Option.bind_some _ _).symm.trans H; with_reducible exact H2_) | with_reducible exact H | (rw [hy246]; exact H) | exact H
    have Ny246 := Aside0.mk hy246
    clear hy246
    have H' := Aside0.mk H
    clear H
    obtain ⟨Ao7, co7, eo7⟩ := Kd.R_slice HO_0.out
    subst eo7
    have p5 : 0 ≤ (x5_1 : Int) := dA
    have q5 : (x5_1 : Int) < ((x0_1.length : Int) : Int) := dA
    obtain ⟨go5, co5, eo5, gb5, gl5, cl5, HG5⟩ := Kd.R_form HO_0.out (by omega)
    (first | cases eo5 | (injection eo5 with ea_ en_ ec_; (first | subst ea_ | (injection ea_ with ea_; subst ea_)); subst ec_; clear en_))
    have GB5 := Aside0.mk gb5
    have GG5 := Aside0.mk HG5
    clear gb5 gl5 HG5
    have HMgo5 := Aside0.mk (show (P0_ go5 ∨ w.heap.size ≤ go5) from (HO_0.out.1 _ rfl))
    obtain ⟨ce5, hcl5, hM5, hcc5, hfr5⟩ := Kd.R_elem HO_0.out z87 (x5_1 : Int) p5 q5
    obtain rfl := k87_openM hM5
    have hx5_0 : wr.cell? ⟨go5, (x5_1 : Int).toNat * 2, none⟩ = some (.int .i64 ((rd_T87 x0_1 x5_1).f0)) := hcc5 0 _ rfl
    have hx5_1 : wr.cell? ⟨go5, (x5_1 : Int).toNat * 2 + 1, none⟩ = some (.int .i64 ((rd_T87 x0_1 x5_1).f1)) := hcc5 1 _ rfl
    have hf5_0 : wr.frozen? ⟨go5, (x5_1 : Int).toNat * 2, none⟩ = false := hfr5 0
    have hf5_1 : wr.frozen? ⟨go5, (x5_1 : Int).toNat * 2 + 1, none⟩ = false := hfr5 1
    clear hcl5 hcc5 hfr5 hM5
    replace p5 := eq_true p5
    replace q5 := eq_true q5
    have HX8 := Aside0.mk (show Kd.R k87 87 wr w0.heap.size (fun k_ => (P0_ k_ ∨ w.heap.size ≤ k_)) (.slice (some ⟨go5, 0, none⟩) x0_1.length co7) x0_1 from (rK HO_0))
    obtain ⟨ce8, hcl8, hM8, hcc8, hfr8⟩ := Kd.R_elem HX8.out z87 (x5_1 : Int) (dA) (by have h_ : (x5_1 : Int) < ((x0_1.length : Int) : Int) := dA; first | exact h_ | (have e_ := (Kd.R_reads' HO_0.out).1; omega) | simpa using h_)
    obtain rfl := k87_openM hM8
    have HP8 := Kd.R_seg HX8.out (x5_1 : Int) (dA) (by have h_ : (x5_1 : Int) < ((x0_1.length : Int) : Int) := dA; first | exact h_ | (have e_ := (Kd.R_reads' HO_0.out).1; omega) | simpa using h_) (seg := [.int .i64 x1_1]) (j := 0) hcl8 hcc8 (show 1 ≤ 2 from by decide) (x' := (⟨x1_1, (rd_T87 x0_1 x5_1).f1⟩ : S87)) (k87_mkM _ _ _ (⟨x1_1, (rd_T87 x0_1 x5_1).f1⟩ : S87) ) (fun _ hk => hk)
    have hx8_0 := hcc8 0 _ rfl
    (try simp only [show (k87).sz = 2 from rfl, Nat.mul_one, Nat.add_zero] at hx8_0)
    have hf8_0 := hfr8 0
    (try simp only [show (k87).sz = 2 from rfl, Nat.mul_one, Nat.add_zero] at hf8_0)
    clear hcl8 hcc8 hfr8 hM8
    go_wp2_with (first | ((with_reducible refine gate_store (t := 3) (p := 16) rfl ?_); refine store_event (t := 3) (p := 16) (v := ?vo_w9) (w1 := (wr.setCell ⟨go5, (x5_1 : Int).toNat * 2, none⟩ (.int .i64 x1_1))) ?hg ?ho ?hn ?hr ?_; (case ho => rfl); (case hg => rfl); (case hn => rfl); (case hr => first | (go_simp; done) | (go_simp; rfl)); intro w9 hw; have hg : wr.grownBy w9 (some go5) := (by rw [hw]; exact HP8.2); have hp_ : Kd.R k87 87 w9 w0.heap.size (fun k_ => (P0_ k_ ∨ w.heap.size ≤ k_)) (.slice (some ⟨go5, 0, none⟩) x0_1.length co7) y245 := (by rw [hw, Ny245.out]; exact HP8.1); clear HP8; have n0_ := Aside0.mk (hp_); have n1_ := Aside0.mk ((by rw [hw]; exact below_set (HB.out) GB5.out : Below w0.heap.size w0 w9)); have n2_ := Aside0.mk (Kept.of_grown (S := (fun k_ => P0_ k_)) hg (by repeat (first | (with_reducible first | exact HK.out | apply Kept.alloc | apply Kept.drewN | apply Kept.drew) | exact HK.out)) (fun k_ e_ => (HO_0.out.1 k_ e_))); clear HO_0; clear HB; clear HK; have HO_0 := n0_; have HB := n1_; have HK := n2_; clear n0_ n1_ n2_; clear hg hw hp_; have p6 : 0 ≤ (x5_1 : Int) := dA; have q6 : (x5_1 : Int) < ((x0_1.length : Int) : Int) := dA; obtain ⟨ce6, hcl6, hM6, hcc6, hfr6⟩ := Kd.R_elem HO_0.out z87 (x5_1 : Int) p6 q6; obtain rfl := k87_openM hM6; have hx6_0 : w9.cell? ⟨go5, (x5_1 : Int).toNat * 2, none⟩ = some (.int .i64 ((rd_T87 y245 x5_1).f0)) := hcc6 0 _ rfl; have hx6_1 : w9.cell? ⟨go5, (x5_1 : Int).toNat * 2 + 1, none⟩ = some (.int .i64 ((rd_T87 y245 x5_1).f1)) := hcc6 1 _ rfl; have hf6_0 : w9.frozen? ⟨go5, (x5_1 : Int).toNat * 2, none⟩ = false := hfr6 0; have hf6_1 : w9.frozen? ⟨go5, (x5_1 : Int).toNat * 2 + 1, none⟩ = false := hfr6 1; clear hcl6 hcc6 hfr6 hM6; replace p6 := eq_true p6; replace q6 := eq_true q6; have HX10 := Aside0.mk (show Kd.R k87 87 w9 w0.heap.size (fun k_ => (P0_ k_ ∨ w.heap.size ≤ k_)) (.slice (some ⟨go5, 0, none⟩) x0_1.length co7) y245 from (rK HO_0)); obtain ⟨ce10, hcl10, hM10, hcc10, hfr10⟩ := Kd.R_elem HX10.out z87 (x5_1 : Int) (dA) (by have h_ : (x5_1 : Int) < ((x0_1.length : Int) : Int) := dA; first | exact h_ | (have e_ := (Kd.R_reads' HO_0.out).1; omega) | simpa using h_); obtain rfl := k87_openM hM10; have HP10 := Kd.R_seg HX10.out (x5_1 : Int) (dA) (by have h_ : (x5_1 : Int) < ((x0_1.length : Int) : Int) := dA; first | exact h_ | (have e_ := (Kd.R_reads' HO_0.out).1; omega) | simpa using h_) (seg := [.int .i64 (wrap64 (x1_1 + 1))]) (j := 1) hcl10 hcc10 (show 2 ≤ 2 from by decide) (x' := (⟨(rd_T87 y245 x5_1).f0, wrap64 (x1_1 + 1)⟩ : S87)) (k87_mkM _ _ _ (⟨(rd_T87 y245 x5_1).f0, wrap64 (x1_1 + 1)⟩ : S87) ) (fun _ hk => hk); have hx10_1 := hcc10 1 _ rfl; (try simp only [show (k87).sz = 2 from rfl, Nat.mul_one, Nat.add_zero] at hx10_1); have hf10_1 := hfr10 1; (try simp only [show (k87).sz = 2 from rfl, Nat.mul_one, Nat.add_zero] at hf10_1); clear hcl10 hcc10 hfr10 hM10) | ((with_reducible refine gate_store (t := 3) (p := 23) rfl ?_); refine store_event (t := 3) (p := 23) (v := ?vo_w11) (w1 := (w9.setCell ⟨go5, (x5_1 : Int).toNat * 2 + 1, none⟩ (.int .i64 (wrap64 (x1_1 + 1))))) ?hg ?ho ?hn ?hr ?_; (case ho => rfl); (case hg => rfl); (case hn => rfl); (case hr => first | (go_simp; done) | (go_simp; rfl)); intro w11 hw; have hg : w9.grownBy w11 (some go5) := (by rw [hw]; exact HP10.2); have hp_ : Kd.R k87 87 w11 w0.heap.size (fun k_ => (P0_ k_ ∨ w.heap.size ≤ k_)) (.slice (some ⟨go5, 0, none⟩) x0_1.length co7) y246 := (by rw [hw, Ny246.out]; exact HP10.1); clear HP10; have n0_ := Aside0.mk (hp_); have n1_ := Aside0.mk ((by rw [hw]; exact below_set (HB.out) GB5.out : Below w0.heap.size w0 w11)); have n2_ := Aside0.mk (Kept.of_grown (S := (fun k_ => P0_ k_)) hg (by repeat (first | (with_reducible first | exact HK.out | apply Kept.alloc | apply Kept.drewN | apply Kept.drew) | exact HK.out)) (fun k_ e_ => (HO_0.out.1 k_ e_))); clear HO_0; clear HB; clear HK; have HO_0 := n0_; have HB := n1_; have HK := n2_; clear n0_ n1_ n2_; clear hg hw hp_))
    go_roundg k1
    case measure => have := HK1.out; omega
    case rel => exact ⟨(y246), (wrap64 ((wrap64 (x1_1 + 1)) + 1)), (wrap64 (x5_1 + 1)), rS, rS, H', ⟨by have := HK1.out; omega⟩, ⟨rK HO_0⟩, ⟨by repeat (first | (with_reducible first | exact HK.out | apply Kept.alloc | apply Kept.drewN | apply Kept.drew) | exact HK.out)⟩, ⟨bA⟩⟩
   ·
    rw [if_neg c3] at H
    have c3b0 : decide (x5_1 < (x0_1.length : Int)) = false := decide_eq_false c3
    clear c3
    simp only [Option.some.injEq, Prod.mk.injEq] at H
    obtain ⟨rfl, rfl⟩ := H
    obtain ⟨Ao12, co12, eo12⟩ := Kd.R_slice HO_0.out
    subst eo12
    go_wp2
    go_ret
    exact ⟨rA, by (with_reducible repeat (first | apply Kd.R_alloc | apply Kd.R_drewN | apply Kd.R_drew)); exact HO_0.out, bA, by repeat (first | (with_reducible first | exact HK.out | apply Kept.alloc | apply Kept.drewN | apply Kept.drew) | exact HK.out)⟩

/-! ### laws_heldWantS: function 53 -/
def laws_heldWantS.l0 : Nat → List (S87) → Int → Int → Option (Int)
 | 0, _, _, _ => none
 | k + 1, x0, x1, x5 => if x5 < (x0.length : Int) then (if 0 ≤ x5 then (if ((rd_T87 x0 x5).f0) = x1 then (if ((rd_T87 x0 x5).f1) = (wrap64 (x1 + 1)) then (laws_heldWantS.l0 k x0 (wrap64 ((wrap64 (x1 + 1)) + 1)) (wrap64 (x5 + 1))) else (some (-1))) else (some (-1))) else (none)) else (some x1)
def laws_heldWantS.f (k : Nat) (l0 : List (S87)) (a1 : Int) : Option (Int) := laws_heldWantS.l0 k l0 a1 0
theorem laws_heldWantS.mono_l : ∀ k, (∀ y0 y1 y2, LeO (laws_heldWantS.l0 k y0 y1 y2) (laws_heldWantS.l0 (k + 1) y0 y1 y2))
 | 0 => fun _ _ _ r h => by simp [laws_heldWantS.l0] at h
 | k + 1 => by
  have ih0 := laws_heldWantS.mono_l k
  ·
   intro y0 y1 y2
   unfold laws_heldWantS.l0
   repeat' first | (with_reducible first | exact LeO.refl _ | exact LeO.none _ | refine LeO.ite ?_ ?_ | refine LeO.bind ?_ (fun _ => ?_) | exact ih0 _ _ _) | exact LeO.none _ | refine LeO.ite ?_ ?_ | refine LeO.bind ?_ (fun _ => ?_) | exact ih0 _ _ _
theorem laws_heldWantS.mono : ∀ a0 a1 k, LeO (laws_heldWantS.f k a0 a1) (laws_heldWantS.f (k + 1) a0 a1) := by
 intro a0 a1 k
 have ih0 := laws_heldWantS.mono_l k
 unfold laws_heldWantS.f
 repeat' first | (with_reducible first | exact LeO.refl _ | exact LeO.none _ | refine LeO.ite ?_ ?_ | refine LeO.bind ?_ (fun _ => ?_) | exact ih0 _ _ _) | exact LeO.none _ | refine LeO.ite ?_ ?_ | refine LeO.bind ?_ (fun _ => ?_) | exact ih0 _ _ _
set_option maxHeartbeats 8000000 in
set_option maxRecDepth 100000 in
theorem laws_heldWantS.calls (k : Nat) (A0 : Option Addr) (c0 : Nat) (l0 : List (S87)) (a1 : Int) (r : Int) (w : World) (hr0 : Kd.C k87 w A0 l0.length l0) (hc0 : l0.length ≤ c0) (h : laws_heldWantS.f k l0 a1 = some r) :
  Calls Try.prog 53 #[.slice A0 l0.length c0, .int .i64 a1] w fun e w' => e = .returned (.int .i64 r) ∧ Drawn0 w w' := by
 have HR0 := Aside0.mk hr0
 have HC0 := Aside0.mk hc0
 clear hr0 hc0
 have H : (laws_heldWantS.l0 k l0 a1 0) = some r := h
 clear h
 have H' := Aside0.mk H
 clear H
 go_enter Try.func53, Try.ntmps53
 go_wp2
 go_loopg [1, 5] k (fun kq v1 v5 w' => ∃ (x1_1 : Int) (x5_1 : Int), v1 = .int .i64 x1_1 ∧ v5 = .int .i64 x5_1 ∧ Aside0 (laws_heldWantS.l0 kq l0 x1_1 x5_1 = some r) ∧ Aside0 (kq ≤ k) ∧ Drawn0 w w')
 case atStart => exact ⟨(a1), (0), rS, rS, H', ⟨Nat.le_refl _⟩, by repeat (first | exact Drawn0.refl _ | apply Drawn0.step)⟩
 case round =>
  clear H'
  try clear p2
  obtain ⟨x1_1, x5_1, rfl, rfl, HA, HK1, ⟨m1, rfl⟩⟩ := hrel
  cases gk with
  | zero => exact absurd HA.out (by simp [laws_heldWantS.l0])
  | succ k1 =>
   have H := HA.out
   clear HA
   simp only [laws_heldWantS.l0] at H
   by_cases c3 : x5_1 < (l0.length : Int)
   ·
    rw [if_pos c3] at H
    have c3b0 : decide (x5_1 < (l0.length : Int)) = true := decide_eq_true c3
    clear c3
    have c4 : 0 ≤ x5_1 := ifN H
    replace H := ifT H
    have c4b0 : decide (0 ≤ x5_1) = true := decide_eq_true c4
    clear c4
    by_cases c5 : ((rd_T87 l0 x5_1).f0) = x1_1
    ·
     rw [if_pos c5] at H
     have c5b0 : (((rd_T87 l0 x5_1).f0) == x1_1) = true := beq_iff_eq.mpr c5
     have c5b1 : (((rd_T87 l0 x5_1).f0) != x1_1) = false := bne_eq_false_iff_eq.mpr c5
     clear c5
     by_cases c6 : ((rd_T87 l0 x5_1).f1) = (wrap64 (x1_1 + 1))
     ·
      rw [if_pos c6] at H
      have c6b0 : (((rd_T87 l0 x5_1).f1) == (wrap64 (x1_1 + 1))) = true := beq_iff_eq.mpr c6
      have c6b1 : (((rd_T87 l0 x5_1).f1) != (wrap64 (x1_1 + 1))) = false := bne_eq_false_iff_eq.mpr c6
      clear c6
      have H' := Aside0.mk H
      clear H
      have p247 : 0 ≤ (x5_1 : Int) := dA
      have q247 : x5_1 < (l0.length : Int) := dA
      obtain ⟨ad247, e247, hx247_0, hx247_1⟩ := at_T87 HR0.out x5_1 p247 q247
      cases e247
      replace p247 := eq_true p247
      replace q247 := eq_true q247
      have p248 : 0 ≤ (x5_1 : Int) := dA
      have q248 : x5_1 < (l0.length : Int) := dA
      obtain ⟨ad248, e248, hx248_0, hx248_1⟩ := at_T87 HR0.out x5_1 p248 q248
      obtain rfl : ad247 = ad248 := (by injection e248)
      replace p248 := eq_true p248
      replace q248 := eq_true q248
      go_wp2
      go_roundg k1
      case measure => have := HK1.out; omega
      case rel => exact ⟨(wrap64 ((wrap64 (x1_1 + 1)) + 1)), (wrap64 (x5_1 + 1)), rS, rS, H', ⟨by have := HK1.out; omega⟩, by repeat (first | exact Drawn0.refl _ | apply Drawn0.step)⟩
     ·
      rw [if_neg c6] at H
      have c6b0 : (((rd_T87 l0 x5_1).f1) == (wrap64 (x1_1 + 1))) = false := beq_eq_false_iff_ne.mpr c6
      have c6b1 : (((rd_T87 l0 x5_1).f1) != (wrap64 (x1_1 + 1))) = true := bne_iff_ne.mpr c6
      obtain rfl := Option.some.inj H
      have p247 : 0 ≤ (x5_1 : Int) := dA
      have q247 : x5_1 < (l0.length : Int) := dA
      obtain ⟨ad247, e247, hx247_0, hx247_1⟩ := at_T87 HR0.out x5_1 p247 q247
      cases e247
      replace p247 := eq_true p247
      replace q247 := eq_true q247
      have p248 : 0 ≤ (x5_1 : Int) := dA
      have q248 : x5_1 < (l0.length : Int) := dA
      obtain ⟨ad248, e248, hx248_0, hx248_1⟩ := at_T87 HR0.out x5_1 p248 q248
      obtain rfl : ad247 = ad248 := (by injection e248)
      replace p248 := eq_true p248
      replace q248 := eq_true q248
      go_wp2
      go_ret
      exact ⟨by first | rfl | (simp; done) | (simp [*]; done), by repeat (first | exact Drawn0.refl _ | apply Drawn0.step)⟩
    ·
     rw [if_neg c5] at H
     have c5b0 : (((rd_T87 l0 x5_1).f0) == x1_1) = false := beq_eq_false_iff_ne.mpr c5
     have c5b1 : (((rd_T87 l0 x5_1).f0) != x1_1) = true := bne_iff_ne.mpr c5
     obtain rfl := Option.some.inj H
     have p247 : 0 ≤ (x5_1 : Int) := dA
     have q247 : x5_1 < (l0.length : Int) := dA
     obtain ⟨ad247, e247, hx247_0, hx247_1⟩ := at_T87 HR0.out x5_1 p247 q247
     cases e247
     replace p247 := eq_true p247
     replace q247 := eq_true q247
     go_wp2
     go_ret
     exact ⟨by first | rfl | (simp; done) | (simp [*]; done), by repeat (first | exact Drawn0.refl _ | apply Drawn0.step)⟩
   ·
    rw [if_neg c3] at H
    have c3b0 : decide (x5_1 < (l0.length : Int)) = false := decide_eq_false c3
    clear c3
    obtain rfl := Option.some.inj H
    go_wp2
    go_ret
    exact ⟨by first | rfl | (simp; done) | (simp [*]; done), by repeat (first | exact Drawn0.refl _ | apply Drawn0.step)⟩

/-! ### laws_FnExactAddWant: function 10 -/
mutual
def laws_FnExactAddWant.j0 : Nat → List (S92) → List (S94) → Int → List (S87) → Bool → List (S90) → List (S87) → List (S87) → Bool → Bool → Option (Bool)
 | 0, _, _, _, _, _, _, _, _, _, _ => none
 | k + 1, x0, x1, x2, x8, x9, x10, x11, x12, x13, x57 => if x57 = true then (none) else ((laws_toPathS.f k x0).bind fun t272 => ((laws_eqPathS.f k x10 t272).bind fun t275 => (if t275 = true then ((laws_toWantS.f k x1).bind fun t276 => ((laws_eqWantS.f k x11 t276).bind fun t279 => (if t279 = true then ((laws_markPathS.f k x10 1).bind fun bt280 => ((laws_markWantS.f k x11 bt280.1).bind fun bt282 => (if bt282.1 < 0 then (laws_FnExactAddWant.j1 k x0 x1 x2 x8 x9 x12 true) else ((laws_eqWantS.f k x12 x8).bind fun t284 => (if t284 = true then (laws_FnExactAddWant.j1 k x0 x1 x2 x8 x9 x12 (x13 != x9)) else (laws_FnExactAddWant.j1 k x0 x1 x2 x8 x9 x12 true)))))) else (none)))) else (none))))
def laws_FnExactAddWant.j1 : Nat → List (S92) → List (S94) → Int → List (S87) → Bool → List (S87) → Bool → Option (Bool)
 | 0, _, _, _, _, _, _, _ => none
 | k + 1, x0, x1, x2, x8, x9, x12, x86 => if x86 = true then (none) else ((laws_markWantS.f k x12 1).bind fun bt285 => ((laws_heldWantS.f k bt285.2 1).bind fun t287 => (if t287 < 0 then (none) else (if t287 = bt285.1 then ((laws_toPathS.f k x0).bind fun t288 => ((laws_toWantS.f k x1).bind fun t291 => ((impl_AddWant.f k t288 t291 x2).bind fun bt294 => ((laws_eqWantS.f k bt294.1 x8).bind fun t298 => (if t298 = true then (laws_FnExactAddWant.j2 k bt285.2 bt285.1 (bt294.2 != x9)) else (laws_FnExactAddWant.j2 k bt285.2 bt285.1 true)))))) else (none)))))
def laws_FnExactAddWant.j2 : Nat → List (S87) → Int → Bool → Option (Bool)
 | 0, _, _, _ => none
 | k + 1, x12, x15, x115 => if x115 = true then (none) else ((laws_heldWantS.f k x12 1).bind fun t299 => (if t299 < 0 then (none) else (if t299 = x15 then (some true) else (none))))
end
def laws_FnExactAddWant.f (k : Nat) (l0 : List (S92)) (l1 : List (S94)) (a2 : Int) : Option (Bool) := (laws_szPathS.f l0 1048576).bind fun t249 => (if t249 < 0 then (some true) else ((laws_szWantS.f l1 t249).bind fun t250 => (if t250 < 0 then (some true) else ((laws_toPathS.f k l0).bind fun t251 => ((laws_toWantS.f k l1).bind fun t254 => ((spec_AddWant.f k t251 t254 a2).bind fun bt257 => ((laws_toPathS.f k l0).bind fun t261 => ((laws_toWantS.f k l1).bind fun t264 => ((impl_AddWant.f k t261 t264 a2).bind fun bt267 => ((laws_eqWantS.f k bt267.1 bt257.1).bind fun t271 => (if t271 = true then (laws_FnExactAddWant.j0 k l0 l1 a2 bt257.1 bt257.2 t261 t264 bt267.1 bt267.2 (bt267.2 != bt257.2)) else (laws_FnExactAddWant.j0 k l0 l1 a2 bt257.1 bt257.2 t261 t264 bt267.1 bt267.2 true))))))))))))
theorem laws_FnExactAddWant.mono_l : ∀ k, (∀ y0 y1 y2 y3 y4 y5 y6 y7 y8 y9, LeO (laws_FnExactAddWant.j0 k y0 y1 y2 y3 y4 y5 y6 y7 y8 y9) (laws_FnExactAddWant.j0 (k + 1) y0 y1 y2 y3 y4 y5 y6 y7 y8 y9)) ∧ (∀ y0 y1 y2 y3 y4 y5 y6, LeO (laws_FnExactAddWant.j1 k y0 y1 y2 y3 y4 y5 y6) (laws_FnExactAddWant.j1 (k + 1) y0 y1 y2 y3 y4 y5 y6)) ∧ (∀ y0 y1 y2, LeO (laws_FnExactAddWant.j2 k y0 y1 y2) (laws_FnExactAddWant.j2 (k + 1) y0 y1 y2))
 | 0 => ⟨fun _ _ _ _ _ _ _ _ _ _ r h => by simp [laws_FnExactAddWant.j0] at h, fun _ _ _ _ _ _ _ r h => by simp [laws_FnExactAddWant.j1] at h, fun _ _ _ r h => by simp [laws_FnExactAddWant.j2] at h⟩
 | k + 1 => by
  obtain ⟨ih0, ih1, ih2⟩ := laws_FnExactAddWant.mono_l k
  refine ⟨?_, ?_, ?_⟩
  ·
   intro y0 y1 y2 y3 y4 y5 y6 y7 y8 y9
   unfold laws_FnExactAddWant.j0
   repeat' first | (with_reducible first | exact LeO.refl _ | exact LeO.none _ | refine LeO.ite ?_ ?_ | refine LeO.bind ?_ (fun _ => ?_) | exact ih0 _ _ _ _ _ _ _ _ _ _ | exact ih1 _ _ _ _ _ _ _ | exact ih2 _ _ _ | exact impl_AddWant.mono _ _ _ _ | exact laws_eqPathS.mono _ _ _ | exact laws_eqWantS.mono _ _ _ | exact laws_heldWantS.mono _ _ _ | exact laws_markPathS.mono _ _ _ | exact laws_markWantS.mono _ _ _ | exact laws_toPathS.mono _ _ | exact laws_toWantS.mono _ _ | exact spec_AddWant.mono _ _ _ _) | exact LeO.none _ | refine LeO.ite ?_ ?_ | refine LeO.bind ?_ (fun _ => ?_) | exact ih0 _ _ _ _ _ _ _ _ _ _ | exact ih1 _ _ _ _ _ _ _ | exact ih2 _ _ _ | exact impl_AddWant.mono _ _ _ _ | exact laws_eqPathS.mono _ _ _ | exact laws_eqWantS.mono _ _ _ | exact laws_heldWantS.mono _ _ _ | exact laws_markPathS.mono _ _ _ | exact laws_markWantS.mono _ _ _ | exact laws_toPathS.mono _ _ | exact laws_toWantS.mono _ _ | exact spec_AddWant.mono _ _ _ _
  ·
   intro y0 y1 y2 y3 y4 y5 y6
   unfold laws_FnExactAddWant.j1
   repeat' first | (with_reducible first | exact LeO.refl _ | exact LeO.none _ | refine LeO.ite ?_ ?_ | refine LeO.bind ?_ (fun _ => ?_) | exact ih0 _ _ _ _ _ _ _ _ _ _ | exact ih1 _ _ _ _ _ _ _ | exact ih2 _ _ _ | exact impl_AddWant.mono _ _ _ _ | exact laws_eqPathS.mono _ _ _ | exact laws_eqWantS.mono _ _ _ | exact laws_heldWantS.mono _ _ _ | exact laws_markPathS.mono _ _ _ | exact laws_markWantS.mono _ _ _ | exact laws_toPathS.mono _ _ | exact laws_toWantS.mono _ _ | exact spec_AddWant.mono _ _ _ _) | exact LeO.none _ | refine LeO.ite ?_ ?_ | refine LeO.bind ?_ (fun _ => ?_) | exact ih0 _ _ _ _ _ _ _ _ _ _ | exact ih1 _ _ _ _ _ _ _ | exact ih2 _ _ _ | exact impl_AddWant.mono _ _ _ _ | exact laws_eqPathS.mono _ _ _ | exact laws_eqWantS.mono _ _ _ | exact laws_heldWantS.mono _ _ _ | exact laws_markPathS.mono _ _ _ | exact laws_markWantS.mono _ _ _ | exact laws_toPathS.mono _ _ | exact laws_toWantS.mono _ _ | exact spec_AddWant.mono _ _ _ _
  ·
   intro y0 y1 y2
   unfold laws_FnExactAddWant.j2
   repeat' first | (with_reducible first | exact LeO.refl _ | exact LeO.none _ | refine LeO.ite ?_ ?_ | refine LeO.bind ?_ (fun _ => ?_) | exact ih0 _ _ _ _ _ _ _ _ _ _ | exact ih1 _ _ _ _ _ _ _ | exact ih2 _ _ _ | exact impl_AddWant.mono _ _ _ _ | exact laws_eqPathS.mono _ _ _ | exact laws_eqWantS.mono _ _ _ | exact laws_heldWantS.mono _ _ _ | exact laws_markPathS.mono _ _ _ | exact laws_markWantS.mono _ _ _ | exact laws_toPathS.mono _ _ | exact laws_toWantS.mono _ _ | exact spec_AddWant.mono _ _ _ _) | exact LeO.none _ | refine LeO.ite ?_ ?_ | refine LeO.bind ?_ (fun _ => ?_) | exact ih0 _ _ _ _ _ _ _ _ _ _ | exact ih1 _ _ _ _ _ _ _ | exact ih2 _ _ _ | exact impl_AddWant.mono _ _ _ _ | exact laws_eqPathS.mono _ _ _ | exact laws_eqWantS.mono _ _ _ | exact laws_heldWantS.mono _ _ _ | exact laws_markPathS.mono _ _ _ | exact laws_markWantS.mono _ _ _ | exact laws_toPathS.mono _ _ | exact laws_toWantS.mono _ _ | exact spec_AddWant.mono _ _ _ _
theorem laws_FnExactAddWant.mono : ∀ a0 a1 a2 k, LeO (laws_FnExactAddWant.f k a0 a1 a2) (laws_FnExactAddWant.f (k + 1) a0 a1 a2) := by
 intro a0 a1 a2 k
 obtain ⟨ih0, ih1, ih2⟩ := laws_FnExactAddWant.mono_l k
 unfold laws_FnExactAddWant.f
 repeat' first | (with_reducible first | exact LeO.refl _ | exact LeO.none _ | refine LeO.ite ?_ ?_ | refine LeO.bind ?_ (fun _ => ?_) | exact ih0 _ _ _ _ _ _ _ _ _ _ | exact ih1 _ _ _ _ _ _ _ | exact ih2 _ _ _ | exact impl_AddWant.mono _ _ _ _ | exact laws_eqPathS.mono _ _ _ | exact laws_eqWantS.mono _ _ _ | exact laws_heldWantS.mono _ _ _ | exact laws_markPathS.mono _ _ _ | exact laws_markWantS.mono _ _ _ | exact laws_toPathS.mono _ _ | exact laws_toWantS.mono _ _ | exact spec_AddWant.mono _ _ _ _) | exact LeO.none _ | refine LeO.ite ?_ ?_ | refine LeO.bind ?_ (fun _ => ?_) | exact ih0 _ _ _ _ _ _ _ _ _ _ | exact ih1 _ _ _ _ _ _ _ | exact ih2 _ _ _ | exact impl_AddWant.mono _ _ _ _ | exact laws_eqPathS.mono _ _ _ | exact laws_eqWantS.mono _ _ _ | exact laws_heldWantS.mono _ _ _ | exact laws_markPathS.mono _ _ _ | exact laws_markWantS.mono _ _ _ | exact laws_toPathS.mono _ _ | exact laws_toWantS.mono _ _ | exact spec_AddWant.mono _ _ _ _
set_option maxHeartbeats 8000000 in
set_option maxRecDepth 100000 in
theorem laws_FnExactAddWant.calls (k : Nat) (A0 : Option Addr) (c0 : Nat) (l0 : List (S92)) (A1 : Option Addr) (c1 : Nat) (l1 : List (S94)) (a2 : Int) (r : Bool) (w : World) (hr0 : Kd.C k92 w A0 l0.length l0) (hc0 : l0.length ≤ c0) (hr1 : Kd.C k94 w A1 l1.length l1) (hc1 : l1.length ≤ c1) (h : laws_FnExactAddWant.f k l0 l1 a2 = some r) :
  Calls Try.prog 10 #[.slice A0 l0.length c0, .slice A1 l1.length c1, .int .i64 a2] w fun e w' => e = .returned (.bool r) ∧ Below w.heap.size w w' := by
 have HR0 := Aside0.mk hr0
 have HC0 := Aside0.mk hc0
 clear hr0 hc0
 have HR1 := Aside0.mk hr1
 have HC1 := Aside0.mk hc1
 clear hr1 hc1
 have HB := Aside0.mk (Below.refl w.heap.size w)
 have H : ((laws_szPathS.f l0 1048576).bind fun t249 => (if t249 < 0 then (some true) else ((laws_szWantS.f l1 t249).bind fun t250 => (if t250 < 0 then (some true) else ((laws_toPathS.f k l0).bind fun t251 => ((laws_toWantS.f k l1).bind fun t254 => ((spec_AddWant.f k t251 t254 a2).bind fun bt257 => ((laws_toPathS.f k l0).bind fun t261 => ((laws_toWantS.f k l1).bind fun t264 => ((impl_AddWant.f k t261 t264 a2).bind fun bt267 => ((laws_eqWantS.f k bt267.1 bt257.1).bind fun t271 => (if t271 = true then (laws_FnExactAddWant.j0 k l0 l1 a2 bt257.1 bt257.2 t261 t264 bt267.1 bt267.2 (bt267.2 != bt257.2)) else (laws_FnExactAddWant.j0 k l0 l1 a2 bt257.1 bt257.2 t261 t264 bt267.1 bt267.2 true))))))))))))) = some r := h
 clear h
 obtain ⟨t249, A4, H⟩ := bindE H
 try dsimp only at H
 by_cases c5 : t249 < 0
 ·
  rw [if_pos c5] at H
  have c5b0 : decide (t249 < 0) = true := decide_eq_true c5
  clear c5
  obtain rfl := Option.some.inj H
  go_enter Try.func10, Try.ntmps10
  go_wp2_with (first | ((with_reducible refine gate_callee (f := 31) rfl ?_); refine gL (some 21) Try.func31 #[.slice A0 l0.length c0, .int .i64 1048576] ?_; (with_reducible refine (laws_szPathS.calls _ _ l0 1048576 t249 _ ?side1 ?side2 A4.out).mono ?_); (case side1 => exact cO HR0); (case side2 => exact HC0.out); rintro e w' ⟨rfl, ⟨nd, rfl⟩⟩; refine ⟨_, rfl, ?_⟩))
  go_ret
  exact ⟨rA, bA⟩
 ·
  rw [if_neg c5] at H
  have c5b0 : decide (t249 < 0) = false := decide_eq_false c5
  clear c5
  obtain ⟨t250, A6, H⟩ := bindE H
  try dsimp only at H
  by_cases c7 : t250 < 0
  ·
   rw [if_pos c7] at H
   have c7b0 : decide (t250 < 0) = true := decide_eq_true c7
   clear c7
   obtain rfl := Option.some.inj H
   go_enter Try.func10, Try.ntmps10
   go_wp2_with (first | ((with_reducible refine gate_callee (f := 31) rfl ?_); refine gL (some 21) Try.func31 #[.slice A0 l0.length c0, .int .i64 1048576] ?_; (with_reducible refine (laws_szPathS.calls _ _ l0 1048576 t249 _ ?side1 ?side2 A4.out).mono ?_); (case side1 => exact cO HR0); (case side2 => exact HC0.out); rintro e w' ⟨rfl, ⟨nd, rfl⟩⟩; refine ⟨_, rfl, ?_⟩) | ((with_reducible refine gate_callee (f := 32) rfl ?_); refine gL (some 26) Try.func32 #[.slice A1 l1.length c1, .int .i64 t249] ?_; (with_reducible refine (laws_szWantS.calls _ _ l1 t249 t250 _ ?side1 ?side2 A6.out).mono ?_); (case side1 => exact cO HR1); (case side2 => exact HC1.out); rintro e w' ⟨rfl, ⟨nd, rfl⟩⟩; refine ⟨_, rfl, ?_⟩))
   go_ret
   exact ⟨rA, bA⟩
  ·
   rw [if_neg c7] at H
   have c7b0 : decide (t250 < 0) = false := decide_eq_false c7
   clear c7
   obtain ⟨t251, A8, H⟩ := bindE H
   try dsimp only at H
   obtain ⟨t254, A9, H⟩ := bindE H
   try dsimp only at H
   obtain ⟨⟨t257, t258⟩, A10, H⟩ := bindE H
   try dsimp only at H
   obtain ⟨t261, A11, H⟩ := bindE H
   try dsimp only at H
   obtain ⟨t264, A12, H⟩ := bindE H
   try dsimp only at H
   obtain ⟨⟨t267, t268⟩, A13, H⟩ := bindE H
   try dsimp only at H
   have HC14 := Aside0.mk H
   clear H
   go_enter Try.func10, Try.ntmps10
   go_upto_region 12 with (first | ((with_reducible refine gate_callee (f := 31) rfl ?_); refine gL (some 21) Try.func31 #[.slice A0 l0.length c0, .int .i64 1048576] ?_; (with_reducible refine (laws_szPathS.calls _ _ l0 1048576 t249 _ ?side1 ?side2 A4.out).mono ?_); (case side1 => exact cO HR0); (case side2 => exact HC0.out); rintro e w' ⟨rfl, ⟨nd, rfl⟩⟩; refine ⟨_, rfl, ?_⟩) | ((with_reducible refine gate_callee (f := 32) rfl ?_); refine gL (some 26) Try.func32 #[.slice A1 l1.length c1, .int .i64 t249] ?_; (with_reducible refine (laws_szWantS.calls _ _ l1 t249 t250 _ ?side1 ?side2 A6.out).mono ?_); (case side1 => exact cO HR1); (case side2 => exact HC1.out); rintro e w' ⟨rfl, ⟨nd, rfl⟩⟩; refine ⟨_, rfl, ?_⟩) | ((with_reducible refine gate_callee (f := 34) rfl ?_); refine gL (some 31) Try.func34 #[.slice A0 l0.length c0] ?_; (with_reducible refine (laws_toPathS.calls k _ _ l0 t251 _ ?side1 ?side2 A8.out).mono ?_); (case side1 => exact cO HR0); (case side2 => exact HC0.out); rintro e w15 ⟨v252, rfl, ho0, hb⟩; refine ⟨_, rfl, ?_⟩; have HO253 := Aside0.mk (Kd.R_lower ho0 (below_size bA)); replace HB := Aside0.mk (below_step bA hb); (try clear hb); (try clear hb2); (try clear hk); (try clear hi); (try clear ho0)) | ((with_reducible refine gate_callee (f := 35) rfl ?_); refine gL (some 33) Try.func35 #[.slice A1 l1.length c1] ?_; (with_reducible refine (laws_toWantS.calls k _ _ l1 t254 _ ?side1 ?side2 A9.out).mono ?_); (case side1 => exact cB HR1); (case side2 => exact HC1.out); rintro e w16 ⟨v255, rfl, ho0, hb⟩; refine ⟨_, rfl, ?_⟩; replace HO253 := Aside0.mk (Kd.R_below (rK HO253) hb); have HO256 := Aside0.mk (Kd.R_lower ho0 (below_size bA)); replace HB := Aside0.mk (below_step bA hb); (try clear hb); (try clear hb2); (try clear hk); (try clear hi); (try clear ho0); obtain ⟨Ao17, co17, eo17⟩ := Kd.R_slice HO253.out; subst eo17; obtain ⟨Ao18, co18, eo18⟩ := Kd.R_slice HO256.out; subst eo18) | ((with_reducible refine gate_callee (f := 50) rfl ?_); refine gL (some 35) Try.func50 #[.slice Ao17 t251.length co17, .slice Ao18 t254.length co18, .int .i64 a2] ?_; (with_reducible refine (spec_AddWant.calls k _ _ t251 _ _ t254 a2 t257 t258 _ ?side1 ?side2 ?side3 ?side4 A10.out).mono ?_); (case side1 => exact cO ⟨(Kd.R_reads' HO253.out).2.2⟩); (case side2 => exact (Kd.R_reads' HO253.out).2.1); (case side3 => exact cO ⟨(Kd.R_reads' HO256.out).2.2⟩); (case side4 => exact (Kd.R_reads' HO256.out).2.1); rintro e w19 ⟨v259, rfl, ho0, hb⟩; refine ⟨_, rfl, ?_⟩; replace HO253 := Aside0.mk (Kd.R_below (rK HO253) hb); have HO260 := Aside0.mk (Kd.R_lower (Kd.R_new' ho0 (Kd.R_lt (rK HO256))) (below_size bA)); replace HO256 := Aside0.mk (Kd.R_elder' (rK HO256) (Kd.R_base ho0) hb); replace HB := Aside0.mk (below_step bA hb); (try clear hb); (try clear hb2); (try clear hk); (try clear hi); (try clear ho0)) | ((with_reducible refine gate_callee (f := 34) rfl ?_); refine gL (some 39) Try.func34 #[.slice A0 l0.length c0] ?_; (with_reducible refine (laws_toPathS.calls k _ _ l0 t261 _ ?side1 ?side2 A11.out).mono ?_); (case side1 => exact cB HR0); (case side2 => exact HC0.out); rintro e w20 ⟨v262, rfl, ho0, hb⟩; refine ⟨_, rfl, ?_⟩; replace HO256 := Aside0.mk (Kd.R_below (rK HO256) hb); replace HO260 := Aside0.mk (Kd.R_below (rK HO260) hb); have HO263 := Aside0.mk (Kd.R_lower (Kd.R_new' ho0 (Kd.R_lt (rK HO253))) (below_size bA)); replace HO253 := Aside0.mk (Kd.R_elder' (rK HO253) (Kd.R_base ho0) hb); replace HB := Aside0.mk (below_step bA hb); (try clear hb); (try clear hb2); (try clear hk); (try clear hi); (try clear ho0)) | ((with_reducible refine gate_callee (f := 35) rfl ?_); refine gL (some 41) Try.func35 #[.slice A1 l1.length c1] ?_; (with_reducible refine (laws_toWantS.calls k _ _ l1 t264 _ ?side1 ?side2 A12.out).mono ?_); (case side1 => exact cB HR1); (case side2 => exact HC1.out); rintro e w21 ⟨v265, rfl, ho0, hb⟩; refine ⟨_, rfl, ?_⟩; replace HO253 := Aside0.mk (Kd.R_below (rK HO253) hb); replace HO263 := Aside0.mk (Kd.R_below (rK HO263) hb); have HO266 := Aside0.mk (Kd.R_lower (Kd.R_new' (Kd.R_new' ho0 (Kd.R_lt (rK HO256))) (Kd.R_lt (rK HO260))) (below_size bA)); replace HO256 := Aside0.mk (Kd.R_elder' (rK HO256) (Kd.R_base ho0) hb); replace HO260 := Aside0.mk (Kd.R_elder' (rK HO260) (Kd.R_base ho0) hb); replace HB := Aside0.mk (below_step bA hb); (try clear hb); (try clear hb2); (try clear hk); (try clear hi); (try clear ho0); obtain ⟨Ao22, co22, eo22⟩ := Kd.R_slice HO263.out; subst eo22; obtain ⟨Ao23, co23, eo23⟩ := Kd.R_slice HO266.out; subst eo23) | ((with_reducible refine gate_callee (f := 51) rfl ?_); refine gL (some 46) Try.func51 #[.slice Ao22 t261.length co22, .slice Ao23 t264.length co23, .int .i64 a2] ?_; (with_reducible refine (impl_AddWant.calls k _ _ t261 _ _ t264 a2 t267 t268 _ ?side1 ?side2 ?side3 ?side4 A13.out).mono ?_); (case side1 => exact cO ⟨(Kd.R_reads' HO263.out).2.2⟩); (case side2 => exact (Kd.R_reads' HO263.out).2.1); (case side3 => exact cO ⟨(Kd.R_reads' HO266.out).2.2⟩); (case side4 => exact (Kd.R_reads' HO266.out).2.1); rintro e w24 ⟨v269, rfl, ho0, hb⟩; refine ⟨_, rfl, ?_⟩; replace HO253 := Aside0.mk (Kd.R_below (rK HO253) hb); replace HO263 := Aside0.mk (Kd.R_below (rK HO263) hb); have HO270 := Aside0.mk (Kd.R_lower (Kd.R_new' (Kd.R_new' (Kd.R_new' ho0 (Kd.R_lt (rK HO256))) (Kd.R_lt (rK HO260))) (Kd.R_lt (rK HO266))) (below_size bA)); replace HO256 := Aside0.mk (Kd.R_elder' (rK HO256) (Kd.R_base ho0) hb); replace HO260 := Aside0.mk (Kd.R_elder' (rK HO260) (Kd.R_base ho0) hb); replace HO266 := Aside0.mk (Kd.R_elder' (rK HO266) (Kd.R_base ho0) hb); replace HB := Aside0.mk (below_step bA hb); (try clear hb); (try clear hb2); (try clear hk); (try clear hi); (try clear ho0)))
   (try simp only [Act.put, List.setIfInBounds_toArray, List.set_cons_zero, List.set_cons_succ])
   go_cut [57] (fun v57 wc => ∃ (kq : Nat) (x57_13 : Bool), v57 = .bool x57_13 ∧ Aside0 (laws_FnExactAddWant.j0 kq l0 l1 a2 t257 t258 t261 t264 t267 t268 x57_13 = some r) ∧ Aside0 (kq ≤ k) ∧ Aside0 (Kd.R k87 87 wc w.heap.size (fun k_ => some k_ ≠ ((.slice Ao23 t264.length co23) : Value).ownBlock ∧ some k_ ≠ (v269 : Value).ownBlock) v259 t257) ∧ Aside0 (Kd.R k90 90 wc w.heap.size (fun _ => True) (.slice Ao22 t261.length co22) t261) ∧ Aside0 (Kd.R k87 87 wc w.heap.size (fun k_ => some k_ ≠ (v259 : Value).ownBlock ∧ some k_ ≠ (v269 : Value).ownBlock) (.slice Ao23 t264.length co23) t264) ∧ Aside0 (Kd.R k87 87 wc w.heap.size (fun k_ => some k_ ≠ (v259 : Value).ownBlock ∧ some k_ ≠ ((.slice Ao23 t264.length co23) : Value).ownBlock) v269 t267) ∧ Aside0 (Below w.heap.size w wc))
   case first =>
    have H := HC14.out
    clear HC14
    obtain ⟨t271, A25, H⟩ := bindE H
    try dsimp only at H
    by_cases c26 : t271 = true
    ·
     subst c26
     have H1 : (laws_FnExactAddWant.j0 k l0 l1 a2 t257 t258 t261 t264 t267 t268 (t268 != t258)) = some r := by rw [if_pos rfl] at H; exact H
     clear H
     have H := H1
     clear H1
     have H' := Aside0.mk H
     clear H
     obtain ⟨Ao27, co27, eo27⟩ := Kd.R_slice HO270.out
     subst eo27
     obtain ⟨Ao28, co28, eo28⟩ := Kd.R_slice HO260.out
     subst eo28
     go_wp2_with (first | ((with_reducible refine gate_callee (f := 38) rfl ?_); refine gL (some 51) Try.func38 #[.slice Ao27 t267.length co27, .slice Ao28 t257.length co28] ?_; (with_reducible refine (laws_eqWantS.calls k _ _ t267 _ _ t257 true _ ?side1 ?side2 ?side3 ?side4 A25.out).mono ?_); (case side1 => exact cO ⟨(Kd.R_reads' HO270.out).2.2⟩); (case side2 => exact (Kd.R_reads' HO270.out).2.1); (case side3 => exact cO ⟨(Kd.R_reads' HO260.out).2.2⟩); (case side4 => exact (Kd.R_reads' HO260.out).2.1); rintro e w29 ⟨rfl, hb⟩; refine ⟨_, rfl, ?_⟩; replace HO253 := Aside0.mk (Kd.R_below (rK HO253) hb); replace HO256 := Aside0.mk (Kd.R_below (rK HO256) hb); replace HO260 := Aside0.mk (Kd.R_below (rK HO260) hb); replace HO263 := Aside0.mk (Kd.R_below (rK HO263) hb); replace HO266 := Aside0.mk (Kd.R_below (rK HO266) hb); replace HO270 := Aside0.mk (Kd.R_below (rK HO270) hb); replace HB := Aside0.mk (below_step bA hb); (try clear hb); (try clear hb2); (try clear hk); (try clear hi)))
     go_meet
     case rel => exact ⟨_, ((t268 != t258)), rS, H', ⟨by first | omega | exact Nat.le_refl _⟩, ⟨by (with_reducible repeat (first | apply Kd.R_alloc | apply Kd.R_drewN | apply Kd.R_drew)); exact Kd.R_mono HO260.out (fun _ hk => ⟨hk.1.2, hk.2⟩)⟩, ⟨by (with_reducible repeat (first | apply Kd.R_alloc | apply Kd.R_drewN | apply Kd.R_drew)); exact Kd.R_mono HO263.out (fun _ hk => trivial)⟩, ⟨by (with_reducible repeat (first | apply Kd.R_alloc | apply Kd.R_drewN | apply Kd.R_drew)); exact Kd.R_mono HO266.out (fun _ hk => ⟨hk.1.2, hk.2⟩)⟩, ⟨by (with_reducible repeat (first | apply Kd.R_alloc | apply Kd.R_drewN | apply Kd.R_drew)); exact Kd.R_mono HO270.out (fun _ hk => ⟨hk.1.2, hk.2⟩)⟩, ⟨bA⟩⟩
    ·
     replace c26 := Bool.eq_false_iff.mpr c26
     subst c26
     have H1 : (laws_FnExactAddWant.j0 k l0 l1 a2 t257 t258 t261 t264 t267 t268 true) = some r := by rw [if_neg (show ¬ (false = true) by decide)] at H; exact H
     clear H
     have H := H1
     clear H1
     have H' := Aside0.mk H
     clear H
     obtain ⟨Ao30, co30, eo30⟩ := Kd.R_slice HO270.out
     subst eo30
     obtain ⟨Ao31, co31, eo31⟩ := Kd.R_slice HO260.out
     subst eo31
     go_wp2_with (first | ((with_reducible refine gate_callee (f := 38) rfl ?_); refine gL (some 51) Try.func38 #[.slice Ao30 t267.length co30, .slice Ao31 t257.length co31] ?_; (with_reducible refine (laws_eqWantS.calls k _ _ t267 _ _ t257 false _ ?side1 ?side2 ?side3 ?side4 A25.out).mono ?_); (case side1 => exact cO ⟨(Kd.R_reads' HO270.out).2.2⟩); (case side2 => exact (Kd.R_reads' HO270.out).2.1); (case side3 => exact cO ⟨(Kd.R_reads' HO260.out).2.2⟩); (case side4 => exact (Kd.R_reads' HO260.out).2.1); rintro e w32 ⟨rfl, hb⟩; refine ⟨_, rfl, ?_⟩; replace HO253 := Aside0.mk (Kd.R_below (rK HO253) hb); replace HO256 := Aside0.mk (Kd.R_below (rK HO256) hb); replace HO260 := Aside0.mk (Kd.R_below (rK HO260) hb); replace HO263 := Aside0.mk (Kd.R_below (rK HO263) hb); replace HO266 := Aside0.mk (Kd.R_below (rK HO266) hb); replace HO270 := Aside0.mk (Kd.R_below (rK HO270) hb); replace HB := Aside0.mk (below_step bA hb); (try clear hb); (try clear hb2); (try clear hk); (try clear hi)))
     go_meet
     case rel => exact ⟨_, (true), rS, H', ⟨by first | omega | exact Nat.le_refl _⟩, ⟨by (with_reducible repeat (first | apply Kd.R_alloc | apply Kd.R_drewN | apply Kd.R_drew)); exact Kd.R_mono HO260.out (fun _ hk => ⟨hk.1.2, hk.2⟩)⟩, ⟨by (with_reducible repeat (first | apply Kd.R_alloc | apply Kd.R_drewN | apply Kd.R_drew)); exact Kd.R_mono HO263.out (fun _ hk => trivial)⟩, ⟨by (with_reducible repeat (first | apply Kd.R_alloc | apply Kd.R_drewN | apply Kd.R_drew)); exact Kd.R_mono HO266.out (fun _ hk => ⟨hk.1.2, hk.2⟩)⟩, ⟨by (with_reducible repeat (first | apply Kd.R_alloc | apply Kd.R_drewN | apply Kd.R_drew)); exact Kd.R_mono HO270.out (fun _ hk => ⟨hk.1.2, hk.2⟩)⟩, ⟨bA⟩⟩
   case rest =>
    clear HC14
    try clear c1
    try clear c2
    try clear p2
    try clear c3
    try clear c5
    try clear c5b0
    try clear c7
    try clear c7b0
    try clear c10
    try clear c26
    try clear c31
    try clear c32
    obtain ⟨kq, x57_13, rfl, HA, HJ13, HO_8, HO_10, HO_11, HO_12, HB⟩ := hcut
    cases kq with
    | zero => exact absurd HA.out (by simp [laws_FnExactAddWant.j0])
    | succ kj13 =>
     have H := HA.out
     clear HA
     simp only [laws_FnExactAddWant.j0] at H
     have c33 := ifN' H
     replace H := ifT' H
     replace c33 := Bool.eq_false_iff.mpr c33
     subst c33
     obtain ⟨t272, A34, H⟩ := bindE H
     try dsimp only at H
     obtain ⟨t275, A35, H⟩ := bindE H
     try dsimp only at H
     have c36 := ifN H
     replace H := ifT H
     subst c36
     obtain ⟨t276, A37, H⟩ := bindE H
     try dsimp only at H
     obtain ⟨t279, A38, H⟩ := bindE H
     try dsimp only at H
     have c39 := ifN H
     replace H := ifT H
     subst c39
     obtain ⟨⟨t280, t281⟩, A40, H⟩ := bindE H
     try dsimp only at H
     obtain ⟨⟨t282, t283⟩, A41, H⟩ := bindE H
     try dsimp only at H
     have HC42 := Aside0.mk H
     clear H
     go_upto_region 21 with (first | ((with_reducible refine gate_callee (f := 34) rfl ?_); refine gL (some 60) Try.func34 #[.slice A0 l0.length c0] ?_; (with_reducible refine (laws_toPathS.calls kj13 _ _ l0 t272 _ ?side1 ?side2 A34.out).mono ?_); (case side1 => exact cB HR0); (case side2 => exact HC0.out); rintro e w43 ⟨v273, rfl, ho0, hb⟩; refine ⟨_, rfl, ?_⟩; replace HO_8 := Aside0.mk (Kd.R_below (rK HO_8) hb); replace HO_11 := Aside0.mk (Kd.R_below (rK HO_11) hb); replace HO_12 := Aside0.mk (Kd.R_below (rK HO_12) hb); have HO274 := Aside0.mk (Kd.R_lower (Kd.R_new' ho0 (Kd.R_lt (rK HO_10))) (below_size bA)); replace HO_10 := Aside0.mk (Kd.R_elder' (rK HO_10) (Kd.R_base ho0) hb); replace HB := Aside0.mk (below_step bA hb); (try clear hb); (try clear hb2); (try clear hk); (try clear hi); (try clear ho0); obtain ⟨Ao44, co44, eo44⟩ := Kd.R_slice HO274.out; subst eo44) | ((with_reducible refine gate_callee (f := 37) rfl ?_); refine gL (some 61) Try.func37 #[.slice Ao22 t261.length co22, .slice Ao44 t272.length co44] ?_; (with_reducible refine (laws_eqPathS.calls kj13 _ _ t261 _ _ t272 true _ ?side1 ?side2 ?side3 ?side4 A35.out).mono ?_); (case side1 => exact cO ⟨(Kd.R_reads' HO_10.out).2.2⟩); (case side2 => exact (Kd.R_reads' HO_10.out).2.1); (case side3 => exact cO ⟨(Kd.R_reads' HO274.out).2.2⟩); (case side4 => exact (Kd.R_reads' HO274.out).2.1); rintro e w45 ⟨rfl, hb⟩; refine ⟨_, rfl, ?_⟩; replace HO_8 := Aside0.mk (Kd.R_below (rK HO_8) hb); replace HO_10 := Aside0.mk (Kd.R_below (rK HO_10) hb); replace HO_11 := Aside0.mk (Kd.R_below (rK HO_11) hb); replace HO_12 := Aside0.mk (Kd.R_below (rK HO_12) hb); replace HO274 := Aside0.mk (Kd.R_below (rK HO274) hb); replace HB := Aside0.mk (below_step bA hb); (try clear hb); (try clear hb2); (try clear hk); (try clear hi)) | ((with_reducible refine gate_callee (f := 35) rfl ?_); refine gL (some 65) Try.func35 #[.slice A1 l1.length c1] ?_; (with_reducible refine (laws_toWantS.calls kj13 _ _ l1 t276 _ ?side1 ?side2 A37.out).mono ?_); (case side1 => exact cB HR1); (case side2 => exact HC1.out); rintro e w46 ⟨v277, rfl, ho0, hb⟩; refine ⟨_, rfl, ?_⟩; replace HO_10 := Aside0.mk (Kd.R_below (rK HO_10) hb); replace HO274 := Aside0.mk (Kd.R_below (rK HO274) hb); have HO278 := Aside0.mk (Kd.R_lower (Kd.R_new' (Kd.R_new' (Kd.R_new' ho0 (Kd.R_lt (rK HO_8))) (Kd.R_lt (rK HO_11))) (Kd.R_lt (rK HO_12))) (below_size bA)); replace HO_8 := Aside0.mk (Kd.R_elder' (rK HO_8) (Kd.R_base ho0) hb); replace HO_11 := Aside0.mk (Kd.R_elder' (rK HO_11) (Kd.R_base ho0) hb); replace HO_12 := Aside0.mk (Kd.R_elder' (rK HO_12) (Kd.R_base ho0) hb); replace HB := Aside0.mk (below_step bA hb); (try clear hb); (try clear hb2); (try clear hk); (try clear hi); (try clear ho0); obtain ⟨Ao47, co47, eo47⟩ := Kd.R_slice HO278.out; subst eo47) | ((with_reducible refine gate_callee (f := 38) rfl ?_); refine gL (some 66) Try.func38 #[.slice Ao23 t264.length co23, .slice Ao47 t276.length co47] ?_; (with_reducible refine (laws_eqWantS.calls kj13 _ _ t264 _ _ t276 true _ ?side1 ?side2 ?side3 ?side4 A38.out).mono ?_); (case side1 => exact cO ⟨(Kd.R_reads' HO_11.out).2.2⟩); (case side2 => exact (Kd.R_reads' HO_11.out).2.1); (case side3 => exact cO ⟨(Kd.R_reads' HO278.out).2.2⟩); (case side4 => exact (Kd.R_reads' HO278.out).2.1); rintro e w48 ⟨rfl, hb⟩; refine ⟨_, rfl, ?_⟩; replace HO_8 := Aside0.mk (Kd.R_below (rK HO_8) hb); replace HO_10 := Aside0.mk (Kd.R_below (rK HO_10) hb); replace HO_11 := Aside0.mk (Kd.R_below (rK HO_11) hb); replace HO_12 := Aside0.mk (Kd.R_below (rK HO_12) hb); replace HO274 := Aside0.mk (Kd.R_below (rK HO274) hb); replace HO278 := Aside0.mk (Kd.R_below (rK HO278) hb); replace HB := Aside0.mk (below_step bA hb); (try clear hb); (try clear hb2); (try clear hk); (try clear hi)) | ((with_reducible refine gate_callee (f := 46) rfl ?_); refine gL (some 70) Try.func46 #[.slice Ao22 t261.length co22, .int .i64 1] ?_; (with_reducible refine (laws_markPathS.calls kj13 (fun k_ => some k_ = (.slice Ao22 t261.length co22 : Value).ownBlock) (.slice Ao22 t261.length co22) t261 1 t280 t281 w _ ?side1 ?side2 A40.out).mono ?_); (case side1 => repeat (first | (with_reducible first | exact HB.out | apply below_alloc | apply pw_below_drewN | apply below_drew1) | exact HB.out)); (case side2 => exact Kd.R_tight rfl HO_10.out); rintro e w49 ⟨rfl, hy0, hb, hkp⟩; refine ⟨_, rfl, ?_⟩; replace HO_8 := Aside0.mk (Kd.R_mono (ok' := fun k_ => some k_ ≠ (.slice Ao23 t264.length co23 : Value).ownBlock ∧ some k_ ≠ (v269 : Value).ownBlock ∧ some k_ ≠ (.slice Ao47 t276.length co47 : Value).ownBlock) (Kd.R_keptB ((Kd.R_apart' HO_8.out (Kd.R_typed HO_10.out) (by decide))) hkp (fun k_ hk_ hs_ => (hk_.2) hs_)) (fun k_ hk_ => ⟨hk_.1.1.1.1, hk_.1.1.1.2, hk_.1.1.2⟩)); replace HO_11 := Aside0.mk (Kd.R_mono (ok' := fun k_ => some k_ ≠ (v259 : Value).ownBlock ∧ some k_ ≠ (v269 : Value).ownBlock ∧ some k_ ≠ (.slice Ao47 t276.length co47 : Value).ownBlock) (Kd.R_keptB ((Kd.R_apart' HO_11.out (Kd.R_typed HO_10.out) (by decide))) hkp (fun k_ hk_ hs_ => (hk_.2) hs_)) (fun k_ hk_ => ⟨hk_.1.1.1.1, hk_.1.1.1.2, hk_.1.1.2⟩)); replace HO_12 := Aside0.mk (Kd.R_mono (ok' := fun k_ => some k_ ≠ (v259 : Value).ownBlock ∧ some k_ ≠ (.slice Ao23 t264.length co23 : Value).ownBlock ∧ some k_ ≠ (.slice Ao47 t276.length co47 : Value).ownBlock) (Kd.R_keptB ((Kd.R_apart' HO_12.out (Kd.R_typed HO_10.out) (by decide))) hkp (fun k_ hk_ hs_ => (hk_.2) hs_)) (fun k_ hk_ => ⟨hk_.1.1.1.1, hk_.1.1.1.2, hk_.1.1.2⟩)); replace HO274 := Aside0.mk (Kd.R_mono (ok' := fun k_ => some k_ ≠ (.slice Ao22 t261.length co22 : Value).ownBlock) (Kd.R_keptB (HO274.out) hkp (fun k_ hk_ hs_ => (hk_.2) hs_)) (fun k_ hk_ => hk_.1.2)); replace HO278 := Aside0.mk (Kd.R_mono (ok' := fun k_ => some k_ ≠ (v259 : Value).ownBlock ∧ some k_ ≠ (.slice Ao23 t264.length co23 : Value).ownBlock ∧ some k_ ≠ (v269 : Value).ownBlock) (Kd.R_keptB ((Kd.R_apart' HO278.out (Kd.R_typed HO_10.out) (by decide))) hkp (fun k_ hk_ hs_ => (hk_.2) hs_)) (fun k_ hk_ => ⟨hk_.1.1.1.1.2, hk_.1.1.1.2, hk_.1.1.2⟩)); replace HO_10 := Aside0.mk (Kd.R_reok rfl hy0 (fun k_ e_ => HO_10.out.1 k_ e_)); replace HB := Aside0.mk (hb); (try clear hb); (try clear hkp); (try clear hy0)) | ((with_reducible refine gate_callee (f := 52) rfl ?_); refine gL (some 73) Try.func52 #[.slice Ao23 t264.length co23, .int .i64 t280] ?_; (with_reducible refine (laws_markWantS.calls kj13 (fun k_ => some k_ = (.slice Ao23 t264.length co23 : Value).ownBlock) (.slice Ao23 t264.length co23) t264 t280 t282 t283 w _ ?side1 ?side2 A41.out).mono ?_); (case side1 => repeat (first | (with_reducible first | exact HB.out | apply below_alloc | apply pw_below_drewN | apply below_drew1) | exact HB.out)); (case side2 => exact Kd.R_tight rfl HO_11.out); rintro e w50 ⟨rfl, hy0, hb, hkp⟩; refine ⟨_, rfl, ?_⟩; replace HO_8 := Aside0.mk (Kd.R_mono (ok' := fun k_ => some k_ ≠ (.slice Ao23 t264.length co23 : Value).ownBlock ∧ some k_ ≠ (v269 : Value).ownBlock ∧ some k_ ≠ (.slice Ao47 t276.length co47 : Value).ownBlock) (Kd.R_keptB (HO_8.out) hkp (fun k_ hk_ hs_ => (hk_.1) hs_)) (fun k_ hk_ => ⟨hk_.1.1, hk_.1.2.1, hk_.1.2.2⟩)); replace HO_10 := Aside0.mk (Kd.R_mono (ok' := fun k_ => some k_ ≠ (.slice Ao44 t272.length co44 : Value).ownBlock) (Kd.R_keptB ((Kd.R_apart' HO_10.out (Kd.R_typed HO_11.out) (by decide))) hkp (fun k_ hk_ hs_ => (hk_.2) hs_)) (fun k_ hk_ => hk_.1.1.2)); replace HO_12 := Aside0.mk (Kd.R_mono (ok' := fun k_ => some k_ ≠ (v259 : Value).ownBlock ∧ some k_ ≠ (.slice Ao23 t264.length co23 : Value).ownBlock ∧ some k_ ≠ (.slice Ao47 t276.length co47 : Value).ownBlock) (Kd.R_keptB (HO_12.out) hkp (fun k_ hk_ hs_ => (hk_.2.1) hs_)) (fun k_ hk_ => ⟨hk_.1.1, hk_.1.2.1, hk_.1.2.2⟩)); replace HO274 := Aside0.mk (Kd.R_mono (ok' := fun k_ => some k_ ≠ (.slice Ao22 t261.length co22 : Value).ownBlock) (Kd.R_keptB ((Kd.R_apart' HO274.out (Kd.R_typed HO_11.out) (by decide))) hkp (fun k_ hk_ hs_ => (hk_.2) hs_)) (fun k_ hk_ => hk_.1.1)); replace HO_11 := Aside0.mk (Kd.R_reok rfl hy0 (fun k_ e_ => HO_11.out.1 k_ e_)); replace HO278 := Aside0.mk (Kd.R_mono (ok' := fun k_ => some k_ ≠ (v259 : Value).ownBlock ∧ some k_ ≠ (.slice Ao23 t264.length co23 : Value).ownBlock ∧ some k_ ≠ (v269 : Value).ownBlock) (Kd.R_keptB (HO278.out) hkp (fun k_ hk_ hs_ => (hk_.2.1) hs_)) (fun k_ hk_ => ⟨hk_.1.1, hk_.1.2.1, hk_.1.2.2⟩)); replace HB := Aside0.mk (hb); (try clear hb); (try clear hkp); (try clear hy0)))
     (try simp only [Act.put, List.setIfInBounds_toArray, List.set_cons_zero, List.set_cons_succ])
     go_cut [86] (fun v86 wc => ∃ (kq : Nat) (x86_41 : Bool), v86 = .bool x86_41 ∧ Aside0 (laws_FnExactAddWant.j1 kq l0 l1 a2 t257 t258 t267 x86_41 = some r) ∧ Aside0 (kq ≤ kj13) ∧ Aside0 (Kd.R k87 87 wc w.heap.size (fun k_ => some k_ ≠ (v269 : Value).ownBlock) v259 t257) ∧ Aside0 (Kd.R k87 87 wc w.heap.size (fun k_ => some k_ ≠ (v259 : Value).ownBlock) v269 t267) ∧ Aside0 (Below w.heap.size w wc))
     case first =>
      have H := HC42.out
      clear HC42
      by_cases c51 : t282 < 0
      ·
       rw [if_pos c51] at H
       have c51b0 : decide (t282 < 0) = true := decide_eq_true c51
       clear c51
       (first | rw [c51b0] | (simp only [i64_w, i32_w]; rw [c51b0]) | skip)
       have H' := Aside0.mk H
       clear H
       go_wp2
       go_meet
       case rel => exact ⟨_, (true), rS, H', ⟨by have := HJ13.out; first | omega | exact Nat.le_refl _⟩, ⟨by (with_reducible repeat (first | apply Kd.R_alloc | apply Kd.R_drewN | apply Kd.R_drew)); exact Kd.R_mono HO_8.out (fun _ hk => hk.2.1)⟩, ⟨by (with_reducible repeat (first | apply Kd.R_alloc | apply Kd.R_drewN | apply Kd.R_drew)); exact Kd.R_mono HO_12.out (fun _ hk => hk.1)⟩, ⟨bA⟩⟩
      ·
       rw [if_neg c51] at H
       have c51b0 : decide (t282 < 0) = false := decide_eq_false c51
       clear c51
       (first | rw [c51b0] | (simp only [i64_w, i32_w]; rw [c51b0]) | skip)
       obtain ⟨t284, A52, H⟩ := bindE H
       try dsimp only at H
       by_cases c53 : t284 = true
       ·
        subst c53
        have H1 : (laws_FnExactAddWant.j1 kj13 l0 l1 a2 t257 t258 t267 (t268 != t258)) = some r := by rw [if_pos rfl] at H; exact H
        clear H
        have H := H1
        clear H1
        have H' := Aside0.mk H
        clear H
        obtain ⟨Ao54, co54, eo54⟩ := Kd.R_slice HO_12.out
        subst eo54
        obtain ⟨Ao55, co55, eo55⟩ := Kd.R_slice HO_8.out
        subst eo55
        go_wp2_with (first | (go_at_call 38; (with_reducible refine (laws_eqWantS.calls kj13 _ _ t267 _ _ t257 true _ ?side1 ?side2 ?side3 ?side4 A52.out).mono ?_); (case side1 => exact cO ⟨(Kd.R_reads' HO_12.out).2.2⟩); (case side2 => exact (Kd.R_reads' HO_12.out).2.1); (case side3 => exact cO ⟨(Kd.R_reads' HO_8.out).2.2⟩); (case side4 => exact (Kd.R_reads' HO_8.out).2.1); rintro e w56 ⟨rfl, hb⟩; replace HO_8 := Aside0.mk (Kd.R_below (rK HO_8) hb); replace HO_10 := Aside0.mk (Kd.R_below (rK HO_10) hb); replace HO_11 := Aside0.mk (Kd.R_below (rK HO_11) hb); replace HO_12 := Aside0.mk (Kd.R_below (rK HO_12) hb); replace HO274 := Aside0.mk (Kd.R_below (rK HO274) hb); replace HO278 := Aside0.mk (Kd.R_below (rK HO278) hb); replace HB := Aside0.mk (below_step bA hb); (try clear hb); (try clear hb2); (try clear hk); (try clear hi)))
        go_meet
        case rel => exact ⟨_, ((t268 != t258)), rS, H', ⟨by have := HJ13.out; first | omega | exact Nat.le_refl _⟩, ⟨by (with_reducible repeat (first | apply Kd.R_alloc | apply Kd.R_drewN | apply Kd.R_drew)); exact Kd.R_mono HO_8.out (fun _ hk => hk.2.1)⟩, ⟨by (with_reducible repeat (first | apply Kd.R_alloc | apply Kd.R_drewN | apply Kd.R_drew)); exact Kd.R_mono HO_12.out (fun _ hk => hk.1)⟩, ⟨bA⟩⟩
       ·
        replace c53 := Bool.eq_false_iff.mpr c53
        subst c53
        have H1 : (laws_FnExactAddWant.j1 kj13 l0 l1 a2 t257 t258 t267 true) = some r := by rw [if_neg (show ¬ (false = true) by decide)] at H; exact H
        clear H
        have H := H1
        clear H1
        have H' := Aside0.mk H
        clear H
        obtain ⟨Ao57, co57, eo57⟩ := Kd.R_slice HO_12.out
        subst eo57
        obtain ⟨Ao58, co58, eo58⟩ := Kd.R_slice HO_8.out
        subst eo58
        go_wp2_with (first | (go_at_call 38; (with_reducible refine (laws_eqWantS.calls kj13 _ _ t267 _ _ t257 false _ ?side1 ?side2 ?side3 ?side4 A52.out).mono ?_); (case side1 => exact cO ⟨(Kd.R_reads' HO_12.out).2.2⟩); (case side2 => exact (Kd.R_reads' HO_12.out).2.1); (case side3 => exact cO ⟨(Kd.R_reads' HO_8.out).2.2⟩); (case side4 => exact (Kd.R_reads' HO_8.out).2.1); rintro e w59 ⟨rfl, hb⟩; replace HO_8 := Aside0.mk (Kd.R_below (rK HO_8) hb); replace HO_10 := Aside0.mk (Kd.R_below (rK HO_10) hb); replace HO_11 := Aside0.mk (Kd.R_below (rK HO_11) hb); replace HO_12 := Aside0.mk (Kd.R_below (rK HO_12) hb); replace HO274 := Aside0.mk (Kd.R_below (rK HO274) hb); replace HO278 := Aside0.mk (Kd.R_below (rK HO278) hb); replace HB := Aside0.mk (below_step bA hb); (try clear hb); (try clear hb2); (try clear hk); (try clear hi)))
        go_meet
        case rel => exact ⟨_, (true), rS, H', ⟨by have := HJ13.out; first | omega | exact Nat.le_refl _⟩, ⟨by (with_reducible repeat (first | apply Kd.R_alloc | apply Kd.R_drewN | apply Kd.R_drew)); exact Kd.R_mono HO_8.out (fun _ hk => hk.2.1)⟩, ⟨by (with_reducible repeat (first | apply Kd.R_alloc | apply Kd.R_drewN | apply Kd.R_drew)); exact Kd.R_mono HO_12.out (fun _ hk => hk.1)⟩, ⟨bA⟩⟩
     case rest =>
      clear HC42
      try clear c1
      try clear c2
      try clear p2
      try clear c3
      try clear c4
      try clear c5
      try clear c5b0
      try clear c7
      try clear c7b0
      try clear c10
      try clear c26
      try clear c31
      try clear c32
      try clear c33
      try clear c34
      try clear c35
      try clear c36
      try clear c37
      try clear c38
      try clear c39
      try clear c46
      try clear c50
      try clear c51
      try clear c51b0
      try clear c52
      try clear c53
      try clear p2
      obtain ⟨kq, x86_41, rfl, HA, HJ41, HO_8, HO_12, HB⟩ := hcut
      cases kq with
      | zero => exact absurd HA.out (by simp [laws_FnExactAddWant.j1])
      | succ kj41 =>
       have H := HA.out
       clear HA
       simp only [laws_FnExactAddWant.j1] at H
       have c60 := ifN' H
       replace H := ifT' H
       replace c60 := Bool.eq_false_iff.mpr c60
       subst c60
       obtain ⟨⟨t285, t286⟩, A61, H⟩ := bindE H
       try dsimp only at H
       obtain ⟨t287, A62, H⟩ := bindE H
       try dsimp only at H
       have c63 : ¬ (t287 < 0) := ifN' H
       replace H := ifT' H
       have c63b0 : decide (t287 < 0) = false := decide_eq_false c63
       clear c63
       have c64 : t287 = t285 := ifN H
       replace H := ifT H
       have c64b0 : (t287 == t285) = true := beq_iff_eq.mpr c64
       have c64b1 : (t287 != t285) = false := bne_eq_false_iff_eq.mpr c64
       clear c64
       obtain ⟨t288, A65, H⟩ := bindE H
       try dsimp only at H
       obtain ⟨t291, A66, H⟩ := bindE H
       try dsimp only at H
       obtain ⟨⟨t294, t295⟩, A67, H⟩ := bindE H
       try dsimp only at H
       have HC68 := Aside0.mk H
       clear H
       obtain ⟨Ao69, co69, eo69⟩ := Kd.R_slice HO_12.out
       subst eo69
       go_upto_region 32 with (first | ((with_reducible refine gate_callee (f := 52) rfl ?_); refine gL (some 89) Try.func52 #[.slice Ao69 t267.length co69, .int .i64 1] ?_; (with_reducible refine (laws_markWantS.calls kj41 (fun k_ => some k_ = (.slice Ao69 t267.length co69 : Value).ownBlock) (.slice Ao69 t267.length co69) t267 1 t285 t286 w _ ?side1 ?side2 A61.out).mono ?_); (case side1 => repeat (first | (with_reducible first | exact HB.out | apply below_alloc | apply pw_below_drewN | apply below_drew1) | exact HB.out)); (case side2 => exact Kd.R_tight rfl HO_12.out); rintro e w70 ⟨rfl, hy0, hb, hkp⟩; refine ⟨_, rfl, ?_⟩; replace HO_8 := Aside0.mk (Kd.R_mono (ok' := fun k_ => some k_ ≠ (.slice Ao69 t267.length co69 : Value).ownBlock) (Kd.R_keptB (HO_8.out) hkp (fun k_ hk_ hs_ => (hk_) hs_)) (fun k_ hk_ => hk_.1)); replace HO_12 := Aside0.mk (Kd.R_reok rfl hy0 (fun k_ e_ => HO_12.out.1 k_ e_)); replace HB := Aside0.mk (hb); (try clear hb); (try clear hkp); (try clear hy0)) | ((with_reducible refine gate_callee (f := 53) rfl ?_); refine goesL_ (some 92) rfl rfl Try.func53 (by kernel_rfl) rfl #[.slice Ao69 t286.length co69, .int .i64 1] rfl (by (try simp only [List.map_toArray, List.map_cons, List.map_nil]); first | done | (rw [show t286.length = t267.length from (Kd.R_reads' HO_12.out).1.symm] <;> rfl) | rfl | (simp only [List.length_drop, List.length_take]; rfl)) ?_; (with_reducible refine (laws_heldWantS.calls kj41 _ _ t286 1 t287 _ ?side1 ?side2 A62.out).mono ?_); (case side1 => exact cO ⟨(Kd.R_reads' HO_12.out).2.2⟩); (case side2 => rw [show t286.length = t267.length from (Kd.R_reads' HO_12.out).1.symm]; exact (Kd.R_reads' HO_12.out).2.1); rintro e w' ⟨rfl, ⟨nd, rfl⟩⟩; refine ⟨_, rfl, ?_⟩) | ((with_reducible refine gate_callee (f := 34) rfl ?_); refine gL (some 100) Try.func34 #[.slice A0 l0.length c0] ?_; (with_reducible refine (laws_toPathS.calls kj41 _ _ l0 t288 _ ?side1 ?side2 A65.out).mono ?_); (case side1 => exact cG HR0); (case side2 => exact HC0.out); rintro e w71 ⟨v289, rfl, ho0, hb⟩; refine ⟨_, rfl, ?_⟩; replace HO_8 := Aside0.mk (Kd.R_below (rK HO_8) hb); replace HO_12 := Aside0.mk (Kd.R_below (rK HO_12) hb); have HO290 := Aside0.mk (Kd.R_lower ho0 (below_size bA)); replace HB := Aside0.mk (below_step bA hb); (try clear hb); (try clear hb2); (try clear hk); (try clear hi); (try clear ho0)) | ((with_reducible refine gate_callee (f := 35) rfl ?_); refine gL (some 102) Try.func35 #[.slice A1 l1.length c1] ?_; (with_reducible refine (laws_toWantS.calls kj41 _ _ l1 t291 _ ?side1 ?side2 A66.out).mono ?_); (case side1 => exact cB HR1); (case side2 => exact HC1.out); rintro e w72 ⟨v292, rfl, ho0, hb⟩; refine ⟨_, rfl, ?_⟩; replace HO290 := Aside0.mk (Kd.R_below (rK HO290) hb); have HO293 := Aside0.mk (Kd.R_lower (Kd.R_new' (Kd.R_new' ho0 (Kd.R_lt (rK HO_8))) (Kd.R_lt (rK HO_12))) (below_size bA)); replace HO_8 := Aside0.mk (Kd.R_elder' (rK HO_8) (Kd.R_base ho0) hb); replace HO_12 := Aside0.mk (Kd.R_elder' (rK HO_12) (Kd.R_base ho0) hb); replace HB := Aside0.mk (below_step bA hb); (try clear hb); (try clear hb2); (try clear hk); (try clear hi); (try clear ho0); obtain ⟨Ao73, co73, eo73⟩ := Kd.R_slice HO290.out; subst eo73; obtain ⟨Ao74, co74, eo74⟩ := Kd.R_slice HO293.out; subst eo74) | ((with_reducible refine gate_callee (f := 51) rfl ?_); refine gL (some 104) Try.func51 #[.slice Ao73 t288.length co73, .slice Ao74 t291.length co74, .int .i64 a2] ?_; (with_reducible refine (impl_AddWant.calls kj41 _ _ t288 _ _ t291 a2 t294 t295 _ ?side1 ?side2 ?side3 ?side4 A67.out).mono ?_); (case side1 => exact cO ⟨(Kd.R_reads' HO290.out).2.2⟩); (case side2 => exact (Kd.R_reads' HO290.out).2.1); (case side3 => exact cO ⟨(Kd.R_reads' HO293.out).2.2⟩); (case side4 => exact (Kd.R_reads' HO293.out).2.1); rintro e w75 ⟨v296, rfl, ho0, hb⟩; refine ⟨_, rfl, ?_⟩; replace HO290 := Aside0.mk (Kd.R_below (rK HO290) hb); have HO297 := Aside0.mk (Kd.R_lower (Kd.R_new' (Kd.R_new' (Kd.R_new' ho0 (Kd.R_lt (rK HO_8))) (Kd.R_lt (rK HO_12))) (Kd.R_lt (rK HO293))) (below_size bA)); replace HO_8 := Aside0.mk (Kd.R_elder' (rK HO_8) (Kd.R_base ho0) hb); replace HO_12 := Aside0.mk (Kd.R_elder' (rK HO_12) (Kd.R_base ho0) hb); replace HO293 := Aside0.mk (Kd.R_elder' (rK HO293) (Kd.R_base ho0) hb); replace HB := Aside0.mk (below_step bA hb); (try clear hb); (try clear hb2); (try clear hk); (try clear hi); (try clear ho0)))
       (try simp only [Act.put, List.setIfInBounds_toArray, List.set_cons_zero, List.set_cons_succ])
       go_cut [115] (fun v115 wc => ∃ (kq : Nat) (x115_67 : Bool), v115 = .bool x115_67 ∧ Aside0 (laws_FnExactAddWant.j2 kq t286 t285 x115_67 = some r) ∧ Aside0 (kq ≤ kj41) ∧ Aside0 (Kd.R k87 87 wc w.heap.size (fun _ => True) (.slice Ao69 t267.length co69) t286) ∧ Aside0 (Below w.heap.size w wc))
       case first =>
        have H := HC68.out
        clear HC68
        obtain ⟨t298, A76, H⟩ := bindE H
        try dsimp only at H
        by_cases c77 : t298 = true
        ·
         subst c77
         have H1 : (laws_FnExactAddWant.j2 kj41 t286 t285 (t295 != t258)) = some r := by rw [if_pos rfl] at H; exact H
         clear H
         have H := H1
         clear H1
         have H' := Aside0.mk H
         clear H
         obtain ⟨Ao78, co78, eo78⟩ := Kd.R_slice HO297.out
         subst eo78
         obtain ⟨Ao79, co79, eo79⟩ := Kd.R_slice HO_8.out
         subst eo79
         go_wp2_with (first | ((with_reducible refine gate_callee (f := 38) rfl ?_); refine gL (some 109) Try.func38 #[.slice Ao78 t294.length co78, .slice Ao79 t257.length co79] ?_; (with_reducible refine (laws_eqWantS.calls kj41 _ _ t294 _ _ t257 true _ ?side1 ?side2 ?side3 ?side4 A76.out).mono ?_); (case side1 => exact cO ⟨(Kd.R_reads' HO297.out).2.2⟩); (case side2 => exact (Kd.R_reads' HO297.out).2.1); (case side3 => exact cO ⟨(Kd.R_reads' HO_8.out).2.2⟩); (case side4 => exact (Kd.R_reads' HO_8.out).2.1); rintro e w80 ⟨rfl, hb⟩; refine ⟨_, rfl, ?_⟩; replace HO_8 := Aside0.mk (Kd.R_below (rK HO_8) hb); replace HO_12 := Aside0.mk (Kd.R_below (rK HO_12) hb); replace HO290 := Aside0.mk (Kd.R_below (rK HO290) hb); replace HO293 := Aside0.mk (Kd.R_below (rK HO293) hb); replace HO297 := Aside0.mk (Kd.R_below (rK HO297) hb); replace HB := Aside0.mk (below_step bA hb); (try clear hb); (try clear hb2); (try clear hk); (try clear hi)))
         go_meet
         case rel => exact ⟨_, ((t295 != t258)), rS, H', ⟨by have := HJ13.out; have := HJ41.out; first | omega | exact Nat.le_refl _⟩, ⟨by (with_reducible repeat (first | apply Kd.R_alloc | apply Kd.R_drewN | apply Kd.R_drew)); exact Kd.R_mono HO_12.out (fun _ hk => trivial)⟩, ⟨bA⟩⟩
        ·
         replace c77 := Bool.eq_false_iff.mpr c77
         subst c77
         have H1 : (laws_FnExactAddWant.j2 kj41 t286 t285 true) = some r := by rw [if_neg (show ¬ (false = true) by decide)] at H; exact H
         clear H
         have H := H1
         clear H1
         have H' := Aside0.mk H
         clear H
         obtain ⟨Ao81, co81, eo81⟩ := Kd.R_slice HO297.out
         subst eo81
         obtain ⟨Ao82, co82, eo82⟩ := Kd.R_slice HO_8.out
         subst eo82
         go_wp2_with (first | ((with_reducible refine gate_callee (f := 38) rfl ?_); refine gL (some 109) Try.func38 #[.slice Ao81 t294.length co81, .slice Ao82 t257.length co82] ?_; (with_reducible refine (laws_eqWantS.calls kj41 _ _ t294 _ _ t257 false _ ?side1 ?side2 ?side3 ?side4 A76.out).mono ?_); (case side1 => exact cO ⟨(Kd.R_reads' HO297.out).2.2⟩); (case side2 => exact (Kd.R_reads' HO297.out).2.1); (case side3 => exact cO ⟨(Kd.R_reads' HO_8.out).2.2⟩); (case side4 => exact (Kd.R_reads' HO_8.out).2.1); rintro e w83 ⟨rfl, hb⟩; refine ⟨_, rfl, ?_⟩; replace HO_8 := Aside0.mk (Kd.R_below (rK HO_8) hb); replace HO_12 := Aside0.mk (Kd.R_below (rK HO_12) hb); replace HO290 := Aside0.mk (Kd.R_below (rK HO290) hb); replace HO293 := Aside0.mk (Kd.R_below (rK HO293) hb); replace HO297 := Aside0.mk (Kd.R_below (rK HO297) hb); replace HB := Aside0.mk (below_step bA hb); (try clear hb); (try clear hb2); (try clear hk); (try clear hi)))
         go_meet
         case rel => exact ⟨_, (true), rS, H', ⟨by have := HJ13.out; have := HJ41.out; first | omega | exact Nat.le_refl _⟩, ⟨by (with_reducible repeat (first | apply Kd.R_alloc | apply Kd.R_drewN | apply Kd.R_drew)); exact Kd.R_mono HO_12.out (fun _ hk => trivial)⟩, ⟨bA⟩⟩
       case rest =>
        clear HC68
        try clear c1
        try clear c2
        try clear p2
        try clear c3
        try clear c4
        try clear c5
        try clear c5b0
        try clear c6
        try clear c7
        try clear c7b0
        try clear c10
        try clear c26
        try clear c31
        try clear c32
        try clear c33
        try clear c34
        try clear c35
        try clear c36
        try clear c37
        try clear c38
        try clear c39
        try clear c46
        try clear c50
        try clear c51
        try clear c51b0
        try clear c52
        try clear c53
        try clear c60
        try clear c63
        try clear c63b0
        try clear c64
        try clear c64b0
        try clear c64b1
        try clear c77
        try clear p2
        obtain ⟨kq, x115_67, rfl, HA, HJ67, HO_12, HB⟩ := hcut
        have hl12_67 := (Kd.R_reads' HO_12.out).1
        rw [hl12_67] at HO_12
        (try simp only [hl12_67])
        cases kq with
        | zero => exact absurd HA.out (by simp [laws_FnExactAddWant.j2])
        | succ kj67 =>
         have H := HA.out
         clear HA
         simp only [laws_FnExactAddWant.j2] at H
         have c84 := ifN' H
         replace H := ifT' H
         replace c84 := Bool.eq_false_iff.mpr c84
         subst c84
         obtain ⟨t299, A85, H⟩ := bindE H
         try dsimp only at H
         have c86 : ¬ (t299 < 0) := ifN' H
         replace H := ifT' H
         have c86b0 : decide (t299 < 0) = false := decide_eq_false c86
         clear c86
         have c87 : t299 = t285 := ifN H
         replace H := ifT H
         have c87b0 : (t299 == t285) = true := beq_iff_eq.mpr c87
         have c87b1 : (t299 != t285) = false := bne_eq_false_iff_eq.mpr c87
         clear c87
         obtain rfl := Option.some.inj H
         go_wp2_with (first | ((with_reducible refine gate_callee (f := 53) rfl ?_); refine gL (some 118) Try.func53 #[.slice Ao69 t286.length co69, .int .i64 1] ?_; (with_reducible refine (laws_heldWantS.calls kj67 _ _ t286 1 t299 _ ?side1 ?side2 A85.out).mono ?_); (case side1 => exact cO ⟨(Kd.R_reads' HO_12.out).2.2⟩); (case side2 => exact (Kd.R_reads' HO_12.out).2.1); rintro e w' ⟨rfl, ⟨nd, rfl⟩⟩; refine ⟨_, rfl, ?_⟩))
         go_ret
         exact ⟨rA, bA⟩

end Go.Proofs.Ytimmadeghcghoaa.P
