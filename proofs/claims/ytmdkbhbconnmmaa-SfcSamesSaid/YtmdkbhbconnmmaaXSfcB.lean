-- WRITTEN BY wip/tools/sfc/all.py
import Derived.Test.YtmdkbhbconnmmaaXSfcx0
namespace Go.Proofs.Ytmdkbhbconnmmaa.XSfc
open Go.RowKit Go.Proofs.YtmdkbhbconnmmaaW.PrintWords Go.Proofs.YtmdkbhbconnmmaaW.PrintLast Go.Proofs.YtmdkbhbconnmmaaW.PrintMore
attribute [local go_sem] max2_int min2_int max_two min_two max_three min_three max_four min_four
set_option linter.unusedVariables false
set_option linter.unusedSimpArgs false
/-- The operation calls what a place holds (a look ahead of a dear step). -/
theorem gate_valued {P : Program} {ops : Array Oper} {rest : List Oper} {o : Oper} {a : Act} {Q : Exit → Act → World → Prop} {W : World} {N : Tmp} {az : Array Operand} {ts : Array TypeId} (_ho : o.op = .call { callee := .value (.tmp N), args := az, argTypes := ts }) (h : wpList P ops Q (o :: rest) a W) : wpList P ops Q (o :: rest) a W := h
/-- A call of the function that a place holds, by its contract. -/
theorem goesV_ {P : Program} {ops : Array Oper} {Q : Exit → Act → World → Prop} {rest : List Oper} {oi : Oper} {a : Act} {w : World} {x : Operand} {f : FuncId} (hx : a.eval x = .func (.func f) #[] #[]) (N : Option Tmp) (hd : oi.dst = N) (hg : oi.guard = none) {fn : Func} {az : Array Operand} {ts : Array TypeId} (hf : P.funcs[f]? = some fn) (hname : (fn.name == "runtime.NumGoroutine") = false) (hb : fn.body.isSome = true) (args : Array Value)
  (hop : oi.op = .call { callee := .value x, args := az, argTypes := ts }) (hargs : az.map a.eval = args)
  (h : Calls P f args w fun e w' => ∃ v, e = .returned v ∧ wpList P ops Q rest (a.put N v) w') : wpList P ops Q (oi :: rest) a w := by
 refine wpList_plain hg fun K hK => ?_
 have he := enters_ hf hname hb args w
 have hrun : (execOp a.eval oi).run P w = .ok (.enter f args) w := by
  unfold execOp
  simp [hop, resolve, Deferred.ofValue, invoke, hx, hargs, he]
 unfold Oper.wp
 rw [hrun, Oper.upon_enter]
 refine h.mono fun e w'' hh => ?_
 obtain ⟨v, rfl, hk⟩ := hh
 subst hd
 exact hK _ _ hk
/-- Two lists, held against each other place by place. -/
def eqGo {α : Type} (F : α → α → Option Bool) : List α → List α → Option Bool
 | x :: xs, y :: ys => (F x y).bind fun u => if u = true then eqGo F xs ys else some false
 | _, _ => some true
theorem eqGo_le {α : Type} {F G : α → α → Option Bool} (h : ∀ x y, LeO (F x y) (G x y)) : ∀ (a b : List α), LeO (eqGo F a b) (eqGo G a b)
 | x :: xs, y :: ys => by
  simp only [eqGo]
  exact LeO.bind (h x y) (fun _ => LeO.ite (eqGo_le h xs ys) (LeO.refl _))
 | [], _ => by simp only [eqGo]; exact LeO.refl _
 | _ :: _, [] => by simp only [eqGo]; exact LeO.refl _
theorem drop_rd {α : Type} {l : List α} {i : Int} (z : α) (h0 : 0 ≤ i) (h1 : i < l.length) : l.drop i.toNat = l.getD i.toNat z :: l.drop (i + 1).toNat := by
 have hlt : i.toNat < l.length := by omega
 have e : (i + 1).toNat = i.toNat + 1 := by omega
 rw [List.drop_eq_getElem_cons hlt, e]
 simp [hlt]
theorem wantedN_ {o : Oper} {y : Nat → Option Bool} (h : o.guard = none) : Region.wanted o y = true := by
 unfold Region.wanted
 rw [h]
/-- As skip_, for an operation without a guard. -/
theorem skipN_ {P : Program} {ops : Array Oper} {Q : Exit → Act → World → Prop} {oi : Oper} {a : Act} {w w1 : World} {K : Act → World → Prop} (hg : oi.guard = none) (hN : oi.dst = none) (hrun : (execOp a.eval oi).run P w = .ok .skip w1)
  (h : K a w1) : if Region.wanted oi (yielded ops a.tmps) = true then Oper.wp P oi a w K Q else K (a.put none undef) w := skip_ (wantedN_ hg) hN hrun h
theorem lift_ {w w' : World} {a : Addr} {v : Value} (hB : Below w.heap.size w w') (h : w.cell? a = some v) : w'.cell? a = some v := (hB.cell (World.block_lt_of_cell? w _ h)).trans h
/-- A whole block is stored: the world behind it, told of by what it holds. -/
theorem blk_store {P : Program} {o : Oper} {a : Act} {w0 W : World} {t n : Nat} {p x : Operand} {u : Value} {seg : List Value} {cur : Array Value} {g : Nat}
  (ho : o.op = .store t p x) (haddr : a.eval p = .pointer (some ⟨g, 0, none⟩)) (hx : a.eval x = u) (hu : u.cells.toList = seg) (hl : seg.length = n)
  (ht : (P.info? t).map (·.size) = some n) (h1 : seg.all Value.oneCell' = true) (hh : W.heap[g]? = some (.cells cur t (0, 0))) (hs : cur.size = n) (HB : Below w0.heap.size w0 W) (hge : w0.heap.size ≤ g) :
  ∃ W', (execOp a.eval o).run P W = .ok .skip W' ∧ W'.heap[g]? = some (.cells seg.toArray t (0, 0)) ∧ Below w0.heap.size w0 W' ∧ ∀ g' t' cs, W.heap[g']? = some (.cells cs t' (0, 0)) → g' ≠ g → W'.heap[g']? = some (.cells cs t' (0, 0)) := by
 subst hl
 have hB : Below w0.heap.size w0 (W.setCells g 0 seg) := by
  obtain ⟨s1, s2, s3, s4⟩ := setCells_same g seg 0 W
  exact HB.trans ⟨s1, s2, s3, by rw [s4]; exact Nat.le_refl _, fun k hk => setCells_far seg 0 k (by omega)⟩
 have hrun := run_store_run (P := P) (o := 0) t u seg hh hu ht (by omega) (fun q hq => List.all_eq_true.1 h1 q hq)
 obtain ⟨cur', e1, _, e3⟩ := setCells_row seg 0 W cur hh (by omega)
 refine ⟨W.setCells g 0 seg, ?_, ?_, hB, fun g' t' cs h hn => (setCells_far seg 0 g' hn).trans h⟩
 ·
  unfold execOp
  simp only [ho, haddr, hx, Sem.run_bind, Sem.run_pure, Result.andThen_ok, hrun]
 ·
  have e4 : cur' = seg.toArray := by
   apply Array.ext'
   rw [e3, List.take_zero, List.nil_append, Nat.zero_add, List.drop_of_length_le (by rw [Array.length_toList]; omega), List.append_nil]
  rw [e1, e4]
theorem store_in {P : Program} {ops : Array Oper} {rest : List Oper} {o : Oper} {a : Act} {Q : Exit → Act → World → Prop} {w0 W : World} {t n : Nat} {p x : Operand} {u : Value} {seg : List Value} {cur : Array Value} {g : Nat} (hgd : o.guard = none) (hN : o.dst = none)
  (ho : o.op = .store t p x) (haddr : a.eval p = .pointer (some ⟨g, 0, none⟩)) (hx : a.eval x = u) (hu : u.cells.toList = seg) (hl : seg.length = n)
  (ht : (P.info? t).map (·.size) = some n) (h1 : seg.all Value.oneCell' = true) (hh : W.heap[g]? = some (.cells cur t (0, 0))) (hs : cur.size = n) (HB : Below w0.heap.size w0 W) (hge : w0.heap.size ≤ g)
  (h : ∀ W', W'.heap[g]? = some (.cells seg.toArray t (0, 0)) → Below w0.heap.size w0 W' → (∀ g' t' cs, W.heap[g']? = some (.cells cs t' (0, 0)) → g' ≠ g → W'.heap[g']? = some (.cells cs t' (0, 0))) → wpList P ops Q rest a W') : wpList P ops Q (o :: rest) a W := by
 obtain ⟨W', e1, e2, e3, e4⟩ := blk_store ho haddr hx hu hl ht h1 hh hs HB hge
 refine wpList_plain hgd fun K hK => ?_
 unfold Oper.wp
 rw [e1]
 show K (a.put o.dst undef) W'
 rw [hN]
 exact hK _ _ (h W' e2 e3 e4)
theorem store_any {P : Program} {ops : Array Oper} {o : Oper} {a : Act} {Q : Exit → Act → World → Prop} {K : Act → World → Prop} {w0 W : World} {t n : Nat} {p x : Operand} {u : Value} {seg : List Value} {cur : Array Value} {g : Nat} (hgd : o.guard = none) (hN : o.dst = none)
  (ho : o.op = .store t p x) (haddr : a.eval p = .pointer (some ⟨g, 0, none⟩)) (hx : a.eval x = u) (hu : u.cells.toList = seg) (hl : seg.length = n)
  (ht : (P.info? t).map (·.size) = some n) (h1 : seg.all Value.oneCell' = true) (hh : W.heap[g]? = some (.cells cur t (0, 0))) (hs : cur.size = n) (HB : Below w0.heap.size w0 W) (hge : w0.heap.size ≤ g)
  (h : ∀ W', W'.heap[g]? = some (.cells seg.toArray t (0, 0)) → Below w0.heap.size w0 W' → (∀ g' t' cs, W.heap[g']? = some (.cells cs t' (0, 0)) → g' ≠ g → W'.heap[g']? = some (.cells cs t' (0, 0))) → K a W') : if Region.wanted o (yielded ops a.tmps) = true then Oper.wp P o a W K Q else K (a.put none undef) W := by
 obtain ⟨W', e1, e2, e3, e4⟩ := blk_store ho haddr hx hu hl ht h1 hh hs HB hge
 exact skipN_ hgd hN e1 (h W' e2 e3 e4)
/-- From an address on these cells lie. -/
def spread (w : World) (a : Addr) (cs : List Value) : Prop := ∀ j v, cs[j]? = some v → w.cell? (a.add j) = some v
theorem spread_below {w w' : World} {a : Addr} {cs : List Value} (hB : Below w.heap.size w w') (h : spread w a cs) : spread w' a cs := fun j v hv => lift_ hB (h j v hv)
theorem spread_blk {w : World} {g t : Nat} {cs : List Value} (h : w.heap[g]? = some (.cells cs.toArray t (0, 0))) : spread w ⟨g, 0, none⟩ cs := fun j v hv => by
 have e : (⟨g, 0, none⟩ : Addr).add j = ⟨g, j, none⟩ := by unfold Addr.add; split <;> simp_all
 rw [e, cell_of_row w g j _ _ _ h]
 simpa using hv
theorem load_run {P : Program} {o : Oper} {a : Act} {w : World} {t n : Nat} {x : Operand} {ad : Addr} {cs : List Value} {d : TypeDesc} (ho : o.op = .load t x) (hx : a.eval x = .pointer (some ad)) (hc : spread w ad cs)
  (hu : P.underlying t = some d) (hd : (match d with | .struct _ | .array _ _ => true | _ => false) = true) (hl : cs.length = n) (hi : (P.info? t).map (·.size) = some n) : (execOp a.eval o).run P w = .ok (.value (.agg cs.toArray)) w := by
 subst hl
 have hl := run_loadCells_list (P := P) w ad cs hc
 cases hq : P.info? t with
 | none => simp [hq] at hi
 | some i =>
  have hs : i.size = cs.length := by simpa [hq] using hi
  have hagg : (isAgg t).run P w = .ok true w := by
   unfold isAgg
   rw [Sem.run_bind, run_underlying hu w]
   cases d <;> simp_all
  have hv : (loadVar t ad).run P w = .ok (.agg cs.toArray) w := by simp [loadVar, Sem.run_bind, hagg, sizeOf, typeInfo, hq, hs, hl]
  unfold execOp
  simp [ho, hx, Instr.loadAt, Instr.sureAddr, Sem.run_bind, Sem.run_pure, hv]
theorem load_in {P : Program} {ops : Array Oper} {rest : List Oper} {o : Oper} {a : Act} {Q : Exit → Act → World → Prop} {w : World} {N : Tmp} {t n : Nat} {x : Operand} {ad : Addr} {cs : List Value} {d : TypeDesc} (hgd : o.guard = none) (hN : o.dst = some N) (ho : o.op = .load t x) (hx : a.eval x = .pointer (some ad)) (hc : spread w ad cs)
  (hu : P.underlying t = some d) (hd : (match d with | .struct _ | .array _ _ => true | _ => false) = true) (hl : cs.length = n) (hi : (P.info? t).map (·.size) = some n) (h : wpList P ops Q rest (a.put (some N) (.agg cs.toArray)) w) : wpList P ops Q (o :: rest) a w := by
 refine wpList_plain hgd fun K hK => ?_
 unfold Oper.wp
 rw [load_run ho hx hc hu hd hl hi]
 show K (a.put o.dst _) w
 rw [hN]
 exact hK _ _ h
theorem spread_at {w : World} {ad : Addr} {cs : List Value} (h : spread w ad cs) (j : Nat) (hj : 0 < j) {v : Value} (hv : cs[j]? = some v) : w.cell? ⟨ad.block, ad.off + j, none⟩ = some v := by
 have := h j v hv
 unfold Addr.add at this
 rwa [if_neg (Nat.ne_of_gt hj)] at this
theorem and3_f {a b c : Bool} (h : (a && (b && c)) = false) : (!a || (!b || !c)) = true := by cases a <;> cases b <;> cases c <;> simp_all
theorem and3_t {a b c : Bool} (h : (a && (b && c)) = true) : (!a || (!b || !c)) = false := by cases a <;> cases b <;> cases c <;> simp_all
/-- As blk_store, at a place within the block. -/
theorem blk_store_at {P : Program} {o : Oper} {a : Act} {w0 W : World} {t e n j : Nat} {p x : Operand} {u : Value} {seg : List Value} {cur cs' : Array Value} {g : Nat}
  (ho : o.op = .store t p x) (haddr : a.eval p = .pointer (some ⟨g, j, none⟩)) (hx : a.eval x = u) (hu : u.cells.toList = seg) (hl : seg.length = n)
  (ht : (P.info? t).map (·.size) = some n) (h1 : seg.all Value.oneCell' = true) (hh : W.heap[g]? = some (.cells cur e (0, 0))) (hs : (decide (j + n ≤ cur.size)) = true) (hc : cur.toList.take j ++ seg ++ cur.toList.drop (j + n) = cs'.toList) (HB : Below w0.heap.size w0 W) (hge : w0.heap.size ≤ g) :
  ∃ W', (execOp a.eval o).run P W = .ok .skip W' ∧ W'.heap[g]? = some (.cells cs' e (0, 0)) ∧ Below w0.heap.size w0 W' ∧ W'.heap.size = W.heap.size ∧ ∀ k, k ≠ g → W'.heap[k]? = W.heap[k]? := by
 subst hl
 have hs := of_decide_eq_true hs
 obtain ⟨s1, s2, s3, s4⟩ := setCells_same g seg j W
 have hB : Below w0.heap.size w0 (W.setCells g j seg) := HB.trans ⟨s1, s2, s3, by rw [s4]; exact Nat.le_refl _, fun k hk => setCells_far seg j k (by omega)⟩
 have hrun := run_store_run (P := P) (o := j) t u seg hh hu ht hs (fun q hq => List.all_eq_true.1 h1 q hq)
 obtain ⟨cur', e1, _, e3⟩ := setCells_row seg j W cur hh hs
 refine ⟨W.setCells g j seg, ?_, ?_, hB, s4, fun k hk => setCells_far seg j k hk⟩
 ·
  unfold execOp
  simp only [ho, haddr, hx, Sem.run_bind, Sem.run_pure, Result.andThen_ok, hrun]
 ·
  have e4 : cur' = cs' := by
   apply Array.ext'
   rw [e3, hc]
  rw [e1, e4]
theorem store_at {P : Program} {ops : Array Oper} {rest : List Oper} {o : Oper} {a : Act} {Q : Exit → Act → World → Prop} {w0 W : World} {t e n j : Nat} {p x : Operand} {u : Value} {seg : List Value} {cur cs' : Array Value} {g : Nat} (hgd : o.guard = none) (hN : o.dst = none)
  (ho : o.op = .store t p x) (haddr : a.eval p = .pointer (some ⟨g, j, none⟩)) (hx : a.eval x = u) (hu : u.cells.toList = seg) (hl : seg.length = n)
  (ht : (P.info? t).map (·.size) = some n) (h1 : seg.all Value.oneCell' = true) (hh : W.heap[g]? = some (.cells cur e (0, 0))) (hs : (decide (j + n ≤ cur.size)) = true) (hc : cur.toList.take j ++ seg ++ cur.toList.drop (j + n) = cs'.toList) (HB : Below w0.heap.size w0 W) (hge : w0.heap.size ≤ g)
  (h : ∀ W', W'.heap[g]? = some (.cells cs' e (0, 0)) → Below w0.heap.size w0 W' → W'.heap.size = W.heap.size → (∀ k, k ≠ g → W'.heap[k]? = W.heap[k]?) → wpList P ops Q rest a W') : wpList P ops Q (o :: rest) a W := by
 obtain ⟨W', e1, e2, e3, e4, e5⟩ := blk_store_at ho haddr hx hu hl ht h1 hh hs hc HB hge
 refine wpList_plain hgd fun K hK => ?_
 unfold Oper.wp
 rw [e1]
 show K (a.put o.dst undef) W'
 rw [hN]
 exact hK _ _ (h W' e2 e3 e4 e5)
theorem store_at_any {P : Program} {ops : Array Oper} {o : Oper} {a : Act} {Q : Exit → Act → World → Prop} {K : Act → World → Prop} {w0 W : World} {t e n j : Nat} {p x : Operand} {u : Value} {seg : List Value} {cur cs' : Array Value} {g : Nat} (hgd : o.guard = none) (hN : o.dst = none)
  (ho : o.op = .store t p x) (haddr : a.eval p = .pointer (some ⟨g, j, none⟩)) (hx : a.eval x = u) (hu : u.cells.toList = seg) (hl : seg.length = n)
  (ht : (P.info? t).map (·.size) = some n) (h1 : seg.all Value.oneCell' = true) (hh : W.heap[g]? = some (.cells cur e (0, 0))) (hs : (decide (j + n ≤ cur.size)) = true) (hc : cur.toList.take j ++ seg ++ cur.toList.drop (j + n) = cs'.toList) (HB : Below w0.heap.size w0 W) (hge : w0.heap.size ≤ g)
  (h : ∀ W', W'.heap[g]? = some (.cells cs' e (0, 0)) → Below w0.heap.size w0 W' → W'.heap.size = W.heap.size → (∀ k, k ≠ g → W'.heap[k]? = W.heap[k]?) → K a W') : if Region.wanted o (yielded ops a.tmps) = true then Oper.wp P o a W K Q else K (a.put none undef) W := by
 obtain ⟨W', e1, e2, e3, e4, e5⟩ := blk_store_at ho haddr hx hu hl ht h1 hh hs hc HB hge
 exact skipN_ hgd hN e1 (h W' e2 e3 e4 e5)
/-- While a chart is put together: g3 its block (cells cs), v the row that grows (its elements xs, its blocks below m), wS the world as the loop began. -/
structure ChI {α : Type} (d : Kd α) (e : Nat) (w wS W : World) (g3 : Nat) (cs : Array Value) (v : Value) (xs : List α) (m : Nat) : Prop where
 below : Below w.heap.size w W
 ge : w.heap.size ≤ g3
 lt : g3 < wS.heap.size
 blk : W.heap[g3]? = some (.cells cs 34 (0, 0))
 row : d.R e W wS.heap.size (fun k => k < m) v xs
 fr : ∀ k, k < wS.heap.size → k ≠ g3 → W.heap[k]? = wS.heap[k]?
 sz : wS.heap.size ≤ m
 mz : m ≤ W.heap.size
namespace ChI
section
variable {α β : Type} {d : Kd α} {d' : Kd β} {e e' m g g3 base : Nat} {w wS W W' : World} {cs cs' : Array Value} {v v' : Value} {xs : List α} {ys : List β}
theorem start (hB : Below w.heap.size w W) (hg : w.heap.size ≤ g3) (hb : W.heap[g3]? = some (.cells cs 34 (0, 0))) : ChI d e w W W g3 cs (.slice none 0 0) [] W.heap.size :=
 ⟨hB, hg, blk_lt hb, hb, Kd.R_nil _ _ _ _ _, fun _ _ _ => rfl, Nat.le_refl _, Nat.le_refl _⟩
theorem step (I : ChI d e w wS W g3 cs v xs m) (hb : Below W.heap.size W W') : ChI d e w wS W' g3 cs v xs m :=
 ⟨below_step I.below hb, I.ge, I.lt, blk_below I.blk hb, Kd.R_below I.row hb, fun k h1 h2 => (hb.block k (Nat.lt_of_lt_of_le h1 (Nat.le_trans I.sz I.mz))).trans (I.fr k h1 h2), I.sz, Nat.le_trans I.mz hb.size⟩
theorem renew (I : ChI d e w wS W g3 cs v xs m) : ChI d e w wS W g3 cs v xs W.heap.size :=
 ⟨I.below, I.ge, I.lt, I.blk, Kd.R_mono (Kd.R_bound I.row) (fun _ h => h.2.2.1), I.fr, Nat.le_trans I.sz I.mz, Nat.le_refl _⟩
/-- A store into a younger block. -/
theorem store (I : ChI d e w wS W g3 cs v xs m) (hg : m ≤ g) (hB : Below w.heap.size w W') (hs : W'.heap.size = W.heap.size) (hk : ∀ k, k ≠ g → W'.heap[k]? = W.heap[k]?) : ChI d e w wS W' g3 cs v xs m := by
 have h3 := I.lt
 have hz := I.sz
 exact ⟨hB, I.ge, I.lt, (hk g3 (by omega)).trans I.blk, Kd.R_step I.row (fun k h _ => hk k (by omega)), fun k h1 h2 => (hk k (by omega)).trans (I.fr k h1 h2), I.sz, by rw [hs]; exact I.mz⟩
/-- A store into the chart. -/
theorem out (I : ChI d e w wS W g3 cs v xs m) (hb : W'.heap[g3]? = some (.cells cs' 34 (0, 0))) (hB : Below w.heap.size w W') (hs : W'.heap.size = W.heap.size) (hk : ∀ k, k ≠ g3 → W'.heap[k]? = W.heap[k]?) : ChI d e w wS W' g3 cs' v xs m := by
 have h3 := I.lt
 exact ⟨hB, I.ge, I.lt, hb, Kd.R_mono (Kd.R_step (Kd.R_bound I.row) (fun k h _ => hk k (by have := h.2.1; omega))) (fun _ h => h.1), fun k h1 h2 => (hk k h2).trans (I.fr k h1 h2), I.sz, by rw [hs]; exact I.mz⟩
theorem next (I : ChI d e w wS W g3 cs v xs m) : ChI d' e' w W W g3 cs (.slice none 0 0) [] W.heap.size := start I.below I.ge I.blk
theorem done (I : ChI d e w wS W g3 cs v xs m) : d.R e W wS.heap.size (fun k => k ≠ g3) v xs := by
 have h3 := I.lt
 exact Kd.R_mono (Kd.R_bound I.row) (fun k h => by have := h.2.1; omega)
theorem old (I : ChI d e w wS W g3 cs v xs m) (h : d'.R e' wS base (fun k => k ≠ g3) v' ys) : d'.R e' W base (fun k => k ≠ g3) v' ys :=
 Kd.R_mono (Kd.R_step (Kd.R_bound h) (fun k hk _ => I.fr k hk.2.2.1 hk.1)) (fun _ h => h.1)
theorem frb (I : ChI d e w wS W g3 cs v xs m) {t : Nat} {c : Array Value} (h : wS.heap[g]? = some (.cells c t (0, 0))) (hn : g ≠ g3) : W.heap[g]? = some (.cells c t (0, 0)) := (I.fr g (blk_lt h) hn).trans h
/-- What a call has made, within the element's block g. -/
theorem made {W1 : World} (I : ChI d e w wS W g3 cs v xs m) (h : d'.R e' W1 W.heap.size (fun _ => True) v' ys) (hg : g < W.heap.size) : d'.R e' W1 wS.heap.size (fun k => m ≤ k ∧ k ≠ g) v' ys := by
 have h1 := I.mz
 exact Kd.R_lower (Kd.R_mono (Kd.R_bound h) (fun k hk => ⟨by have := hk.2.1; omega, by have := hk.2.1; omega⟩)) (Nat.le_trans I.sz I.mz)
theorem madeS {W1 W2 : World} (h : d'.R e' W1 base (fun k => m ≤ k ∧ k ≠ g) v' ys) (hk : ∀ k, k ≠ g → W2.heap[k]? = W1.heap[k]?) : d'.R e' W2 base (fun k => m ≤ k ∧ k ≠ g) v' ys := Kd.R_step h (fun k h _ => hk k h.2)
end
section
variable {P : Program} {ops : Array Oper} {rest : List Oper} {o : Oper} {a : Act} {Q : Exit → Act → World → Prop} {α : Type}
theorem append {d : Kd α} {w wS W : World} {g3 m : Nat} {ccs : Array Value} {xs : List α} (hgd : o.guard = none) (s x : Operand) (t e : TypeId) (z : Value) (bytes : Nat)
  (ho : o.op = .call { callee := .builtin .append, args := #[s, x], argTypes := #[t, t] })
  (ht : P.underlying t = some (.slice e)) (hinfo : (P.info? e).map (fun i => (i.zero, i.size, i.bytes)) = some (some z, d.sz, bytes)) (hz : z.cells.size = d.sz) (hs0 : 0 < d.sz) (hb0 : 0 < bytes)
  (v : Value) (p : α) (cs : List Value) (hs : a.eval s = v) (hx : a.eval x = .slice (some ⟨W.heap.size, 0, none⟩) 1 1) (I : ChI d e w wS W g3 ccs v xs m) (hp : d.M W wS.heap.size (fun k => m ≤ k) p cs)
  (hl : (xs.length + 1) * bytes ≤ 140737488355328)
  (h : ∀ v1 w1, ChI d e w wS w1 g3 ccs v1 (xs ++ [p]) w1.heap.size → wpList P ops Q rest (a.put o.dst v1) w1) :
  wpList P ops Q (o :: rest) a (W.alloc (.cells cs.toArray e)) := by
 have h1 := I.lt
 have h2 := I.sz
 have h3 := I.mz
 have h5 : w.heap.size ≤ wS.heap.size := Nat.le_trans I.ge (Nat.le_of_lt I.lt)
 refine Kd.R_append d (w0 := W) wS.heap.size hgd s x t e z bytes ho ht hinfo hz hs0 hb0 v xs p cs (fun _ => True) (fun k => m ≤ k) hs hx hp (fun k hk => ⟨trivial, fun he => ?_⟩) (fun _ _ => trivial) (Kd.R_mono I.row (fun _ _ => trivial)) ⟨rfl, rfl, rfl, Nat.le_refl _, fun _ _ => rfl⟩ (by omega) hl ?_
 ·
  have := I.row.1 k he.symm
  omega
 intro v1 w1 hr hb hg _
 have hv : ∀ k, v.ownBlock = some k → wS.heap.size ≤ k := fun k hk => ((Kd.R_bound I.row).1 k hk).2.1
 have hne : ∀ k, k < wS.heap.size → some k ≠ v.ownBlock := fun k hk he => by have := hv k he.symm; omega
 refine h v1 w1 ⟨⟨hb.os.trans I.below.os, hb.tape.trans I.below.tape, hb.output.trans I.below.output, Nat.le_trans I.below.size hb.size, fun k hk => (hb.block k (by omega)).trans (I.below.block k hk)⟩, I.ge, I.lt, (hb.block g3 h1).trans I.blk, Kd.R_mono (Kd.R_bound hr) (fun _ h => h.2.2.1), fun k h1 h2 => (hb.block k h1).trans (I.fr k h1 h2), Nat.le_trans h2 (Nat.le_trans h3 hb.size), Nat.le_refl _⟩
end
end ChI
/-- Element by element. -/
def mapGo {α β : Type} (F : α → Option β) : List α → Option (List β)
 | [] => some []
 | x :: xs => (F x).bind fun y => (mapGo F xs).bind fun ys => some (y :: ys)
theorem mapGo_le {α β : Type} {F G : α → Option β} (h : ∀ x, LeO (F x) (G x)) : ∀ (a : List α), LeO (mapGo F a) (mapGo G a)
 | [] => LeO.refl _
 | x :: xs => LeO.bind (h x) (fun _ => LeO.bind (mapGo_le h xs) (fun _ => LeO.refl _))
theorem ChI.gem {α : Type} {d : Kd α} {e m g g3 : Nat} {w wS W : World} {cs : Array Value} {v : Value} {xs : List α} (I : ChI d e w wS W g3 cs v xs m) (hg : m ≤ g) : w.heap.size ≤ g := by
 have h1 := I.ge
 have h2 := I.lt
 have h3 := I.sz
 omega
theorem ChI.fin {α : Type} {d : Kd α} {e base base0 g : Nat} {ok : Nat → Prop} {W W' : World} {v : Value} {xs : List α} (h : d.R e W base ok v xs) (hg : g < base) (h0 : base0 ≤ g) (hk : ∀ k, k ≠ g → W'.heap[k]? = W.heap[k]?) : d.R e W' base0 (fun _ => True) v xs :=
 Kd.R_lower (Kd.R_mono (Kd.R_step (Kd.R_bound h) (fun k h _ => hk k (by have := h.2.1; omega))) (fun _ _ => trivial)) (by omega)
/-- A chart's three rows, made. -/
structure CV (w : World) (base : Nat) (ok : Nat → Prop) (v0 v1 v2 : Value) (s0 : List S58) (s1 : List S67) (s2 : List S70) : Prop where
 r0 : k58.R 58 w base ok v0 s0
 r1 : k67.R 67 w base ok v1 s1
 r2 : k70.R 70 w base ok v2 s2
namespace CV
variable {w w1 : World} {base base' g : Nat} {ok ok' : Nat → Prop} {v0 v1 v2 : Value} {s0 : List S58} {s1 : List S67} {s2 : List S70}
theorem below (h : CV w base ok v0 v1 v2 s0 s1 s2) (hb : Below w.heap.size w w1) : CV w1 base ok v0 v1 v2 s0 s1 s2 := ⟨Kd.R_below h.r0 hb, Kd.R_below h.r1 hb, Kd.R_below h.r2 hb⟩
theorem mono (h : CV w base ok v0 v1 v2 s0 s1 s2) (hok : ∀ k, ok k → ok' k) (hb : base' ≤ base) : CV w base' ok' v0 v1 v2 s0 s1 s2 := ⟨Kd.R_lower (Kd.R_mono h.r0 hok) hb, Kd.R_lower (Kd.R_mono h.r1 hok) hb, Kd.R_lower (Kd.R_mono h.r2 hok) hb⟩
/-- Another block is made behind it. -/
theorem elder (h : CV w base ok v0 v1 v2 s0 s1 s2) (ha : w.heap.size ≤ g) (hb : Below w.heap.size w w1) : CV w1 base (fun k => ok k ∧ k ≠ g) v0 v1 v2 s0 s1 s2 := ⟨Kd.R_below (Kd.R_elderB h.r0 g ha) hb, Kd.R_below (Kd.R_elderB h.r1 g ha) hb, Kd.R_below (Kd.R_elderB h.r2 g ha) hb⟩
/-- It is made behind another block. -/
theorem newb {o : Obj} (h : CV w1 w.heap.size ok v0 v1 v2 s0 s1 s2) (hb : w.heap[g]? = some o) : CV w1 w.heap.size (fun k => ok k ∧ k ≠ g) v0 v1 v2 s0 s1 s2 := ⟨Kd.R_newB h.r0 hb, Kd.R_newB h.r1 hb, Kd.R_newB h.r2 hb⟩
theorem store (h : CV w base ok v0 v1 v2 s0 s1 s2) (hok : ∀ k, ok k → k ≠ g) (hk : ∀ k, k ≠ g → w1.heap[k]? = w.heap[k]?) : CV w1 base ok v0 v1 v2 s0 s1 s2 := ⟨Kd.R_step h.r0 (fun k h _ => hk k (hok k h)), Kd.R_step h.r1 (fun k h _ => hk k (hok k h)), Kd.R_step h.r2 (fun k h _ => hk k (hok k h))⟩
end CV
theorem mapGo_cons {α β : Type} {F : α → Option β} {x : α} {xs : List α} {r : List β} (h : mapGo F (x :: xs) = some r) : ∃ y ys, F x = some y ∧ mapGo F xs = some ys ∧ r = y :: ys := by
 rw [mapGo] at h
 obtain ⟨y, h1, h⟩ := Option.bind_eq_some_iff.1 h
 obtain ⟨ys, h2, h⟩ := Option.bind_eq_some_iff.1 h
 exact ⟨y, ys, h1, h2, (Option.some.inj h).symm⟩
/-- While a list is put together: v the row that grows (its elements xs, its blocks below m). -/
structure RI {α : Type} (d : Kd α) (e : Nat) (w W : World) (v : Value) (xs : List α) (m : Nat) : Prop where
 below : Below w.heap.size w W
 row : d.R e W w.heap.size (fun k => k < m) v xs
 sz : w.heap.size ≤ m
 mz : m ≤ W.heap.size
namespace RI
section
variable {α β : Type} {d : Kd α} {d' : Kd β} {e e' m g base : Nat} {w W W' : World} {v v' : Value} {xs : List α} {ys : List β}
theorem step (I : RI d e w W v xs m) (hb : Below W.heap.size W W') : RI d e w W' v xs m := ⟨below_step I.below hb, Kd.R_below I.row hb, I.sz, Nat.le_trans I.mz hb.size⟩
theorem renew (I : RI d e w W v xs m) : RI d e w W v xs W.heap.size := ⟨I.below, Kd.R_mono (Kd.R_bound I.row) (fun _ h => h.2.2.1), Nat.le_trans I.sz I.mz, Nat.le_refl _⟩
theorem store (I : RI d e w W v xs m) (hg : m ≤ g) (hB : Below w.heap.size w W') (hs : W'.heap.size = W.heap.size) (hk : ∀ k, k ≠ g → W'.heap[k]? = W.heap[k]?) : RI d e w W' v xs m := ⟨hB, Kd.R_step I.row (fun k h _ => hk k (by omega)), I.sz, by rw [hs]; exact I.mz⟩
theorem gem (I : RI d e w W v xs m) (hg : m ≤ g) : w.heap.size ≤ g := Nat.le_trans I.sz hg
theorem made {W1 : World} (I : RI d e w W v xs m) (h : d'.R e' W1 W.heap.size (fun _ => True) v' ys) (hg : g < W.heap.size) : d'.R e' W1 w.heap.size (fun k => m ≤ k ∧ k ≠ g) v' ys := by
 have h1 := I.mz
 exact Kd.R_lower (Kd.R_mono (Kd.R_bound h) (fun k hk => ⟨by have := hk.2.1; omega, by have := hk.2.1; omega⟩)) (Nat.le_trans I.sz I.mz)
end
section
variable {P : Program} {ops : Array Oper} {rest : List Oper} {o : Oper} {a : Act} {Q : Exit → Act → World → Prop} {α : Type}
theorem append {d : Kd α} {w W : World} {m : Nat} {xs : List α} (hgd : o.guard = none) (s x : Operand) (t e : TypeId) (z : Value) (bytes : Nat)
  (ho : o.op = .call { callee := .builtin .append, args := #[s, x], argTypes := #[t, t] })
  (ht : P.underlying t = some (.slice e)) (hinfo : (P.info? e).map (fun i => (i.zero, i.size, i.bytes)) = some (some z, d.sz, bytes)) (hz : z.cells.size = d.sz) (hs0 : 0 < d.sz) (hb0 : 0 < bytes)
  (v : Value) (p : α) (cs : List Value) (hs : a.eval s = v) (hx : a.eval x = .slice (some ⟨W.heap.size, 0, none⟩) 1 1) (I : RI d e w W v xs m) (hp : d.M W w.heap.size (fun k => m ≤ k) p cs)
  (hl : (xs.length + 1) * bytes ≤ 140737488355328)
  (h : ∀ v1 w1, RI d e w w1 v1 (xs ++ [p]) w1.heap.size → wpList P ops Q rest (a.put o.dst v1) w1) :
  wpList P ops Q (o :: rest) a (W.alloc (.cells cs.toArray e)) := by
 have h2 := I.sz
 have h3 := I.mz
 refine Kd.R_append d (w0 := w) w.heap.size hgd s x t e z bytes ho ht hinfo hz hs0 hb0 v xs p cs (fun _ => True) (fun k => m ≤ k) hs hx hp (fun k hk => ⟨trivial, fun he => ?_⟩) (fun _ _ => trivial) (Kd.R_mono I.row (fun _ _ => trivial)) I.below (by omega) hl ?_
 ·
  have := I.row.1 k he.symm
  omega
 intro v1 w1 hr hb hg _
 exact h v1 w1 ⟨hb, Kd.R_mono (Kd.R_bound hr) (fun _ h => h.2.2.1), hb.size, Nat.le_refl _⟩
end
end RI
theorem el_T46 {w : World} {A : Option Addr} {n : Nat} {xs : List S46} (h : Kd.C k46 w A n xs) (i : Int) (h0 : 0 ≤ i) (h1 : i < n) : ∃ ad A4 c4 A5 c5 A6 c6 A7 c7 A8 c8 A9 c9 A10 c10, A = some ad ∧ spread w (ad.add (i.toNat * 14)) [.int .i64 (rd_T46 xs i).f0, .int .i64 (rd_T46 xs i).f1, .string (rd_T46 xs i).f2, .int .i64 (rd_T46 xs i).f3, .slice A4 (rd_T46 xs i).f4.length c4, .slice A5 (rd_T46 xs i).f5.length c5, .slice A6 (rd_T46 xs i).f6.length c6, .slice A7 (rd_T46 xs i).f7.length c7, .slice A8 (rd_T46 xs i).f8.length c8, .slice A9 (rd_T46 xs i).f9.length c9, .slice A10 (rd_T46 xs i).f10.length c10, .int .u8 (rd_T46 xs i).f11, .int .i64 (rd_T46 xs i).f12, .int .i64 (rd_T46 xs i).f13] ∧ (rd_T46 xs i).f4.length ≤ c4 ∧ k65.C w A4 (rd_T46 xs i).f4.length (rd_T46 xs i).f4 ∧ (rd_T46 xs i).f5.length ≤ c5 ∧ Kd.string.C w A5 (rd_T46 xs i).f5.length (rd_T46 xs i).f5 ∧ (rd_T46 xs i).f6.length ≤ c6 ∧ k65.C w A6 (rd_T46 xs i).f6.length (rd_T46 xs i).f6 ∧ (rd_T46 xs i).f7.length ≤ c7 ∧ Kd.string.C w A7 (rd_T46 xs i).f7.length (rd_T46 xs i).f7 ∧ (rd_T46 xs i).f8.length ≤ c8 ∧ k50.C w A8 (rd_T46 xs i).f8.length (rd_T46 xs i).f8 ∧ (rd_T46 xs i).f9.length ≤ c9 ∧ k46.C w A9 (rd_T46 xs i).f9.length (rd_T46 xs i).f9 ∧ (rd_T46 xs i).f10.length ≤ c10 ∧ k46.C w A10 (rd_T46 xs i).f10.length (rd_T46 xs i).f10 := by
 obtain ⟨ad, c, e, _, hK, hc⟩ := Kd.C_get h z46 i h0 h1
 obtain ⟨A4, c4, A5, c5, A6, c6, A7, c7, A8, c8, A9, c9, A10, c10, rfl, l4, g4, l5, g5, l6, g6, l7, g7, l8, g8, l9, g9, l10, g10⟩ := k46_open hK
 exact ⟨ad, A4, c4, A5, c5, A6, c6, A7, c7, A8, c8, A9, c9, A10, c10, e, fun j v hv => by rw [Addr.add_add]; exact hc j v hv, l4, g4, l5, g5, l6, g6, l7, g7, l8, g8, l9, g9, l10, g10⟩
theorem el_T58 {w : World} {A : Option Addr} {n : Nat} {xs : List S58} (h : Kd.C k58 w A n xs) (i : Int) (h0 : 0 ≤ i) (h1 : i < n) : ∃ ad A3 c3, A = some ad ∧ spread w (ad.add (i.toNat * 4)) [.int .i64 (rd_T58 xs i).f0, .string (rd_T58 xs i).f1, .bool (rd_T58 xs i).f2, .slice A3 (rd_T58 xs i).f3.length c3] ∧ (rd_T58 xs i).f3.length ≤ c3 ∧ k61.C w A3 (rd_T58 xs i).f3.length (rd_T58 xs i).f3 := by
 obtain ⟨ad, c, e, _, hK, hc⟩ := Kd.C_get h z58 i h0 h1
 obtain ⟨A3, c3, rfl, l3, g3⟩ := k58_open hK
 exact ⟨ad, A3, c3, e, fun j v hv => by rw [Addr.add_add]; exact hc j v hv, l3, g3⟩
theorem el_T61 {w : World} {A : Option Addr} {n : Nat} {xs : List S61} (h : Kd.C k61 w A n xs) (i : Int) (h0 : 0 ≤ i) (h1 : i < n) : ∃ ad , A = some ad ∧ spread w (ad.add (i.toNat * 4)) [.int .i64 (rd_T61 xs i).f0, .string (rd_T61 xs i).f1, .int .i64 (rd_T61 xs i).f2, .string (rd_T61 xs i).f3] := by
 obtain ⟨ad, c, e, _, hK, hc⟩ := Kd.C_get h z61 i h0 h1
 obtain ⟨rfl⟩ := k61_open hK
 exact ⟨ad, e, fun j v hv => by rw [Addr.add_add]; exact hc j v hv⟩
theorem el_T65 {w : World} {A : Option Addr} {n : Nat} {xs : List S65} (h : Kd.C k65 w A n xs) (i : Int) (h0 : 0 ≤ i) (h1 : i < n) : ∃ ad A7 c7 A8 c8, A = some ad ∧ spread w (ad.add (i.toNat * 14)) [.int .i64 (rd_T65 xs i).f0, .int .i64 (rd_T65 xs i).f1, .string (rd_T65 xs i).f2, .string (rd_T65 xs i).f3, .int .u8 (rd_T65 xs i).f4.f0, .int .u64 (rd_T65 xs i).f4.f1, .string (rd_T65 xs i).f4.f2, .slice A7 (rd_T65 xs i).f5.length c7, .slice A8 (rd_T65 xs i).f6.length c8, .int .u8 (rd_T65 xs i).f7, .int .i64 (rd_T65 xs i).f8, .int .i64 (rd_T65 xs i).f9, .int .i64 (rd_T65 xs i).f10, .int .i64 (rd_T65 xs i).f11] ∧ (rd_T65 xs i).f5.length ≤ c7 ∧ k65.C w A7 (rd_T65 xs i).f5.length (rd_T65 xs i).f5 ∧ (rd_T65 xs i).f6.length ≤ c8 ∧ Kd.string.C w A8 (rd_T65 xs i).f6.length (rd_T65 xs i).f6 := by
 obtain ⟨ad, c, e, _, hK, hc⟩ := Kd.C_get h z65 i h0 h1
 obtain ⟨A7, c7, A8, c8, rfl, l7, g7, l8, g8⟩ := k65_open hK
 exact ⟨ad, A7, c7, A8, c8, e, fun j v hv => by rw [Addr.add_add]; exact hc j v hv, l7, g7, l8, g8⟩
theorem el_T67 {w : World} {A : Option Addr} {n : Nat} {xs : List S67} (h : Kd.C k67 w A n xs) (i : Int) (h0 : 0 ≤ i) (h1 : i < n) : ∃ ad A2 c2 A3 c3 A11 c11 A12 c12, A = some ad ∧ spread w (ad.add (i.toNat * 18)) [.int .i64 (rd_T67 xs i).f0, .string (rd_T67 xs i).f1, .slice A2 (rd_T67 xs i).f2.length c2, .slice A3 (rd_T67 xs i).f3.length c3, .int .i64 (rd_T67 xs i).f4.f0, .int .i64 (rd_T67 xs i).f4.f1, .string (rd_T67 xs i).f4.f2, .string (rd_T67 xs i).f4.f3, .int .u8 (rd_T67 xs i).f4.f4.f0, .int .u64 (rd_T67 xs i).f4.f4.f1, .string (rd_T67 xs i).f4.f4.f2, .slice A11 (rd_T67 xs i).f4.f5.length c11, .slice A12 (rd_T67 xs i).f4.f6.length c12, .int .u8 (rd_T67 xs i).f4.f7, .int .i64 (rd_T67 xs i).f4.f8, .int .i64 (rd_T67 xs i).f4.f9, .int .i64 (rd_T67 xs i).f4.f10, .int .i64 (rd_T67 xs i).f4.f11] ∧ (rd_T67 xs i).f2.length ≤ c2 ∧ Kd.string.C w A2 (rd_T67 xs i).f2.length (rd_T67 xs i).f2 ∧ (rd_T67 xs i).f3.length ≤ c3 ∧ Kd.string.C w A3 (rd_T67 xs i).f3.length (rd_T67 xs i).f3 ∧ (rd_T67 xs i).f4.f5.length ≤ c11 ∧ k65.C w A11 (rd_T67 xs i).f4.f5.length (rd_T67 xs i).f4.f5 ∧ (rd_T67 xs i).f4.f6.length ≤ c12 ∧ Kd.string.C w A12 (rd_T67 xs i).f4.f6.length (rd_T67 xs i).f4.f6 := by
 obtain ⟨ad, c, e, _, hK, hc⟩ := Kd.C_get h z67 i h0 h1
 obtain ⟨A2, c2, A3, c3, A11, c11, A12, c12, rfl, l2, g2, l3, g3, l11, g11, l12, g12⟩ := k67_open hK
 exact ⟨ad, A2, c2, A3, c3, A11, c11, A12, c12, e, fun j v hv => by rw [Addr.add_add]; exact hc j v hv, l2, g2, l3, g3, l11, g11, l12, g12⟩
theorem el_T70 {w : World} {A : Option Addr} {n : Nat} {xs : List S70} (h : Kd.C k70 w A n xs) (i : Int) (h0 : 0 ≤ i) (h1 : i < n) : ∃ ad A2 c2, A = some ad ∧ spread w (ad.add (i.toNat * 3)) [.int .i64 (rd_T70 xs i).f0, .string (rd_T70 xs i).f1, .slice A2 (rd_T70 xs i).f2.length c2] ∧ (rd_T70 xs i).f2.length ≤ c2 ∧ k46.C w A2 (rd_T70 xs i).f2.length (rd_T70 xs i).f2 := by
 obtain ⟨ad, c, e, _, hK, hc⟩ := Kd.C_get h z70 i h0 h1
 obtain ⟨A2, c2, rfl, l2, g2⟩ := k70_open hK
 exact ⟨ad, A2, c2, e, fun j v hv => by rw [Addr.add_add]; exact hc j v hv, l2, g2⟩
/-- A block's 3 cells, and that none is frozen. -/
theorem cells3 {w : World} {g : Nat} {t : TypeId} {v0 v1 v2 : Value} (h : w.heap[g]? = some (.cells #[v0, v1, v2] t (0, 0))) : w.cell? ⟨g, 0, none⟩ = some v0 ∧ w.cell? ⟨g, 1, none⟩ = some v1 ∧ w.cell? ⟨g, 2, none⟩ = some v2 ∧ w.frozen? ⟨g, 0, none⟩ = false ∧ w.frozen? ⟨g, 1, none⟩ = false ∧ w.frozen? ⟨g, 2, none⟩ = false := ⟨(blk_cell h 0).trans rfl, (blk_cell h 1).trans rfl, (blk_cell h 2).trans rfl, blk_frozen h 0, blk_frozen h 1, blk_frozen h 2⟩
theorem put3 {w : World} {g : Nat} {t : TypeId} {z0 z1 z2 v0 v1 v2 : Value} (h : w.heap[g]? = some (.cells #[z0, z1, z2] t (0, 0))) : (((w.setCell ⟨g, 0, none⟩ v0).setCell ⟨g, 1, none⟩ v1).setCell ⟨g, 2, none⟩ v2).heap[g]? = some (.cells #[v0, v1, v2] t (0, 0)) := (blk_put (cs' := #[v0, v1, v2]) (blk_put (cs' := #[v0, v1, z2]) (blk_put (cs' := #[v0, z1, z2]) h 0 v0 rfl) 1 v1 rfl) 2 v2 rfl)
theorem blk_far3 {w : World} {g g' : Nat} {t : TypeId} {cs : Array Value} {v0 v1 v2 : Value} (h : w.heap[g']? = some (.cells cs t (0, 0))) (hn : g' ≠ g) : (((w.setCell ⟨g, 0, none⟩ v0).setCell ⟨g, 1, none⟩ v1).setCell ⟨g, 2, none⟩ v2).heap[g']? = some (.cells cs t (0, 0)) := (blk_far (p := ⟨g, 2, none⟩) (blk_far (p := ⟨g, 1, none⟩) (blk_far (p := ⟨g, 0, none⟩) h hn v0) hn v1) hn v2)
theorem below_set3 {w0 w : World} {g : Nat} {v0 v1 v2 : Value} (h : Below w0.heap.size w0 w) (hg : w0.heap.size ≤ g) : Below w0.heap.size w0 (((w.setCell ⟨g, 0, none⟩ v0).setCell ⟨g, 1, none⟩ v1).setCell ⟨g, 2, none⟩ v2) := (below_set (below_set (below_set h hg) hg) hg)
theorem world3 {F : World → Prop} {w0 w : World} {g : Nat} {t : TypeId} {z0 z1 z2 v0 v1 v2 : Value} (B : w.heap[g]? = some (.cells #[z0, z1, z2] t (0, 0))) (hB : Below w0.heap.size w0 w) (hg : w0.heap.size ≤ g) (h : ∀ W, W.heap[g]? = some (.cells #[v0, v1, v2] t (0, 0)) → Below w0.heap.size w0 W → (∀ g' t' cs, w.heap[g']? = some (.cells cs t' (0, 0)) → g' ≠ g → W.heap[g']? = some (.cells cs t' (0, 0))) → F W) : F (((w.setCell ⟨g, 0, none⟩ v0).setCell ⟨g, 1, none⟩ v1).setCell ⟨g, 2, none⟩ v2) := h _ (put3 B) (below_set3 hB hg) (fun _ _ _ hb hn => blk_far3 hb hn)
/-- A block's 4 cells, and that none is frozen. -/
theorem cells4 {w : World} {g : Nat} {t : TypeId} {v0 v1 v2 v3 : Value} (h : w.heap[g]? = some (.cells #[v0, v1, v2, v3] t (0, 0))) : w.cell? ⟨g, 0, none⟩ = some v0 ∧ w.cell? ⟨g, 1, none⟩ = some v1 ∧ w.cell? ⟨g, 2, none⟩ = some v2 ∧ w.cell? ⟨g, 3, none⟩ = some v3 ∧ w.frozen? ⟨g, 0, none⟩ = false ∧ w.frozen? ⟨g, 1, none⟩ = false ∧ w.frozen? ⟨g, 2, none⟩ = false ∧ w.frozen? ⟨g, 3, none⟩ = false := ⟨(blk_cell h 0).trans rfl, (blk_cell h 1).trans rfl, (blk_cell h 2).trans rfl, (blk_cell h 3).trans rfl, blk_frozen h 0, blk_frozen h 1, blk_frozen h 2, blk_frozen h 3⟩
theorem put4 {w : World} {g : Nat} {t : TypeId} {z0 z1 z2 z3 v0 v1 v2 v3 : Value} (h : w.heap[g]? = some (.cells #[z0, z1, z2, z3] t (0, 0))) : ((((w.setCell ⟨g, 0, none⟩ v0).setCell ⟨g, 1, none⟩ v1).setCell ⟨g, 2, none⟩ v2).setCell ⟨g, 3, none⟩ v3).heap[g]? = some (.cells #[v0, v1, v2, v3] t (0, 0)) := (blk_put (cs' := #[v0, v1, v2, v3]) (blk_put (cs' := #[v0, v1, v2, z3]) (blk_put (cs' := #[v0, v1, z2, z3]) (blk_put (cs' := #[v0, z1, z2, z3]) h 0 v0 rfl) 1 v1 rfl) 2 v2 rfl) 3 v3 rfl)
theorem blk_far4 {w : World} {g g' : Nat} {t : TypeId} {cs : Array Value} {v0 v1 v2 v3 : Value} (h : w.heap[g']? = some (.cells cs t (0, 0))) (hn : g' ≠ g) : ((((w.setCell ⟨g, 0, none⟩ v0).setCell ⟨g, 1, none⟩ v1).setCell ⟨g, 2, none⟩ v2).setCell ⟨g, 3, none⟩ v3).heap[g']? = some (.cells cs t (0, 0)) := (blk_far (p := ⟨g, 3, none⟩) (blk_far (p := ⟨g, 2, none⟩) (blk_far (p := ⟨g, 1, none⟩) (blk_far (p := ⟨g, 0, none⟩) h hn v0) hn v1) hn v2) hn v3)
theorem below_set4 {w0 w : World} {g : Nat} {v0 v1 v2 v3 : Value} (h : Below w0.heap.size w0 w) (hg : w0.heap.size ≤ g) : Below w0.heap.size w0 ((((w.setCell ⟨g, 0, none⟩ v0).setCell ⟨g, 1, none⟩ v1).setCell ⟨g, 2, none⟩ v2).setCell ⟨g, 3, none⟩ v3) := (below_set (below_set (below_set (below_set h hg) hg) hg) hg)
theorem world4 {F : World → Prop} {w0 w : World} {g : Nat} {t : TypeId} {z0 z1 z2 z3 v0 v1 v2 v3 : Value} (B : w.heap[g]? = some (.cells #[z0, z1, z2, z3] t (0, 0))) (hB : Below w0.heap.size w0 w) (hg : w0.heap.size ≤ g) (h : ∀ W, W.heap[g]? = some (.cells #[v0, v1, v2, v3] t (0, 0)) → Below w0.heap.size w0 W → (∀ g' t' cs, w.heap[g']? = some (.cells cs t' (0, 0)) → g' ≠ g → W.heap[g']? = some (.cells cs t' (0, 0))) → F W) : F ((((w.setCell ⟨g, 0, none⟩ v0).setCell ⟨g, 1, none⟩ v1).setCell ⟨g, 2, none⟩ v2).setCell ⟨g, 3, none⟩ v3) := h _ (put4 B) (below_set4 hB hg) (fun _ _ _ hb hn => blk_far4 hb hn)
/-- A block's 14 cells, and that none is frozen. -/
theorem cells14 {w : World} {g : Nat} {t : TypeId} {v0 v1 v2 v3 v4 v5 v6 v7 v8 v9 v10 v11 v12 v13 : Value} (h : w.heap[g]? = some (.cells #[v0, v1, v2, v3, v4, v5, v6, v7, v8, v9, v10, v11, v12, v13] t (0, 0))) : w.cell? ⟨g, 0, none⟩ = some v0 ∧ w.cell? ⟨g, 1, none⟩ = some v1 ∧ w.cell? ⟨g, 2, none⟩ = some v2 ∧ w.cell? ⟨g, 3, none⟩ = some v3 ∧ w.cell? ⟨g, 4, none⟩ = some v4 ∧ w.cell? ⟨g, 5, none⟩ = some v5 ∧ w.cell? ⟨g, 6, none⟩ = some v6 ∧ w.cell? ⟨g, 7, none⟩ = some v7 ∧ w.cell? ⟨g, 8, none⟩ = some v8 ∧ w.cell? ⟨g, 9, none⟩ = some v9 ∧ w.cell? ⟨g, 10, none⟩ = some v10 ∧ w.cell? ⟨g, 11, none⟩ = some v11 ∧ w.cell? ⟨g, 12, none⟩ = some v12 ∧ w.cell? ⟨g, 13, none⟩ = some v13 ∧ w.frozen? ⟨g, 0, none⟩ = false ∧ w.frozen? ⟨g, 1, none⟩ = false ∧ w.frozen? ⟨g, 2, none⟩ = false ∧ w.frozen? ⟨g, 3, none⟩ = false ∧ w.frozen? ⟨g, 4, none⟩ = false ∧ w.frozen? ⟨g, 5, none⟩ = false ∧ w.frozen? ⟨g, 6, none⟩ = false ∧ w.frozen? ⟨g, 7, none⟩ = false ∧ w.frozen? ⟨g, 8, none⟩ = false ∧ w.frozen? ⟨g, 9, none⟩ = false ∧ w.frozen? ⟨g, 10, none⟩ = false ∧ w.frozen? ⟨g, 11, none⟩ = false ∧ w.frozen? ⟨g, 12, none⟩ = false ∧ w.frozen? ⟨g, 13, none⟩ = false := ⟨(blk_cell h 0).trans rfl, (blk_cell h 1).trans rfl, (blk_cell h 2).trans rfl, (blk_cell h 3).trans rfl, (blk_cell h 4).trans rfl, (blk_cell h 5).trans rfl, (blk_cell h 6).trans rfl, (blk_cell h 7).trans rfl, (blk_cell h 8).trans rfl, (blk_cell h 9).trans rfl, (blk_cell h 10).trans rfl, (blk_cell h 11).trans rfl, (blk_cell h 12).trans rfl, (blk_cell h 13).trans rfl, blk_frozen h 0, blk_frozen h 1, blk_frozen h 2, blk_frozen h 3, blk_frozen h 4, blk_frozen h 5, blk_frozen h 6, blk_frozen h 7, blk_frozen h 8, blk_frozen h 9, blk_frozen h 10, blk_frozen h 11, blk_frozen h 12, blk_frozen h 13⟩
theorem put14 {w : World} {g : Nat} {t : TypeId} {z0 z1 z2 z3 z4 z5 z6 z7 z8 z9 z10 z11 z12 z13 v0 v1 v2 v3 v4 v5 v6 v7 v8 v9 v10 v11 v12 v13 : Value} (h : w.heap[g]? = some (.cells #[z0, z1, z2, z3, z4, z5, z6, z7, z8, z9, z10, z11, z12, z13] t (0, 0))) : ((((((((((((((w.setCell ⟨g, 0, none⟩ v0).setCell ⟨g, 1, none⟩ v1).setCell ⟨g, 2, none⟩ v2).setCell ⟨g, 3, none⟩ v3).setCell ⟨g, 4, none⟩ v4).setCell ⟨g, 5, none⟩ v5).setCell ⟨g, 6, none⟩ v6).setCell ⟨g, 7, none⟩ v7).setCell ⟨g, 8, none⟩ v8).setCell ⟨g, 9, none⟩ v9).setCell ⟨g, 10, none⟩ v10).setCell ⟨g, 11, none⟩ v11).setCell ⟨g, 12, none⟩ v12).setCell ⟨g, 13, none⟩ v13).heap[g]? = some (.cells #[v0, v1, v2, v3, v4, v5, v6, v7, v8, v9, v10, v11, v12, v13] t (0, 0)) := (blk_put (cs' := #[v0, v1, v2, v3, v4, v5, v6, v7, v8, v9, v10, v11, v12, v13]) (blk_put (cs' := #[v0, v1, v2, v3, v4, v5, v6, v7, v8, v9, v10, v11, v12, z13]) (blk_put (cs' := #[v0, v1, v2, v3, v4, v5, v6, v7, v8, v9, v10, v11, z12, z13]) (blk_put (cs' := #[v0, v1, v2, v3, v4, v5, v6, v7, v8, v9, v10, z11, z12, z13]) (blk_put (cs' := #[v0, v1, v2, v3, v4, v5, v6, v7, v8, v9, z10, z11, z12, z13]) (blk_put (cs' := #[v0, v1, v2, v3, v4, v5, v6, v7, v8, z9, z10, z11, z12, z13]) (blk_put (cs' := #[v0, v1, v2, v3, v4, v5, v6, v7, z8, z9, z10, z11, z12, z13]) (blk_put (cs' := #[v0, v1, v2, v3, v4, v5, v6, z7, z8, z9, z10, z11, z12, z13]) (blk_put (cs' := #[v0, v1, v2, v3, v4, v5, z6, z7, z8, z9, z10, z11, z12, z13]) (blk_put (cs' := #[v0, v1, v2, v3, v4, z5, z6, z7, z8, z9, z10, z11, z12, z13]) (blk_put (cs' := #[v0, v1, v2, v3, z4, z5, z6, z7, z8, z9, z10, z11, z12, z13]) (blk_put (cs' := #[v0, v1, v2, z3, z4, z5, z6, z7, z8, z9, z10, z11, z12, z13]) (blk_put (cs' := #[v0, v1, z2, z3, z4, z5, z6, z7, z8, z9, z10, z11, z12, z13]) (blk_put (cs' := #[v0, z1, z2, z3, z4, z5, z6, z7, z8, z9, z10, z11, z12, z13]) h 0 v0 rfl) 1 v1 rfl) 2 v2 rfl) 3 v3 rfl) 4 v4 rfl) 5 v5 rfl) 6 v6 rfl) 7 v7 rfl) 8 v8 rfl) 9 v9 rfl) 10 v10 rfl) 11 v11 rfl) 12 v12 rfl) 13 v13 rfl)
theorem blk_far14 {w : World} {g g' : Nat} {t : TypeId} {cs : Array Value} {v0 v1 v2 v3 v4 v5 v6 v7 v8 v9 v10 v11 v12 v13 : Value} (h : w.heap[g']? = some (.cells cs t (0, 0))) (hn : g' ≠ g) : ((((((((((((((w.setCell ⟨g, 0, none⟩ v0).setCell ⟨g, 1, none⟩ v1).setCell ⟨g, 2, none⟩ v2).setCell ⟨g, 3, none⟩ v3).setCell ⟨g, 4, none⟩ v4).setCell ⟨g, 5, none⟩ v5).setCell ⟨g, 6, none⟩ v6).setCell ⟨g, 7, none⟩ v7).setCell ⟨g, 8, none⟩ v8).setCell ⟨g, 9, none⟩ v9).setCell ⟨g, 10, none⟩ v10).setCell ⟨g, 11, none⟩ v11).setCell ⟨g, 12, none⟩ v12).setCell ⟨g, 13, none⟩ v13).heap[g']? = some (.cells cs t (0, 0)) := (blk_far (p := ⟨g, 13, none⟩) (blk_far (p := ⟨g, 12, none⟩) (blk_far (p := ⟨g, 11, none⟩) (blk_far (p := ⟨g, 10, none⟩) (blk_far (p := ⟨g, 9, none⟩) (blk_far (p := ⟨g, 8, none⟩) (blk_far (p := ⟨g, 7, none⟩) (blk_far (p := ⟨g, 6, none⟩) (blk_far (p := ⟨g, 5, none⟩) (blk_far (p := ⟨g, 4, none⟩) (blk_far (p := ⟨g, 3, none⟩) (blk_far (p := ⟨g, 2, none⟩) (blk_far (p := ⟨g, 1, none⟩) (blk_far (p := ⟨g, 0, none⟩) h hn v0) hn v1) hn v2) hn v3) hn v4) hn v5) hn v6) hn v7) hn v8) hn v9) hn v10) hn v11) hn v12) hn v13)
theorem below_set14 {w0 w : World} {g : Nat} {v0 v1 v2 v3 v4 v5 v6 v7 v8 v9 v10 v11 v12 v13 : Value} (h : Below w0.heap.size w0 w) (hg : w0.heap.size ≤ g) : Below w0.heap.size w0 ((((((((((((((w.setCell ⟨g, 0, none⟩ v0).setCell ⟨g, 1, none⟩ v1).setCell ⟨g, 2, none⟩ v2).setCell ⟨g, 3, none⟩ v3).setCell ⟨g, 4, none⟩ v4).setCell ⟨g, 5, none⟩ v5).setCell ⟨g, 6, none⟩ v6).setCell ⟨g, 7, none⟩ v7).setCell ⟨g, 8, none⟩ v8).setCell ⟨g, 9, none⟩ v9).setCell ⟨g, 10, none⟩ v10).setCell ⟨g, 11, none⟩ v11).setCell ⟨g, 12, none⟩ v12).setCell ⟨g, 13, none⟩ v13) := (below_set (below_set (below_set (below_set (below_set (below_set (below_set (below_set (below_set (below_set (below_set (below_set (below_set (below_set h hg) hg) hg) hg) hg) hg) hg) hg) hg) hg) hg) hg) hg) hg)
theorem world14 {F : World → Prop} {w0 w : World} {g : Nat} {t : TypeId} {z0 z1 z2 z3 z4 z5 z6 z7 z8 z9 z10 z11 z12 z13 v0 v1 v2 v3 v4 v5 v6 v7 v8 v9 v10 v11 v12 v13 : Value} (B : w.heap[g]? = some (.cells #[z0, z1, z2, z3, z4, z5, z6, z7, z8, z9, z10, z11, z12, z13] t (0, 0))) (hB : Below w0.heap.size w0 w) (hg : w0.heap.size ≤ g) (h : ∀ W, W.heap[g]? = some (.cells #[v0, v1, v2, v3, v4, v5, v6, v7, v8, v9, v10, v11, v12, v13] t (0, 0)) → Below w0.heap.size w0 W → (∀ g' t' cs, w.heap[g']? = some (.cells cs t' (0, 0)) → g' ≠ g → W.heap[g']? = some (.cells cs t' (0, 0))) → F W) : F ((((((((((((((w.setCell ⟨g, 0, none⟩ v0).setCell ⟨g, 1, none⟩ v1).setCell ⟨g, 2, none⟩ v2).setCell ⟨g, 3, none⟩ v3).setCell ⟨g, 4, none⟩ v4).setCell ⟨g, 5, none⟩ v5).setCell ⟨g, 6, none⟩ v6).setCell ⟨g, 7, none⟩ v7).setCell ⟨g, 8, none⟩ v8).setCell ⟨g, 9, none⟩ v9).setCell ⟨g, 10, none⟩ v10).setCell ⟨g, 11, none⟩ v11).setCell ⟨g, 12, none⟩ v12).setCell ⟨g, 13, none⟩ v13) := h _ (put14 B) (below_set14 hB hg) (fun _ _ _ hb hn => blk_far14 hb hn)
/-- A block's 18 cells, and that none is frozen. -/
theorem cells18 {w : World} {g : Nat} {t : TypeId} {v0 v1 v2 v3 v4 v5 v6 v7 v8 v9 v10 v11 v12 v13 v14 v15 v16 v17 : Value} (h : w.heap[g]? = some (.cells #[v0, v1, v2, v3, v4, v5, v6, v7, v8, v9, v10, v11, v12, v13, v14, v15, v16, v17] t (0, 0))) : w.cell? ⟨g, 0, none⟩ = some v0 ∧ w.cell? ⟨g, 1, none⟩ = some v1 ∧ w.cell? ⟨g, 2, none⟩ = some v2 ∧ w.cell? ⟨g, 3, none⟩ = some v3 ∧ w.cell? ⟨g, 4, none⟩ = some v4 ∧ w.cell? ⟨g, 5, none⟩ = some v5 ∧ w.cell? ⟨g, 6, none⟩ = some v6 ∧ w.cell? ⟨g, 7, none⟩ = some v7 ∧ w.cell? ⟨g, 8, none⟩ = some v8 ∧ w.cell? ⟨g, 9, none⟩ = some v9 ∧ w.cell? ⟨g, 10, none⟩ = some v10 ∧ w.cell? ⟨g, 11, none⟩ = some v11 ∧ w.cell? ⟨g, 12, none⟩ = some v12 ∧ w.cell? ⟨g, 13, none⟩ = some v13 ∧ w.cell? ⟨g, 14, none⟩ = some v14 ∧ w.cell? ⟨g, 15, none⟩ = some v15 ∧ w.cell? ⟨g, 16, none⟩ = some v16 ∧ w.cell? ⟨g, 17, none⟩ = some v17 ∧ w.frozen? ⟨g, 0, none⟩ = false ∧ w.frozen? ⟨g, 1, none⟩ = false ∧ w.frozen? ⟨g, 2, none⟩ = false ∧ w.frozen? ⟨g, 3, none⟩ = false ∧ w.frozen? ⟨g, 4, none⟩ = false ∧ w.frozen? ⟨g, 5, none⟩ = false ∧ w.frozen? ⟨g, 6, none⟩ = false ∧ w.frozen? ⟨g, 7, none⟩ = false ∧ w.frozen? ⟨g, 8, none⟩ = false ∧ w.frozen? ⟨g, 9, none⟩ = false ∧ w.frozen? ⟨g, 10, none⟩ = false ∧ w.frozen? ⟨g, 11, none⟩ = false ∧ w.frozen? ⟨g, 12, none⟩ = false ∧ w.frozen? ⟨g, 13, none⟩ = false ∧ w.frozen? ⟨g, 14, none⟩ = false ∧ w.frozen? ⟨g, 15, none⟩ = false ∧ w.frozen? ⟨g, 16, none⟩ = false ∧ w.frozen? ⟨g, 17, none⟩ = false := ⟨(blk_cell h 0).trans rfl, (blk_cell h 1).trans rfl, (blk_cell h 2).trans rfl, (blk_cell h 3).trans rfl, (blk_cell h 4).trans rfl, (blk_cell h 5).trans rfl, (blk_cell h 6).trans rfl, (blk_cell h 7).trans rfl, (blk_cell h 8).trans rfl, (blk_cell h 9).trans rfl, (blk_cell h 10).trans rfl, (blk_cell h 11).trans rfl, (blk_cell h 12).trans rfl, (blk_cell h 13).trans rfl, (blk_cell h 14).trans rfl, (blk_cell h 15).trans rfl, (blk_cell h 16).trans rfl, (blk_cell h 17).trans rfl, blk_frozen h 0, blk_frozen h 1, blk_frozen h 2, blk_frozen h 3, blk_frozen h 4, blk_frozen h 5, blk_frozen h 6, blk_frozen h 7, blk_frozen h 8, blk_frozen h 9, blk_frozen h 10, blk_frozen h 11, blk_frozen h 12, blk_frozen h 13, blk_frozen h 14, blk_frozen h 15, blk_frozen h 16, blk_frozen h 17⟩
theorem put18 {w : World} {g : Nat} {t : TypeId} {z0 z1 z2 z3 z4 z5 z6 z7 z8 z9 z10 z11 z12 z13 z14 z15 z16 z17 v0 v1 v2 v3 v4 v5 v6 v7 v8 v9 v10 v11 v12 v13 v14 v15 v16 v17 : Value} (h : w.heap[g]? = some (.cells #[z0, z1, z2, z3, z4, z5, z6, z7, z8, z9, z10, z11, z12, z13, z14, z15, z16, z17] t (0, 0))) : ((((((((((((((((((w.setCell ⟨g, 0, none⟩ v0).setCell ⟨g, 1, none⟩ v1).setCell ⟨g, 2, none⟩ v2).setCell ⟨g, 3, none⟩ v3).setCell ⟨g, 4, none⟩ v4).setCell ⟨g, 5, none⟩ v5).setCell ⟨g, 6, none⟩ v6).setCell ⟨g, 7, none⟩ v7).setCell ⟨g, 8, none⟩ v8).setCell ⟨g, 9, none⟩ v9).setCell ⟨g, 10, none⟩ v10).setCell ⟨g, 11, none⟩ v11).setCell ⟨g, 12, none⟩ v12).setCell ⟨g, 13, none⟩ v13).setCell ⟨g, 14, none⟩ v14).setCell ⟨g, 15, none⟩ v15).setCell ⟨g, 16, none⟩ v16).setCell ⟨g, 17, none⟩ v17).heap[g]? = some (.cells #[v0, v1, v2, v3, v4, v5, v6, v7, v8, v9, v10, v11, v12, v13, v14, v15, v16, v17] t (0, 0)) := (blk_put (cs' := #[v0, v1, v2, v3, v4, v5, v6, v7, v8, v9, v10, v11, v12, v13, v14, v15, v16, v17]) (blk_put (cs' := #[v0, v1, v2, v3, v4, v5, v6, v7, v8, v9, v10, v11, v12, v13, v14, v15, v16, z17]) (blk_put (cs' := #[v0, v1, v2, v3, v4, v5, v6, v7, v8, v9, v10, v11, v12, v13, v14, v15, z16, z17]) (blk_put (cs' := #[v0, v1, v2, v3, v4, v5, v6, v7, v8, v9, v10, v11, v12, v13, v14, z15, z16, z17]) (blk_put (cs' := #[v0, v1, v2, v3, v4, v5, v6, v7, v8, v9, v10, v11, v12, v13, z14, z15, z16, z17]) (blk_put (cs' := #[v0, v1, v2, v3, v4, v5, v6, v7, v8, v9, v10, v11, v12, z13, z14, z15, z16, z17]) (blk_put (cs' := #[v0, v1, v2, v3, v4, v5, v6, v7, v8, v9, v10, v11, z12, z13, z14, z15, z16, z17]) (blk_put (cs' := #[v0, v1, v2, v3, v4, v5, v6, v7, v8, v9, v10, z11, z12, z13, z14, z15, z16, z17]) (blk_put (cs' := #[v0, v1, v2, v3, v4, v5, v6, v7, v8, v9, z10, z11, z12, z13, z14, z15, z16, z17]) (blk_put (cs' := #[v0, v1, v2, v3, v4, v5, v6, v7, v8, z9, z10, z11, z12, z13, z14, z15, z16, z17]) (blk_put (cs' := #[v0, v1, v2, v3, v4, v5, v6, v7, z8, z9, z10, z11, z12, z13, z14, z15, z16, z17]) (blk_put (cs' := #[v0, v1, v2, v3, v4, v5, v6, z7, z8, z9, z10, z11, z12, z13, z14, z15, z16, z17]) (blk_put (cs' := #[v0, v1, v2, v3, v4, v5, z6, z7, z8, z9, z10, z11, z12, z13, z14, z15, z16, z17]) (blk_put (cs' := #[v0, v1, v2, v3, v4, z5, z6, z7, z8, z9, z10, z11, z12, z13, z14, z15, z16, z17]) (blk_put (cs' := #[v0, v1, v2, v3, z4, z5, z6, z7, z8, z9, z10, z11, z12, z13, z14, z15, z16, z17]) (blk_put (cs' := #[v0, v1, v2, z3, z4, z5, z6, z7, z8, z9, z10, z11, z12, z13, z14, z15, z16, z17]) (blk_put (cs' := #[v0, v1, z2, z3, z4, z5, z6, z7, z8, z9, z10, z11, z12, z13, z14, z15, z16, z17]) (blk_put (cs' := #[v0, z1, z2, z3, z4, z5, z6, z7, z8, z9, z10, z11, z12, z13, z14, z15, z16, z17]) h 0 v0 rfl) 1 v1 rfl) 2 v2 rfl) 3 v3 rfl) 4 v4 rfl) 5 v5 rfl) 6 v6 rfl) 7 v7 rfl) 8 v8 rfl) 9 v9 rfl) 10 v10 rfl) 11 v11 rfl) 12 v12 rfl) 13 v13 rfl) 14 v14 rfl) 15 v15 rfl) 16 v16 rfl) 17 v17 rfl)
theorem blk_far18 {w : World} {g g' : Nat} {t : TypeId} {cs : Array Value} {v0 v1 v2 v3 v4 v5 v6 v7 v8 v9 v10 v11 v12 v13 v14 v15 v16 v17 : Value} (h : w.heap[g']? = some (.cells cs t (0, 0))) (hn : g' ≠ g) : ((((((((((((((((((w.setCell ⟨g, 0, none⟩ v0).setCell ⟨g, 1, none⟩ v1).setCell ⟨g, 2, none⟩ v2).setCell ⟨g, 3, none⟩ v3).setCell ⟨g, 4, none⟩ v4).setCell ⟨g, 5, none⟩ v5).setCell ⟨g, 6, none⟩ v6).setCell ⟨g, 7, none⟩ v7).setCell ⟨g, 8, none⟩ v8).setCell ⟨g, 9, none⟩ v9).setCell ⟨g, 10, none⟩ v10).setCell ⟨g, 11, none⟩ v11).setCell ⟨g, 12, none⟩ v12).setCell ⟨g, 13, none⟩ v13).setCell ⟨g, 14, none⟩ v14).setCell ⟨g, 15, none⟩ v15).setCell ⟨g, 16, none⟩ v16).setCell ⟨g, 17, none⟩ v17).heap[g']? = some (.cells cs t (0, 0)) := (blk_far (p := ⟨g, 17, none⟩) (blk_far (p := ⟨g, 16, none⟩) (blk_far (p := ⟨g, 15, none⟩) (blk_far (p := ⟨g, 14, none⟩) (blk_far (p := ⟨g, 13, none⟩) (blk_far (p := ⟨g, 12, none⟩) (blk_far (p := ⟨g, 11, none⟩) (blk_far (p := ⟨g, 10, none⟩) (blk_far (p := ⟨g, 9, none⟩) (blk_far (p := ⟨g, 8, none⟩) (blk_far (p := ⟨g, 7, none⟩) (blk_far (p := ⟨g, 6, none⟩) (blk_far (p := ⟨g, 5, none⟩) (blk_far (p := ⟨g, 4, none⟩) (blk_far (p := ⟨g, 3, none⟩) (blk_far (p := ⟨g, 2, none⟩) (blk_far (p := ⟨g, 1, none⟩) (blk_far (p := ⟨g, 0, none⟩) h hn v0) hn v1) hn v2) hn v3) hn v4) hn v5) hn v6) hn v7) hn v8) hn v9) hn v10) hn v11) hn v12) hn v13) hn v14) hn v15) hn v16) hn v17)
theorem below_set18 {w0 w : World} {g : Nat} {v0 v1 v2 v3 v4 v5 v6 v7 v8 v9 v10 v11 v12 v13 v14 v15 v16 v17 : Value} (h : Below w0.heap.size w0 w) (hg : w0.heap.size ≤ g) : Below w0.heap.size w0 ((((((((((((((((((w.setCell ⟨g, 0, none⟩ v0).setCell ⟨g, 1, none⟩ v1).setCell ⟨g, 2, none⟩ v2).setCell ⟨g, 3, none⟩ v3).setCell ⟨g, 4, none⟩ v4).setCell ⟨g, 5, none⟩ v5).setCell ⟨g, 6, none⟩ v6).setCell ⟨g, 7, none⟩ v7).setCell ⟨g, 8, none⟩ v8).setCell ⟨g, 9, none⟩ v9).setCell ⟨g, 10, none⟩ v10).setCell ⟨g, 11, none⟩ v11).setCell ⟨g, 12, none⟩ v12).setCell ⟨g, 13, none⟩ v13).setCell ⟨g, 14, none⟩ v14).setCell ⟨g, 15, none⟩ v15).setCell ⟨g, 16, none⟩ v16).setCell ⟨g, 17, none⟩ v17) := (below_set (below_set (below_set (below_set (below_set (below_set (below_set (below_set (below_set (below_set (below_set (below_set (below_set (below_set (below_set (below_set (below_set (below_set h hg) hg) hg) hg) hg) hg) hg) hg) hg) hg) hg) hg) hg) hg) hg) hg) hg) hg)
theorem world18 {F : World → Prop} {w0 w : World} {g : Nat} {t : TypeId} {z0 z1 z2 z3 z4 z5 z6 z7 z8 z9 z10 z11 z12 z13 z14 z15 z16 z17 v0 v1 v2 v3 v4 v5 v6 v7 v8 v9 v10 v11 v12 v13 v14 v15 v16 v17 : Value} (B : w.heap[g]? = some (.cells #[z0, z1, z2, z3, z4, z5, z6, z7, z8, z9, z10, z11, z12, z13, z14, z15, z16, z17] t (0, 0))) (hB : Below w0.heap.size w0 w) (hg : w0.heap.size ≤ g) (h : ∀ W, W.heap[g]? = some (.cells #[v0, v1, v2, v3, v4, v5, v6, v7, v8, v9, v10, v11, v12, v13, v14, v15, v16, v17] t (0, 0)) → Below w0.heap.size w0 W → (∀ g' t' cs, w.heap[g']? = some (.cells cs t' (0, 0)) → g' ≠ g → W.heap[g']? = some (.cells cs t' (0, 0))) → F W) : F ((((((((((((((((((w.setCell ⟨g, 0, none⟩ v0).setCell ⟨g, 1, none⟩ v1).setCell ⟨g, 2, none⟩ v2).setCell ⟨g, 3, none⟩ v3).setCell ⟨g, 4, none⟩ v4).setCell ⟨g, 5, none⟩ v5).setCell ⟨g, 6, none⟩ v6).setCell ⟨g, 7, none⟩ v7).setCell ⟨g, 8, none⟩ v8).setCell ⟨g, 9, none⟩ v9).setCell ⟨g, 10, none⟩ v10).setCell ⟨g, 11, none⟩ v11).setCell ⟨g, 12, none⟩ v12).setCell ⟨g, 13, none⟩ v13).setCell ⟨g, 14, none⟩ v14).setCell ⟨g, 15, none⟩ v15).setCell ⟨g, 16, none⟩ v16).setCell ⟨g, 17, none⟩ v17) := h _ (put18 B) (below_set18 hB hg) (fun _ _ _ hb hn => blk_far18 hb hn)
def b23_0 : Array Bool := #[false, false, false, false, false, false, false, false, false, false, false, false, false, false, false, false, false, false, false, false, false, false, false]
def b23_1 : Array Bool := #[true, false, false, false, false, false, false, false, false, false, false, false, false, false, false, false, false, false, false, false, false, false, false]
def b23_3 : Array Bool := #[true, true, false, false, false, false, false, false, false, false, false, false, false, false, false, false, false, false, false, false, false, false, false]
def b23_b : Array Bool := #[true, true, false, true, false, false, false, false, false, false, false, false, false, false, false, false, false, false, false, false, false, false, false]
def b23_1b : Array Bool := #[true, true, false, true, true, false, false, false, false, false, false, false, false, false, false, false, false, false, false, false, false, false, false]
def b23_1f : Array Bool := #[true, true, true, true, true, false, false, false, false, false, false, false, false, false, false, false, false, false, false, false, false, false, false]
def b23_3f : Array Bool := #[true, true, true, true, true, true, false, false, false, false, false, false, false, false, false, false, false, false, false, false, false, false, false]
def b23_7f : Array Bool := #[true, true, true, true, true, true, true, false, false, false, false, false, false, false, false, false, false, false, false, false, false, false, false]
def b23_ff : Array Bool := #[true, true, true, true, true, true, true, true, false, false, false, false, false, false, false, false, false, false, false, false, false, false, false]
def b23_1ff : Array Bool := #[true, true, true, true, true, true, true, true, true, false, false, false, false, false, false, false, false, false, false, false, false, false, false]
def b23_3ff : Array Bool := #[true, true, true, true, true, true, true, true, true, true, false, false, false, false, false, false, false, false, false, false, false, false, false]
def b23_7ff : Array Bool := #[true, true, true, true, true, true, true, true, true, true, true, false, false, false, false, false, false, false, false, false, false, false, false]
def b23_fff : Array Bool := #[true, true, true, true, true, true, true, true, true, true, true, true, false, false, false, false, false, false, false, false, false, false, false]
def b23_1fff : Array Bool := #[true, true, true, true, true, true, true, true, true, true, true, true, true, false, false, false, false, false, false, false, false, false, false]
def b23_3fff : Array Bool := #[true, true, true, true, true, true, true, true, true, true, true, true, true, true, false, false, false, false, false, false, false, false, false]
def b23_7fff : Array Bool := #[true, true, true, true, true, true, true, true, true, true, true, true, true, true, true, false, false, false, false, false, false, false, false]
def b23_ffff : Array Bool := #[true, true, true, true, true, true, true, true, true, true, true, true, true, true, true, true, false, false, false, false, false, false, false]
def b23_1ffff : Array Bool := #[true, true, true, true, true, true, true, true, true, true, true, true, true, true, true, true, true, false, false, false, false, false, false]
def b23_3ffff : Array Bool := #[true, true, true, true, true, true, true, true, true, true, true, true, true, true, true, true, true, true, false, false, false, false, false]
def b23_7ffff : Array Bool := #[true, true, true, true, true, true, true, true, true, true, true, true, true, true, true, true, true, true, true, false, false, false, false]
def b23_fffff : Array Bool := #[true, true, true, true, true, true, true, true, true, true, true, true, true, true, true, true, true, true, true, true, false, false, false]
def b23_1fffff : Array Bool := #[true, true, true, true, true, true, true, true, true, true, true, true, true, true, true, true, true, true, true, true, true, false, false]
def b23_3fffff : Array Bool := #[true, true, true, true, true, true, true, true, true, true, true, true, true, true, true, true, true, true, true, true, true, true, false]
def b23_7fffff : Array Bool := #[true, true, true, true, true, true, true, true, true, true, true, true, true, true, true, true, true, true, true, true, true, true, true]
def b29_0 : Array Bool := #[false, false, false, false, false, false, false, false, false, false, false, false, false, false, false, false, false, false, false, false, false, false, false, false, false, false, false, false, false]
def b29_1 : Array Bool := #[true, false, false, false, false, false, false, false, false, false, false, false, false, false, false, false, false, false, false, false, false, false, false, false, false, false, false, false, false]
def b29_5 : Array Bool := #[true, false, true, false, false, false, false, false, false, false, false, false, false, false, false, false, false, false, false, false, false, false, false, false, false, false, false, false, false]
def b29_7 : Array Bool := #[true, true, true, false, false, false, false, false, false, false, false, false, false, false, false, false, false, false, false, false, false, false, false, false, false, false, false, false, false]
def b29_f : Array Bool := #[true, true, true, true, false, false, false, false, false, false, false, false, false, false, false, false, false, false, false, false, false, false, false, false, false, false, false, false, false]
def b29_1f : Array Bool := #[true, true, true, true, true, false, false, false, false, false, false, false, false, false, false, false, false, false, false, false, false, false, false, false, false, false, false, false, false]
def b29_3f : Array Bool := #[true, true, true, true, true, true, false, false, false, false, false, false, false, false, false, false, false, false, false, false, false, false, false, false, false, false, false, false, false]
def b29_45 : Array Bool := #[true, false, true, false, false, false, true, false, false, false, false, false, false, false, false, false, false, false, false, false, false, false, false, false, false, false, false, false, false]
def b29_7f : Array Bool := #[true, true, true, true, true, true, true, false, false, false, false, false, false, false, false, false, false, false, false, false, false, false, false, false, false, false, false, false, false]
def b29_ff : Array Bool := #[true, true, true, true, true, true, true, true, false, false, false, false, false, false, false, false, false, false, false, false, false, false, false, false, false, false, false, false, false]
def b29_145 : Array Bool := #[true, false, true, false, false, false, true, false, true, false, false, false, false, false, false, false, false, false, false, false, false, false, false, false, false, false, false, false, false]
def b29_147 : Array Bool := #[true, true, true, false, false, false, true, false, true, false, false, false, false, false, false, false, false, false, false, false, false, false, false, false, false, false, false, false, false]
def b29_14f : Array Bool := #[true, true, true, true, false, false, true, false, true, false, false, false, false, false, false, false, false, false, false, false, false, false, false, false, false, false, false, false, false]
def b29_15f : Array Bool := #[true, true, true, true, true, false, true, false, true, false, false, false, false, false, false, false, false, false, false, false, false, false, false, false, false, false, false, false, false]
def b29_17f : Array Bool := #[true, true, true, true, true, true, true, false, true, false, false, false, false, false, false, false, false, false, false, false, false, false, false, false, false, false, false, false, false]
def b29_1ff : Array Bool := #[true, true, true, true, true, true, true, true, true, false, false, false, false, false, false, false, false, false, false, false, false, false, false, false, false, false, false, false, false]
def b29_3ff : Array Bool := #[true, true, true, true, true, true, true, true, true, true, false, false, false, false, false, false, false, false, false, false, false, false, false, false, false, false, false, false, false]
def b29_7ff : Array Bool := #[true, true, true, true, true, true, true, true, true, true, true, false, false, false, false, false, false, false, false, false, false, false, false, false, false, false, false, false, false]
def b29_fff : Array Bool := #[true, true, true, true, true, true, true, true, true, true, true, true, false, false, false, false, false, false, false, false, false, false, false, false, false, false, false, false, false]
def b29_1fff : Array Bool := #[true, true, true, true, true, true, true, true, true, true, true, true, true, false, false, false, false, false, false, false, false, false, false, false, false, false, false, false, false]
def b29_3fff : Array Bool := #[true, true, true, true, true, true, true, true, true, true, true, true, true, true, false, false, false, false, false, false, false, false, false, false, false, false, false, false, false]
def b29_7fff : Array Bool := #[true, true, true, true, true, true, true, true, true, true, true, true, true, true, true, false, false, false, false, false, false, false, false, false, false, false, false, false, false]
def b29_bfff : Array Bool := #[true, true, true, true, true, true, true, true, true, true, true, true, true, true, false, true, false, false, false, false, false, false, false, false, false, false, false, false, false]
def b29_ffff : Array Bool := #[true, true, true, true, true, true, true, true, true, true, true, true, true, true, true, true, false, false, false, false, false, false, false, false, false, false, false, false, false]
def b29_17fff : Array Bool := #[true, true, true, true, true, true, true, true, true, true, true, true, true, true, true, false, true, false, false, false, false, false, false, false, false, false, false, false, false]
def b29_1ffff : Array Bool := #[true, true, true, true, true, true, true, true, true, true, true, true, true, true, true, true, true, false, false, false, false, false, false, false, false, false, false, false, false]
def b29_3ffff : Array Bool := #[true, true, true, true, true, true, true, true, true, true, true, true, true, true, true, true, true, true, false, false, false, false, false, false, false, false, false, false, false]
def b29_7ffff : Array Bool := #[true, true, true, true, true, true, true, true, true, true, true, true, true, true, true, true, true, true, true, false, false, false, false, false, false, false, false, false, false]
def b29_fffff : Array Bool := #[true, true, true, true, true, true, true, true, true, true, true, true, true, true, true, true, true, true, true, true, false, false, false, false, false, false, false, false, false]
def b29_117fff : Array Bool := #[true, true, true, true, true, true, true, true, true, true, true, true, true, true, true, false, true, false, false, false, true, false, false, false, false, false, false, false, false]
def b29_1fffff : Array Bool := #[true, true, true, true, true, true, true, true, true, true, true, true, true, true, true, true, true, true, true, true, true, false, false, false, false, false, false, false, false]
def b29_3fffff : Array Bool := #[true, true, true, true, true, true, true, true, true, true, true, true, true, true, true, true, true, true, true, true, true, true, false, false, false, false, false, false, false]
def b29_517fff : Array Bool := #[true, true, true, true, true, true, true, true, true, true, true, true, true, true, true, false, true, false, false, false, true, false, true, false, false, false, false, false, false]
def b29_51ffff : Array Bool := #[true, true, true, true, true, true, true, true, true, true, true, true, true, true, true, true, true, false, false, false, true, false, true, false, false, false, false, false, false]
def b29_53ffff : Array Bool := #[true, true, true, true, true, true, true, true, true, true, true, true, true, true, true, true, true, true, false, false, true, false, true, false, false, false, false, false, false]
def b29_57ffff : Array Bool := #[true, true, true, true, true, true, true, true, true, true, true, true, true, true, true, true, true, true, true, false, true, false, true, false, false, false, false, false, false]
def b29_5fffff : Array Bool := #[true, true, true, true, true, true, true, true, true, true, true, true, true, true, true, true, true, true, true, true, true, false, true, false, false, false, false, false, false]
def b29_7fffff : Array Bool := #[true, true, true, true, true, true, true, true, true, true, true, true, true, true, true, true, true, true, true, true, true, true, true, false, false, false, false, false, false]
def b29_9fffff : Array Bool := #[true, true, true, true, true, true, true, true, true, true, true, true, true, true, true, true, true, true, true, true, true, false, false, true, false, false, false, false, false]
def b29_bfffff : Array Bool := #[true, true, true, true, true, true, true, true, true, true, true, true, true, true, true, true, true, true, true, true, true, true, false, true, false, false, false, false, false]
def b29_ffffff : Array Bool := #[true, true, true, true, true, true, true, true, true, true, true, true, true, true, true, true, true, true, true, true, true, true, true, true, false, false, false, false, false]
def b29_1bfffff : Array Bool := #[true, true, true, true, true, true, true, true, true, true, true, true, true, true, true, true, true, true, true, true, true, true, false, true, true, false, false, false, false]
def b29_1ffffff : Array Bool := #[true, true, true, true, true, true, true, true, true, true, true, true, true, true, true, true, true, true, true, true, true, true, true, true, true, false, false, false, false]
def b29_3ffffff : Array Bool := #[true, true, true, true, true, true, true, true, true, true, true, true, true, true, true, true, true, true, true, true, true, true, true, true, true, true, false, false, false]
def b29_7ffffff : Array Bool := #[true, true, true, true, true, true, true, true, true, true, true, true, true, true, true, true, true, true, true, true, true, true, true, true, true, true, true, false, false]
def b29_fffffff : Array Bool := #[true, true, true, true, true, true, true, true, true, true, true, true, true, true, true, true, true, true, true, true, true, true, true, true, true, true, true, true, false]
def b29_1fffffff : Array Bool := #[true, true, true, true, true, true, true, true, true, true, true, true, true, true, true, true, true, true, true, true, true, true, true, true, true, true, true, true, true]
def b31_0 : Array Bool := #[false, false, false, false, false, false, false, false, false, false, false, false, false, false, false, false, false, false, false, false, false, false, false, false, false, false, false, false, false, false, false]
def b31_1 : Array Bool := #[true, false, false, false, false, false, false, false, false, false, false, false, false, false, false, false, false, false, false, false, false, false, false, false, false, false, false, false, false, false, false]
def b31_5 : Array Bool := #[true, false, true, false, false, false, false, false, false, false, false, false, false, false, false, false, false, false, false, false, false, false, false, false, false, false, false, false, false, false, false]
def b31_7 : Array Bool := #[true, true, true, false, false, false, false, false, false, false, false, false, false, false, false, false, false, false, false, false, false, false, false, false, false, false, false, false, false, false, false]
def b31_f : Array Bool := #[true, true, true, true, false, false, false, false, false, false, false, false, false, false, false, false, false, false, false, false, false, false, false, false, false, false, false, false, false, false, false]
def b31_1f : Array Bool := #[true, true, true, true, true, false, false, false, false, false, false, false, false, false, false, false, false, false, false, false, false, false, false, false, false, false, false, false, false, false, false]
def b31_3f : Array Bool := #[true, true, true, true, true, true, false, false, false, false, false, false, false, false, false, false, false, false, false, false, false, false, false, false, false, false, false, false, false, false, false]
def b31_7f : Array Bool := #[true, true, true, true, true, true, true, false, false, false, false, false, false, false, false, false, false, false, false, false, false, false, false, false, false, false, false, false, false, false, false]
def b31_ff : Array Bool := #[true, true, true, true, true, true, true, true, false, false, false, false, false, false, false, false, false, false, false, false, false, false, false, false, false, false, false, false, false, false, false]
def b31_17f : Array Bool := #[true, true, true, true, true, true, true, false, true, false, false, false, false, false, false, false, false, false, false, false, false, false, false, false, false, false, false, false, false, false, false]
def b31_1ff : Array Bool := #[true, true, true, true, true, true, true, true, true, false, false, false, false, false, false, false, false, false, false, false, false, false, false, false, false, false, false, false, false, false, false]
def b31_3ff : Array Bool := #[true, true, true, true, true, true, true, true, true, true, false, false, false, false, false, false, false, false, false, false, false, false, false, false, false, false, false, false, false, false, false]
def b31_7ff : Array Bool := #[true, true, true, true, true, true, true, true, true, true, true, false, false, false, false, false, false, false, false, false, false, false, false, false, false, false, false, false, false, false, false]
def b31_fff : Array Bool := #[true, true, true, true, true, true, true, true, true, true, true, true, false, false, false, false, false, false, false, false, false, false, false, false, false, false, false, false, false, false, false]
def b31_1fff : Array Bool := #[true, true, true, true, true, true, true, true, true, true, true, true, true, false, false, false, false, false, false, false, false, false, false, false, false, false, false, false, false, false, false]
def b31_3fff : Array Bool := #[true, true, true, true, true, true, true, true, true, true, true, true, true, true, false, false, false, false, false, false, false, false, false, false, false, false, false, false, false, false, false]
def b31_7fff : Array Bool := #[true, true, true, true, true, true, true, true, true, true, true, true, true, true, true, false, false, false, false, false, false, false, false, false, false, false, false, false, false, false, false]
def b31_ffff : Array Bool := #[true, true, true, true, true, true, true, true, true, true, true, true, true, true, true, true, false, false, false, false, false, false, false, false, false, false, false, false, false, false, false]
def b31_17fff : Array Bool := #[true, true, true, true, true, true, true, true, true, true, true, true, true, true, true, false, true, false, false, false, false, false, false, false, false, false, false, false, false, false, false]
def b31_1ffff : Array Bool := #[true, true, true, true, true, true, true, true, true, true, true, true, true, true, true, true, true, false, false, false, false, false, false, false, false, false, false, false, false, false, false]
def b31_3ffff : Array Bool := #[true, true, true, true, true, true, true, true, true, true, true, true, true, true, true, true, true, true, false, false, false, false, false, false, false, false, false, false, false, false, false]
def b31_7ffff : Array Bool := #[true, true, true, true, true, true, true, true, true, true, true, true, true, true, true, true, true, true, true, false, false, false, false, false, false, false, false, false, false, false, false]
def b31_fffff : Array Bool := #[true, true, true, true, true, true, true, true, true, true, true, true, true, true, true, true, true, true, true, true, false, false, false, false, false, false, false, false, false, false, false]
def b31_1fffff : Array Bool := #[true, true, true, true, true, true, true, true, true, true, true, true, true, true, true, true, true, true, true, true, true, false, false, false, false, false, false, false, false, false, false]
def b31_3fffff : Array Bool := #[true, true, true, true, true, true, true, true, true, true, true, true, true, true, true, true, true, true, true, true, true, true, false, false, false, false, false, false, false, false, false]
def b31_7fffff : Array Bool := #[true, true, true, true, true, true, true, true, true, true, true, true, true, true, true, true, true, true, true, true, true, true, true, false, false, false, false, false, false, false, false]
def b31_ffffff : Array Bool := #[true, true, true, true, true, true, true, true, true, true, true, true, true, true, true, true, true, true, true, true, true, true, true, true, false, false, false, false, false, false, false]
def b31_1ffffff : Array Bool := #[true, true, true, true, true, true, true, true, true, true, true, true, true, true, true, true, true, true, true, true, true, true, true, true, true, false, false, false, false, false, false]
def b31_27fffff : Array Bool := #[true, true, true, true, true, true, true, true, true, true, true, true, true, true, true, true, true, true, true, true, true, true, true, false, false, true, false, false, false, false, false]
def b31_2ffffff : Array Bool := #[true, true, true, true, true, true, true, true, true, true, true, true, true, true, true, true, true, true, true, true, true, true, true, true, false, true, false, false, false, false, false]
def b31_3ffffff : Array Bool := #[true, true, true, true, true, true, true, true, true, true, true, true, true, true, true, true, true, true, true, true, true, true, true, true, true, true, false, false, false, false, false]
def b31_6ffffff : Array Bool := #[true, true, true, true, true, true, true, true, true, true, true, true, true, true, true, true, true, true, true, true, true, true, true, true, false, true, true, false, false, false, false]
def b31_7ffffff : Array Bool := #[true, true, true, true, true, true, true, true, true, true, true, true, true, true, true, true, true, true, true, true, true, true, true, true, true, true, true, false, false, false, false]
def b31_fffffff : Array Bool := #[true, true, true, true, true, true, true, true, true, true, true, true, true, true, true, true, true, true, true, true, true, true, true, true, true, true, true, true, false, false, false]
def b31_1fffffff : Array Bool := #[true, true, true, true, true, true, true, true, true, true, true, true, true, true, true, true, true, true, true, true, true, true, true, true, true, true, true, true, true, false, false]
def b31_3fffffff : Array Bool := #[true, true, true, true, true, true, true, true, true, true, true, true, true, true, true, true, true, true, true, true, true, true, true, true, true, true, true, true, true, true, false]
def b31_7fffffff : Array Bool := #[true, true, true, true, true, true, true, true, true, true, true, true, true, true, true, true, true, true, true, true, true, true, true, true, true, true, true, true, true, true, true]
end Go.Proofs.Ytmdkbhbconnmmaa.XSfc
