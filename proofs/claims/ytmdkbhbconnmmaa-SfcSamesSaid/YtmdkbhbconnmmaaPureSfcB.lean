/- Charts: the copies are the charts; the program's comparison tells what the document's tells; a chart is as it is. -/
import Derived.Test.YtmdkbhbconnmmaaPureSfcA
import Derived.Test.YtmdkbhbconnmmaaXSfcL
namespace Go.Proofs.Ytmdkbhbconnmmaa.XSfc
open Go.RowKit Go.Proofs.YtmdkbhbconnmmaaW.PrintWords Go.Proofs.YtmdkbhbconnmmaaW.PrintLast Go.Proofs.YtmdkbhbconnmmaaW.PrintMore
set_option linter.unusedVariables false
/-! ### What fits in memory -/
def Q58 (x : S58) : Prop := x.f3.length * 48 ≤ 140737488355328
def Q67 (x : S67) : Prop := x.f2.length * 16 ≤ 140737488355328 ∧ x.f3.length * 16 ≤ 140737488355328 ∧ Ok65 x.f4.f5 ∧ x.f4.f6.length * 16 ≤ 140737488355328
def Q70 (x : S70) : Prop := Ok46 x.f2
structure OkC (l0 : List S58) (l1 : List S67) (l2 : List S70) : Prop where
  h0 : l0.length * 56 ≤ 140737488355328
  h1 : l1.length * 240 ≤ 140737488355328
  h2 : l2.length * 48 ≤ 140737488355328
  q0 : ∀ x ∈ l0, Q58 x
  q1 : ∀ x ∈ l1, Q67 x
  q2 : ∀ x ∈ l2, Q70 x
/-! ### Names -/
theorem names_l0 (k : Nat) : ∀ a b i, relayref08_sameNames.l0 k a b i = slices_Equal_string_string.l0 k a b (a.length : Int) i := by
  induction k with
  | zero => intro a b i; rfl
  | succ k ih =>
    intro a b i
    simp only [relayref08_sameNames.l0, slices_Equal_string_string.l0, ih]
    by_cases h : i < (a.length : Int)
    · simp only [if_pos h]
    · simp only [if_neg h]
theorem names_f (k : Nat) (a b : List ByteArray) : relayref08_sameNames.f k a b = slices_Equal_string_string.f k a b := by
  simp only [relayref08_sameNames.f, slices_Equal_string_string.f, names_l0]
/-! ### Links -/
def linkV (x y : S61) : Bool := x.f1.toList == y.f1.toList && (x.f2 == y.f2 && (x.f3.toList == y.f3.toList))
theorem eqGo_V {α : Type} {F : Nat → α → α → Option Bool} {v : α → α → Bool} (h : ∀ x y, Ends (fun n => F n x y) (v x y)) : ∀ (a b : List α), Ends (fun n => eqGo (F n) a b) (allV v a b)
  | x :: xs, y :: ys => by
    simp only [eqGo]
    exact (h x y).bind (eqGo_V h xs ys)
  | [], _ => ⟨0, fun n _ => by simp only [eqGo, allV]⟩
  | _ :: _, [] => ⟨0, fun n _ => by simp only [eqGo, allV]⟩
theorem links_ends (a b : List S61) : Ends (fun n => api_Link.f n a b) (decide (a.length = b.length) && allV linkV a b) := by
  unfold api_Link.f
  exact (eqGo_V (F := fun n => linkEq.f n) (v := linkV) (fun x y => Ends.tt _) a b).ite _
theorem v42_self (x : S61) : (!(!(x.f0 == x.f0) || (!(x.f1.toList == x.f1.toList) || (!(x.f2 == x.f2) || !(x.f3.toList == x.f3.toList))))) = true := by simp
theorem link42_self (a : List S61) (hs : a.length * 48 ≤ 140737488355328) : Ends (fun n => api_Link_42.f n a a) true := by
  have := idx_loop z61 (L := fun j i => api_Link_42.l0 j a a (a.length : Int) (i : Int)) (a := a) (b := a) (v := fun x y => !(!(x.f0 == y.f0) || (!(x.f1.toList == y.f1.toList) || (!(x.f2 == y.f2) || !(x.f3.toList == y.f3.toList))))) rfl (fun j i hi => by
    show api_Link_42.l0 (j + 1) a a (a.length : Int) (i : Int) = _
    rw [api_Link_42.l0, if_pos (by omega), if_pos (by omega), if_pos (by omega), if_pos (by omega), next_ (n := a.length) (by omega) hi]
    rw [if_neg (by simp), if_pos (by simp)]) (fun j => by
    show api_Link_42.l0 (j + 1) a a (a.length : Int) (a.length : Int) = _
    rw [api_Link_42.l0, if_neg (by omega)])
  rw [allV_self v42_self] at this
  obtain ⟨K, hK⟩ := this
  exact ⟨K, fun n hn => by show api_Link_42.f n a a = _; rw [api_Link_42.f, if_pos rfl]; exact hK n hn⟩
/-! ### Steps -/
theorem ref_links (x y : S58) (hs : x.f3.length * 48 ≤ 140737488355328) (hl : x.f3.length = y.f3.length) : Ends (fun n => relayref08_sameStep.l0 n 0 x.f0 x.f1 x.f2 x.f3 y.f0 y.f1 y.f2 y.f3) (allV linkV x.f3 y.f3) := by
  refine idx_loop z61 (L := fun j i => relayref08_sameStep.l0 j (i : Int) x.f0 x.f1 x.f2 x.f3 y.f0 y.f1 y.f2 y.f3) hl (fun j i hi => ?_) (fun j => ?_)
  · show relayref08_sameStep.l0 (j + 1) (i : Int) _ _ _ _ _ _ _ _ = _
    rw [relayref08_sameStep.l0, if_pos (by omega), if_pos (by omega), if_pos (by omega), next_ (n := x.f3.length) (by omega) hi]
    show (if (!((x.f3.getD i z61).f1.toList == (y.f3.getD i z61).f1.toList) || (!((x.f3.getD i z61).f2 == (y.f3.getD i z61).f2) || (!((x.f3.getD i z61).f3.toList == (y.f3.getD i z61).f3.toList)))) = true then some false else _) = _
    unfold linkV
    cases ((x.f3.getD i z61).f1.toList == (y.f3.getD i z61).f1.toList) <;> cases ((x.f3.getD i z61).f2 == (y.f3.getD i z61).f2) <;> cases ((x.f3.getD i z61).f3.toList == (y.f3.getD i z61).f3.toList) <;> rfl
  · show relayref08_sameStep.l0 (j + 1) (x.f3.length : Int) _ _ _ _ _ _ _ _ = _
    rw [relayref08_sameStep.l0, if_neg (by omega)]
def stV (x y : S58) : Bool := decide (x.f1.toList = y.f1.toList) && (decide (x.f2 = y.f2) && ((decide (x.f3.length = y.f3.length) && allV linkV x.f3 y.f3) && true))
theorem step_ends (x y : S58) : Ends (fun n => sfc_sameStep.f n x y) (stV x y) := (((links_ends x.f3 y.f3).bind (Ends.tt true)).ite (x.f2 = y.f2)).ite (x.f1.toList = y.f1.toList)
theorem refj_true (n : Nat) (x y : S58) : relayref08_sameStep.j0 (n + 1) true x.f0 x.f1 x.f2 x.f3 y.f0 y.f1 y.f2 y.f3 = some false := by
  rw [relayref08_sameStep.j0, if_pos rfl]
theorem rstep_ends (x y : S58) (hs : Q58 x) : Ends (fun n => relayref08_Same.el58 n x y) (stV x y) := by
  refine Ends.succ ?_
  unfold relayref08_Same.el58 relayref08_sameStep.f stV
  by_cases c1 : x.f1.toList = y.f1.toList
  case neg => exact ⟨0, fun n _ => by show (if _ then _ else _) = _; rw [if_neg c1, refj_true, decide_eq_false c1, Bool.false_and]⟩
  by_cases c2 : x.f2 = y.f2
  case neg => exact ⟨0, fun n _ => by show (if _ then _ else _) = _; rw [if_pos c1, if_pos (bne_iff_ne.mpr c2), refj_true, decide_eq_false c2, Bool.false_and, Bool.and_false]⟩
  by_cases c3 : x.f3.length = y.f3.length
  case neg =>
    refine ⟨0, fun n _ => ?_⟩
    show (if _ then _ else _) = _
    rw [if_pos c1, if_neg (by rw [c2]; simp), show ((x.f3.length : Int) != (y.f3.length : Int)) = true from bne_iff_ne.mpr (by omega), refj_true, decide_eq_false c3]
    simp
  obtain ⟨K, hK⟩ := ref_links x y hs c3
  refine ⟨K, fun n hn => ?_⟩
  show (if _ then _ else _) = _
  have e := hK n hn
  simp only at e
  rw [if_pos c1, if_neg (by rw [c2]; simp), show ((x.f3.length : Int) != (y.f3.length : Int)) = false from bne_eq_false_iff_eq.mpr (by omega), relayref08_sameStep.j0, if_neg Bool.false_ne_true, e, decide_eq_true c1, decide_eq_true c2, decide_eq_true c3]
  simp
theorem stV_self (x : S58) : stV x x = true := by
  have : allV linkV x.f3 x.f3 = true := allV_self (fun z => by simp [linkV]) _
  simp [stV, this]
theorem step_P2 {x : S58} (hs : Q58 x) (y : S58) : P2 (fun n => sfc_sameStep.f n x y) (fun n => relayref08_Same.el58 n x y) (x = y) := ⟨stV x y, step_ends x y, rstep_ends x y hs, fun e => by subst e; exact stV_self x⟩
/-! ### Transitions, actions -/
theorem trans_P2 {x : S67} (hx : Q67 x) (y : S67) : P2 (fun n => sfc_sameTrans.f n x y) (fun n => relayref08_Same.el67 n x y) (x = y) := by
  obtain ⟨h2, h3, h5, h6⟩ := hx
  obtain ⟨r, f, g, s⟩ := one_P2 h6 h5 y.f4
  refine ⟨_, ((tx_ends x.f2 y.f2 h2).bind ((tx_ends x.f3 y.f3 h3).bind (f.bind (Ends.tt true)))).ite (x.f1.toList = y.f1.toList), ?_, fun e => ?_⟩
  · unfold relayref08_Same.el67
    simp only [names_f]
    exact ((tx_ends x.f2 y.f2 h2).bind ((tx_ends x.f3 y.f3 h3).bind (g.bind (Ends.tt true)))).ite (x.f1.toList = y.f1.toList)
  · subst e
    rw [s rfl, tx_self, tx_self]
    simp
theorem action_P2 {x : S70} (hx : Q70 x) (y : S70) : P2 (fun n => sfc_sameAction.f n x y) (fun n => relayref08_Same.el70 n x y) (x = y) := by
  obtain ⟨r, f, g, s⟩ := same_P2 hx y.f2
  refine ⟨_, (f.bind (Ends.tt true)).ite (x.f1.toList = y.f1.toList), (g.bind (Ends.tt true)).ite (x.f1.toList = y.f1.toList), fun e => ?_⟩
  subst e
  rw [s rfl]
  simp
/-! ### Charts -/
theorem chart_P2 {l0 : List S58} {l1 : List S67} {l2 : List S70} (h : OkC l0 l1 l2) (m0 : List S58) (m1 : List S67) (m2 : List S70) : P2 (fun n => sfc_Same.f n l0 l1 l2 m0 m1 m2) (fun n => relayref08_Same.f n l0 l1 l2 m0 m1 m2) (l0 = m0 ∧ l1 = m1 ∧ l2 = m2) := by
  obtain ⟨r0, f0, g0, s0⟩ := P2.eqGo (F := fun n => sfc_sameStep.f n) (G := fun n => relayref08_Same.el58 n) (a := l0) (fun x hx y => step_P2 (h.q0 x hx) y) m0
  obtain ⟨r1, f1, g1, s1⟩ := P2.eqGo (F := fun n => sfc_sameTrans.f n) (G := fun n => relayref08_Same.el67 n) (a := l1) (fun x hx y => trans_P2 (h.q1 x hx) y) m1
  obtain ⟨r2, f2, g2, s2⟩ := P2.eqGo (F := fun n => sfc_sameAction.f n) (G := fun n => relayref08_Same.el70 n) (a := l2) (fun x hx y => action_P2 (h.q2 x hx) y) m2
  have e1 := (f0.ite (l0.length = m0.length)).bind ((f1.ite (l1.length = m1.length)).bind ((f2.ite (l2.length = m2.length)).bind (Ends.tt true)))
  have e2 := (((g0.bind (g1.bind (g2.bind (Ends.tt true)))).ite (l2.length = m2.length)).ite (l1.length = m1.length)).ite (l0.length = m0.length)
  have hv : (decide (l0.length = m0.length) && (decide (l1.length = m1.length) && (decide (l2.length = m2.length) && (r0 && (r1 && (r2 && true)))))) = (decide (l0.length = m0.length) && r0 && (decide (l1.length = m1.length) && r1 && (decide (l2.length = m2.length) && r2 && true))) := by
    cases decide (l0.length = m0.length) <;> cases decide (l1.length = m1.length) <;> cases decide (l2.length = m2.length) <;> cases r0 <;> cases r1 <;> cases r2 <;> rfl
  rw [hv] at e2
  refine ⟨_, e1, e2, fun ⟨a, b, c⟩ => ?_⟩
  subst a
  subst b
  subst c
  rw [s0 rfl, s1 rfl, s2 rfl]
  simp
theorem el58_self (x : S58) (hx : Q58 x) : Ends (fun n => relayplain_SameChart.el58 n x x) true := by
  obtain ⟨K, hK⟩ := (link42_self x.f3 hx).bind (Ends.tt true)
  refine ⟨K, fun n hn => ?_⟩
  show relayplain_SameChart.el58 n x x = _
  unfold relayplain_SameChart.el58
  simp only [if_true]
  exact hK n hn
theorem se_self (x : S65) (h5 : Ok65 x.f5) (h6 : x.f6.length * 16 ≤ 140737488355328) : Ends (fun n => relayplain_SameExpr.f n x x) true := by
  have e := tx_ends x.f6 x.f6 h6
  rw [tx_self] at e
  obtain ⟨K, hK⟩ := e.bind ((plain_self h5).bind (Ends.tt true))
  refine ⟨K, fun n hn => ?_⟩
  show relayplain_SameExpr.f n x x = _
  unfold relayplain_SameExpr.f relayplain_SameExpr.el
  simp only [if_true, beq_self_eq_true, Bool.and_self]
  exact hK n hn
theorem el67_self (x : S67) (hx : Q67 x) : Ends (fun n => relayplain_SameChart.el67 n x x) true := by
  obtain ⟨h2, h3, h5, h6⟩ := hx
  have e2 := tx_ends x.f2 x.f2 h2
  have e3 := tx_ends x.f3 x.f3 h3
  rw [tx_self] at e2 e3
  obtain ⟨K, hK⟩ := e2.bind (e3.bind ((se_self x.f4 h5 h6).bind (Ends.tt true)))
  refine ⟨K, fun n hn => ?_⟩
  show relayplain_SameChart.el67 n x x = _
  unfold relayplain_SameChart.el67
  simp only [if_true]
  exact hK n hn
theorem el70_self (x : S70) (hx : Q70 x) : Ends (fun n => relayplain_SameChart.el70 n x x) true := by
  obtain ⟨K, hK⟩ := (plainS_self hx).bind (Ends.tt true)
  refine ⟨K, fun n hn => ?_⟩
  show relayplain_SameChart.el70 n x x = _
  unfold relayplain_SameChart.el70
  simp only [if_true]
  exact hK n hn
theorem chart_self {l0 : List S58} {l1 : List S67} {l2 : List S70} (h : OkC l0 l1 l2) : Ends (fun n => relayplain_SameChart.f n l0 l1 l2 l0 l1 l2) true := by
  obtain ⟨K, hK⟩ := (eqGo_self (F := fun n => relayplain_SameChart.el58 n) (fun x hx => el58_self x (h.q0 x hx))).bind ((eqGo_self (F := fun n => relayplain_SameChart.el67 n) (fun x hx => el67_self x (h.q1 x hx))).bind ((eqGo_self (F := fun n => relayplain_SameChart.el70 n) (fun x hx => el70_self x (h.q2 x hx))).bind (Ends.tt true)))
  refine ⟨K, fun n hn => ?_⟩
  show relayplain_SameChart.f n l0 l1 l2 l0 l1 l2 = _
  unfold relayplain_SameChart.f
  simp only [if_true]
  exact hK n hn
/-! ### Copies -/
theorem chart_same {l0 : List S58} {l1 : List S67} {l2 : List S70} (h : OkC l0 l1 l2) : Ends (fun n => relayplain_Chart.f n l0 l1 l2) (l0, l1, l2) := by
  obtain ⟨K0, e0⟩ := mapGo_same (F := fun _ => relayplain_Chart.F58) (a := l0) (fun x hx => ⟨0, fun n _ => by
    show relayplain_Chart.F58 x = _
    rw [relayplain_Chart.F58, api_Link_31.f, if_pos (show x.f3.length * 48 ≤ 140737488355328 from h.q0 x hx)]
    rfl⟩)
  obtain ⟨K1, e1⟩ := mapGo_same (F := fun n => relayplain_Chart.F67 n) (a := l1) (fun x hx => by
    obtain ⟨h2, h3, h5, h6⟩ := h.q1 x hx
    obtain ⟨K, hK⟩ := exprs_same h5
    refine ⟨K, fun n hn => ?_⟩
    have hr : relayplain_Exprs.rec n x.f4.f5 = some x.f4.f5 := hK n hn
    show relayplain_Chart.F67 n x = _
    rw [relayplain_Chart.F67, slices_Clone_string_string.f, if_pos h2, slices_Clone_string_string.f, if_pos h3, relayplain_Expr.f, relayplain_Expr.fOf, hr, slices_Clone_string_string.f, if_pos h6]
    show some (⟨x.f0, x.f1, x.f2, x.f3, ⟨x.f4.f0, x.f4.f1, x.f4.f2, x.f4.f3, ⟨x.f4.f4.f0, x.f4.f4.f1, x.f4.f4.f2⟩, x.f4.f5, x.f4.f6, x.f4.f7, x.f4.f8, x.f4.f9, x.f4.f10, x.f4.f11⟩⟩ : S67) = some x
    rw [eta65])
  obtain ⟨K2, e2⟩ := mapGo_same (F := fun n => relayplain_Chart.F70 n) (a := l2) (fun x hx => by
    obtain ⟨K, hK⟩ := stmts_same (h.q2 x hx)
    refine ⟨K, fun n hn => ?_⟩
    have hr : relayplain_Stmts.f n x.f2 = some x.f2 := hK n hn
    show relayplain_Chart.F70 n x = _
    rw [relayplain_Chart.F70, hr]
    rfl)
  refine ⟨K0 + K1 + K2, fun n hn => ?_⟩
  have f0 : mapGo relayplain_Chart.F58 l0 = some l0 := e0 n (by omega)
  have f1 : mapGo (relayplain_Chart.F67 n) l1 = some l1 := e1 n (by omega)
  have f2 : mapGo (relayplain_Chart.F70 n) l2 = some l2 := e2 n (by omega)
  show relayplain_Chart.f n l0 l1 l2 = _
  rw [relayplain_Chart.f, if_pos ⟨h.h0, h.h1, h.h2⟩, f0, Option.bind_some, f1, Option.bind_some, f2, Option.bind_some]
/-- THE LAW. -/
theorem law_ {l0 m0 : List S58} {l1 m1 : List S67} {l2 m2 : List S70} (h : OkC l0 l1 l2) (h' : OkC m0 m1 m2) : ∃ (k : Nat) (u : Bool), relayplain_Chart.f k l0 l1 l2 = some (l0, l1, l2) ∧ relayplain_Chart.f k m0 m1 m2 = some (m0, m1, m2) ∧ sfc_Same.f k l0 l1 l2 m0 m1 m2 = some u ∧ relayref08_Same.f k l0 l1 l2 m0 m1 m2 = some u ∧ sfc_Same.f k l0 l1 l2 l0 l1 l2 = some true ∧ relayplain_SameChart.f k l0 l1 l2 l0 l1 l2 = some true ∧ relayplain_SameChart.f k m0 m1 m2 m0 m1 m2 = some true := by
  obtain ⟨K1, e1⟩ := chart_same h
  obtain ⟨K2, e2⟩ := chart_same h'
  obtain ⟨u, ⟨K3, e3⟩, ⟨K4, e4⟩, -⟩ := chart_P2 h m0 m1 m2
  obtain ⟨r, ⟨K5, e5⟩, -, s⟩ := chart_P2 h l0 l1 l2
  obtain ⟨K6, e6⟩ := chart_self h
  obtain ⟨K7, e7⟩ := chart_self h'
  rw [s ⟨rfl, rfl, rfl⟩] at e5
  exact ⟨K1 + K2 + K3 + K4 + K5 + K6 + K7, u, e1 _ (by omega), e2 _ (by omega), e3 _ (by omega), e4 _ (by omega), e5 _ (by omega), e6 _ (by omega), e7 _ (by omega)⟩
end Go.Proofs.Ytmdkbhbconnmmaa.XSfc
