/- The copies of instructions are the instructions; a list is as it is; the law. -/
import Derived.Test.YtmdkbhbconnmmaaPureIlE
import Derived.Test.YtmdkbhbconnmmaaXIlx3
import Derived.Test.YtmdkbhbconnmmaaXIlx16
namespace Go.Proofs.Ytmdkbhbconnmmaa.XIl
open Go.RowKit Go.Proofs.YtmdkbhbconnmmaaW.PrintWords Go.Proofs.YtmdkbhbconnmmaaW.PrintLast Go.Proofs.YtmdkbhbconnmmaaW.PrintMore
set_option linter.unusedVariables false
theorem rd81_ {l : List S81} {i : Nat} (h : i < l.length) : rd_T81 l (i : Int) = l[i] := by
  simp [rd_T81, h]
theorem copied_loop (l : List S81) (hl : l.length ≤ 1048576) (hq : ∀ x ∈ l, Q81 x) : ∀ m i, i + m = l.length → ∃ K : Nat, ∀ n, K ≤ n → relaylaw06_copied.l0 n (l.take i) l (l.length : Int) (i : Int) = some l := by
  intro m
  induction m with
  | zero =>
    intro i hi
    refine ⟨1, fun n hn => ?_⟩
    obtain ⟨n, rfl⟩ : ∃ q, n = q + 1 := ⟨n - 1, by omega⟩
    rw [relaylaw06_copied.l0, if_neg (by omega), List.take_of_length_le (by omega)]
  | succ m ihm =>
    intro i hi
    have hi' : i < l.length := by omega
    obtain ⟨h7, _, h8, h9, _, h10⟩ := hq l[i] (List.getElem_mem hi')
    obtain ⟨K1, h1⟩ := ihm (i + 1) (by omega)
    obtain ⟨K2, h2⟩ := exprs_same h7
    obtain ⟨K3, h3⟩ := exprs_same h9
    refine ⟨K1 + K2 + K3 + 1, fun n hn => ?_⟩
    obtain ⟨n, rfl⟩ : ∃ q, n = q + 1 := ⟨n - 1, by omega⟩
    rw [relaylaw06_copied.l0, if_pos (by omega), if_pos (by omega), if_pos (by omega), rd81_ hi']
    simp only [h2 n (by omega), h3 n (by omega), slices_Clone_string_string.f, if_pos h8, if_pos h10, Option.bind_some]
    rw [if_pos (by rw [List.length_take]; omega), next_ (n := l.length) (by omega) hi', ← h1 n (by omega)]
    congr 1
    rw [List.take_succ_eq_append_getElem hi']
theorem copied_same {l : List S81} (hl : l.length ≤ 1048576) (hq : ∀ x ∈ l, Q81 x) : Ends (fun n => relaylaw06_copied.f n l) l := by
  obtain ⟨K, hK⟩ := copied_loop l hl hq l.length 0 (by omega)
  exact ⟨K, fun n hn => hK n hn⟩
theorem allB_one : ∀ {m i : Nat}, allB (fun _ => true) m i = true := by
  intro m i
  exact allB_true.2 (fun _ _ _ => rfl)
theorem plain_self {l : List S65} (h : Ok65 l) : ∃ K : Nat, ∀ n, K ≤ n → relayplain_SameExprs.rec n l l = some true := by
  induction h with
  | @mk a hs he ht ih =>
    obtain ⟨K, hK⟩ := all_K (P := fun i n => relayplain_SameExprs.rec n (a.getD i z65).f5 (a.getD i z65).f5 = some true) a.length (fun i hi => ih _ (getD65 hi))
    obtain ⟨K', hK'⟩ := all_K (P := fun i n => slices_Equal_string_string.f n (a.getD i z65).f6 (a.getD i z65).f6 = some true) a.length (fun i hi => by
      obtain ⟨K, h⟩ := tx_ends (a.getD i z65).f6 (a.getD i z65).f6 (ht _ (getD65 hi))
      exact ⟨K, fun n hn => by have := h n hn; rwa [tx_self] at this⟩)
    refine ⟨K + K' + a.length + 4, fun n hn => ?_⟩
    obtain ⟨n, rfl⟩ : ∃ q, n = q + 1 := ⟨n - 1, by omega⟩
    rw [relayplain_SameExprs.rec, relayplain_SameExprs.fOf, if_pos rfl]
    have e := loop_all (L := fun j i => relayplain_SameExprs.l0Of (relayplain_SameExpr.fOf (relayplain_SameExprs.rec n) (n + 1)) j a a (a.length : Int) (i : Int)) (len := a.length) (v := fun _ => true) (fun j i hi => by
      show relayplain_SameExprs.l0Of _ (j + 1) a a (a.length : Int) (i : Int) = _
      have e : relayplain_SameExpr.fOf (relayplain_SameExprs.rec n) (n + 1) (a.getD i z65).f0 (a.getD i z65).f1 (a.getD i z65).f2 (a.getD i z65).f3 (a.getD i z65).f4.f0 (a.getD i z65).f4.f1 (a.getD i z65).f4.f2 (a.getD i z65).f5 (a.getD i z65).f6 (a.getD i z65).f7 (a.getD i z65).f8 (a.getD i z65).f9 (a.getD i z65).f10 (a.getD i z65).f11 (a.getD i z65).f0 (a.getD i z65).f1 (a.getD i z65).f2 (a.getD i z65).f3 (a.getD i z65).f4.f0 (a.getD i z65).f4.f1 (a.getD i z65).f4.f2 (a.getD i z65).f5 (a.getD i z65).f6 (a.getD i z65).f7 (a.getD i z65).f8 (a.getD i z65).f9 (a.getD i z65).f10 (a.getD i z65).f11 = some true := by
        generalize hx : a.getD i z65 = x
        have f1 := hK i hi n (by omega)
        have f2 := hK' i hi n (by omega)
        rw [hx] at f1 f2
        rw [relayplain_SameExpr.fOf, if_pos rfl, if_pos rfl, if_pos rfl, if_pos rfl, if_neg (by simp), bne_self_eq_false, relayplain_SameExpr.j0Of, if_neg Bool.false_ne_true, if_pos rfl, if_pos rfl, if_pos rfl, if_pos rfl]
        simp only [f1, f2, Option.bind_some]
        rfl
      rw [relayplain_SameExprs.l0Of, if_pos (by omega), if_pos (by omega), if_pos (by omega), if_pos (by omega), next_ (by omega : a.length < 2 ^ 62) hi]
      exact (congrArg (fun o => Option.bind o _) e).trans rfl) (fun j => by
      show relayplain_SameExprs.l0Of _ (j + 1) a a (a.length : Int) (a.length : Int) = _
      rw [relayplain_SameExprs.l0Of, if_neg (by omega)]) a.length 0 (by omega) (n + 1) (by omega)
    rw [allB_one] at e
    exact e
theorem same_loop81 (l : List S81) (hl : l.length ≤ 1048576) (K : Nat) (h7 : ∀ i, i < l.length → ∀ n, K ≤ n → relayplain_SameExprs.f n (l.getD i z81).f7 (l.getD i z81).f7 = some true) (h8 : ∀ i, i < l.length → ∀ n, K ≤ n → slices_Equal_string_string.f n (l.getD i z81).f8 (l.getD i z81).f8 = some true)
    (h9 : ∀ i, i < l.length → ∀ n, K ≤ n → relayplain_SameExprs.f n (l.getD i z81).f9 (l.getD i z81).f9 = some true) (h10 : ∀ i, i < l.length → ∀ n, K ≤ n → slices_Equal_string_string.f n (l.getD i z81).f10 (l.getD i z81).f10 = some true) :
    ∀ m i, i + m = l.length → ∀ n, K + 2 * m + 1 ≤ n → relaylaw06_same.l0 n l l (l.length : Int) (i : Int) = some true := by
  intro m
  induction m with
  | zero =>
    intro i hi n hn
    obtain ⟨n, rfl⟩ : ∃ q, n = q + 1 := ⟨n - 1, by omega⟩
    rw [relaylaw06_same.l0, if_neg (by omega)]
  | succ m ih =>
    intro i hi n hn
    obtain ⟨n, rfl⟩ : ∃ q, n = q + 2 := ⟨n - 2, by omega⟩
    have f7 := h7 i (by omega) n (by omega)
    have f8 := h8 i (by omega) n (by omega)
    have f9 := h9 i (by omega) n (by omega)
    have f10 := h10 i (by omega) n (by omega)
    have fr := ih (i + 1) (by omega) n (by omega)
    rw [relaylaw06_same.l0, if_pos (by omega), if_pos (by omega), if_pos (by omega), if_pos (by omega)]
    have hr : rd_T81 l (i : Int) = l.getD i z81 := rfl
    rw [hr]
    generalize l.getD i z81 = x at *
    rw [if_pos rfl, if_pos rfl, if_pos rfl, if_pos (beq_self_eq_true _), if_pos (beq_self_eq_true _), if_pos (beq_self_eq_true _), beq_self_eq_true, relaylaw06_same.j1, if_pos rfl, next_ (by omega : l.length < 2 ^ 62) (by omega)]
    simp only [f7, f8, f9, f10, fr, Option.bind_some, if_true]
theorem same_self {l : List S81} (hl : l.length ≤ 1048576) (hq : ∀ x ∈ l, Q81 x) : Ends (fun n => relaylaw06_same.f n l l) true := by
  obtain ⟨K7, h7⟩ := all_K (P := fun i n => relayplain_SameExprs.f n (l.getD i z81).f7 (l.getD i z81).f7 = some true) l.length (fun i hi => plain_self (hq _ (getD81 hi)).1)
  obtain ⟨K9, h9⟩ := all_K (P := fun i n => relayplain_SameExprs.f n (l.getD i z81).f9 (l.getD i z81).f9 = some true) l.length (fun i hi => plain_self (hq _ (getD81 hi)).2.2.2.1)
  obtain ⟨K8, h8⟩ := all_K (P := fun i n => slices_Equal_string_string.f n (l.getD i z81).f8 (l.getD i z81).f8 = some true) l.length (fun i hi => by
    obtain ⟨K, h⟩ := tx_ends (l.getD i z81).f8 (l.getD i z81).f8 (hq _ (getD81 hi)).2.2.1
    exact ⟨K, fun n hn => by have := h n hn; rwa [tx_self] at this⟩)
  obtain ⟨K10, h10⟩ := all_K (P := fun i n => slices_Equal_string_string.f n (l.getD i z81).f10 (l.getD i z81).f10 = some true) l.length (fun i hi => by
    obtain ⟨K, h⟩ := tx_ends (l.getD i z81).f10 (l.getD i z81).f10 (hq _ (getD81 hi)).2.2.2.2.2
    exact ⟨K, fun n hn => by have := h n hn; rwa [tx_self] at this⟩)
  refine ⟨(K7 + K8 + K9 + K10) + 2 * l.length + 1, fun n hn => ?_⟩
  show relaylaw06_same.f n l l = _
  rw [relaylaw06_same.f, if_pos rfl]
  exact same_loop81 l hl (K7 + K8 + K9 + K10) (fun i hi n hn => h7 i hi n (by omega)) (fun i hi n hn => h8 i hi n (by omega)) (fun i hi n hn => h9 i hi n (by omega)) (fun i hi n hn => h10 i hi n (by omega)) l.length 0 (by omega) n hn
/-- THE LAW. -/
theorem law81 {k : Nat → List S81 → List S81 → Option Bool} (hk : ∀ n a b, k n a b = (relaylaw06_copied.f n a).bind fun t134 => ((relaylaw06_copied.f n b).bind fun t137 => ((il_Same.f n t134 t137).bind fun t140 => ((relayref06_Same.f n a b).bind fun t141 => (if (t140 == t141) = true then ((il_Same.f n t134 t134).bind fun t142 => (if t142 = true then ((relaylaw06_same.f n t134 a).bind fun t143 => (if t143 = true then ((relaylaw06_same.f n t137 b).bind fun t144 => (some t144)) else (some false))) else (some false))) else (some false))))))
    {a b : List S81} (ha : a.length ≤ 1048576) (hqa : ∀ x ∈ a, Q81 x) (hb : b.length ≤ 1048576) (hqb : ∀ x ∈ b, Q81 x) : ∃ n, k n a b = some true := by
  obtain ⟨K1, e1⟩ := copied_same ha hqa
  obtain ⟨K2, e2⟩ := copied_same hb hqb
  obtain ⟨K3, e3⟩ := il_ends a b ha hqa hqb
  obtain ⟨K4, e4⟩ := ref_ends a b hqa hqb
  obtain ⟨K5, e5⟩ := il_ends a a ha hqa hqa
  obtain ⟨K6, e6⟩ := same_self ha hqa
  obtain ⟨K7, e7⟩ := same_self hb hqb
  refine ⟨K1 + K2 + K3 + K4 + K5 + K6 + K7, ?_⟩
  have f1 := e1 (K1 + K2 + K3 + K4 + K5 + K6 + K7) (by omega)
  have f2 := e2 (K1 + K2 + K3 + K4 + K5 + K6 + K7) (by omega)
  have f3 := e3 (K1 + K2 + K3 + K4 + K5 + K6 + K7) (by omega)
  have f4 := e4 (K1 + K2 + K3 + K4 + K5 + K6 + K7) (by omega)
  have f5 := e5 (K1 + K2 + K3 + K4 + K5 + K6 + K7) (by omega)
  have f6 := e6 (K1 + K2 + K3 + K4 + K5 + K6 + K7) (by omega)
  have f7 := e7 (K1 + K2 + K3 + K4 + K5 + K6 + K7) (by omega)
  simp only [if_pos, ils_self a hqa] at f5
  simp only at f1 f2 f3 f4 f6 f7
  rw [hk]
  simp only [f1, f2, f3, f4, f5, f6, f7, Option.bind_some, beq_self_eq_true, if_true]
end Go.Proofs.Ytmdkbhbconnmmaa.XIl
