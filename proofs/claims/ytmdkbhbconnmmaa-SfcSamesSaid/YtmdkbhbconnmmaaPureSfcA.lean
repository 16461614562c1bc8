/- What the comparisons and the copies tell in the end: lists of texts, ranges, links, expressions, statements. -/
import Derived.Test.YtmdkbhbconnmmaaXSfcx3
import Derived.Test.YtmdkbhbconnmmaaXSfcx7
import Derived.Test.YtmdkbhbconnmmaaXSfcD
import Derived.Test.YtmdkbhbconnmmaaXSfcE
import Derived.Test.YtmdkbhbconnmmaaXSfcN
namespace Go.Proofs.Ytmdkbhbconnmmaa.XSfc
open Go.RowKit Go.Proofs.YtmdkbhbconnmmaaW.PrintWords Go.Proofs.YtmdkbhbconnmmaaW.PrintLast Go.Proofs.YtmdkbhbconnmmaaW.PrintMore
set_option linter.unusedVariables false
theorem next_ {n i : Nat} (hn : n < 2 ^ 62) (hi : i < n) : wrap64 ((i : Int) + 1) = ((i + 1 : Nat) : Int) := by
  unfold wrap64
  omega
theorem rd65_ {l : List S65} {i : Nat} (h : i < l.length) : rd_T65 l (i : Int) = l[i] := by
  simp [rd_T65, h]
theorem rd50_ {l : List S50} {i : Nat} (h : i < l.length) : rd_T50 l (i : Int) = l[i] := by
  simp [rd_T50, h]
theorem eta65 (x : S65) : (⟨x.f0, x.f1, x.f2, x.f3, ⟨x.f4.f0, x.f4.f1, x.f4.f2⟩, x.f5, x.f6, x.f7, x.f8, x.f9, x.f10, x.f11⟩ : S65) = x := by
  cases x
  rfl
theorem texts_l0 (k : Nat) : ∀ a b n i, relayref05_sameTexts.l0 k a b n i = slices_Equal_string_string.l0 k a b n i := by
  induction k with
  | zero => intro a b n i; rfl
  | succ k ih => intro a b n i; simp only [relayref05_sameTexts.l0, slices_Equal_string_string.l0, ih]
theorem texts_f (k : Nat) (a b : List ByteArray) : relayref05_sameTexts.f k a b = slices_Equal_string_string.f k a b := by
  simp only [relayref05_sameTexts.f, slices_Equal_string_string.f, texts_l0]
theorem ranges_l0 (k : Nat) : ∀ a b n i, relayref05_sameRanges.l0 k a b n i = api_Range.l0 k a b n i := by
  induction k with
  | zero => intro a b n i; rfl
  | succ k ih => intro a b n i; simp only [relayref05_sameRanges.l0, api_Range.l0, ih]
theorem ranges_f (k : Nat) (a b : List S50) : relayref05_sameRanges.f k a b = api_Range.f k a b := by
  simp only [relayref05_sameRanges.f, api_Range.f, ranges_l0]
inductive Ok65 : List S65 → Prop
  | mk {l : List S65} (hl : l.length ≤ 837723144972) (he : ∀ x ∈ l, Ok65 x.f5) (ht : ∀ x ∈ l, x.f6.length * 16 ≤ 140737488355328) : Ok65 l
theorem exprs_loop (l : List S65) (hl : l.length ≤ 837723144972) (ht : ∀ x ∈ l, x.f6.length * 16 ≤ 140737488355328)
    (ih : ∀ x ∈ l, ∃ K : Nat, ∀ n, K ≤ n → relayplain_Exprs.rec n x.f5 = some x.f5) :
    ∀ m i, i + m = l.length → ∃ K : Nat, ∀ n, K ≤ n → ∀ q j, m + 1 ≤ j → relayplain_Exprs.l0Of (relayplain_Expr.fOf (relayplain_Exprs.rec n) q) j (l.take i) l (l.length : Int) (i : Int) = some l := by
  intro m
  induction m with
  | zero =>
    intro i hi
    refine ⟨0, fun n _ q j hj => ?_⟩
    obtain ⟨j, rfl⟩ : ∃ q, j = q + 1 := ⟨j - 1, by omega⟩
    rw [relayplain_Exprs.l0Of, if_neg (by omega), List.take_of_length_le (by omega)]
  | succ m ihm =>
    intro i hi
    have hi' : i < l.length := by omega
    obtain ⟨K1, h1⟩ := ihm (i + 1) (by omega)
    obtain ⟨K2, h2⟩ := ih l[i] (List.getElem_mem hi')
    have h3 := ht l[i] (List.getElem_mem hi')
    refine ⟨K1 + K2, fun n hn q j hj => ?_⟩
    obtain ⟨j, rfl⟩ : ∃ q, j = q + 1 := ⟨j - 1, by omega⟩
    rw [relayplain_Exprs.l0Of, if_pos (by omega), if_pos (by omega), if_pos (by omega), rd65_ hi']
    simp only [relayplain_Expr.fOf, h2 n (by omega), slices_Clone_string_string.f, if_pos h3, Option.bind_some]
    rw [if_pos (by rw [List.length_take]; omega), next_ (n := l.length) (by omega) hi', ← h1 n (by omega) q j (by omega)]
    congr 1
    rw [List.take_succ_eq_append_getElem hi', eta65]
theorem exprs_same {l : List S65} (h : Ok65 l) : ∃ K : Nat, ∀ n, K ≤ n → relayplain_Exprs.f n l = some l := by
  induction h with
  | @mk l hl he ht ih =>
    obtain ⟨K, hK⟩ := exprs_loop l hl ht ih l.length 0 (by omega)
    refine ⟨K + l.length + 2, fun n hn => ?_⟩
    obtain ⟨n, rfl⟩ : ∃ q, n = q + 1 := ⟨n - 1, by omega⟩
    exact hK n (by omega) (n + 1) (n + 1) (by omega)
def Ends {α : Type} (f : Nat → Option α) (r : α) : Prop := ∃ K : Nat, ∀ n, K ≤ n → f n = some r
theorem Ends.uniq {α : Type} {f : Nat → Option α} {r r' : α} (h : Ends f r) (h' : Ends f r') : r = r' := by
  obtain ⟨K, h⟩ := h
  obtain ⟨K', h'⟩ := h'
  exact Option.some.inj ((h (K + K') (by omega)).symm.trans (h' (K + K') (by omega)))
def allB (v : Nat → Bool) : Nat → Nat → Bool
  | 0, _ => true
  | m + 1, i => if v i = true then allB v m (i + 1) else false
theorem loop_all {L : Nat → Nat → Option Bool} {len : Nat} {v : Nat → Bool} (hs : ∀ j i, i < len → L (j + 1) i = if v i = true then L j (i + 1) else some false) (h0 : ∀ j, L (j + 1) len = some true) :
    ∀ m i, i + m = len → ∀ j, m + 1 ≤ j → L j i = some (allB v m i) := by
  intro m
  induction m with
  | zero =>
    intro i hi j hj
    obtain ⟨j, rfl⟩ : ∃ q, j = q + 1 := ⟨j - 1, by omega⟩
    obtain rfl : i = len := by omega
    exact h0 j
  | succ m ih =>
    intro i hi j hj
    obtain ⟨j, rfl⟩ : ∃ q, j = q + 1 := ⟨j - 1, by omega⟩
    rw [hs j i (by omega), allB]
    by_cases h : v i = true
    · rw [if_pos h, if_pos h]
      exact ih (i + 1) (by omega) j (by omega)
    · rw [if_neg h, if_neg h]
theorem allB_true {v : Nat → Bool} : ∀ {m i : Nat}, allB v m i = true ↔ ∀ k, i ≤ k → k < i + m → v k = true := by
  intro m
  induction m with
  | zero => intro i; exact ⟨fun _ k h1 h2 => by omega, fun _ => rfl⟩
  | succ m ih =>
    intro i
    rw [allB]
    constructor
    · intro h k h1 h2
      by_cases hv : v i = true
      · rw [if_pos hv] at h
        by_cases hk : k = i
        · rw [hk]; exact hv
        · exact ih.1 h k (by omega) (by omega)
      · rw [if_neg hv] at h
        cases h
    · intro h
      rw [if_pos (h i (Nat.le_refl _) (by omega))]
      exact ih.2 (fun k h1 h2 => h k (by omega) (by omega))
def txV (a b : List ByteArray) : Bool := decide (a.map ByteArray.toList = b.map ByteArray.toList)
theorem tx_self (a : List ByteArray) : txV a a = true := by simp [txV]
theorem tx_ends (a b : List ByteArray) (hs : a.length * 16 ≤ 140737488355328) : Ends (fun n => slices_Equal_string_string.f n a b) (txV a b) := by
  by_cases hl : a.length = b.length
  · have hv : txV a b = allB (fun i => decide ((a.getD i ByteArray.empty).toList = (b.getD i ByteArray.empty).toList)) a.length 0 := by
      unfold txV
      rw [Bool.eq_iff_iff, allB_true, decide_eq_true_iff]
      constructor
      · intro h k _ hk
        have h1 := congrArg (fun l => l[k]?) h
        simp only [List.getElem?_map] at h1
        rw [List.getElem?_eq_getElem (by omega), List.getElem?_eq_getElem (by omega)] at h1
        simp only [Option.map_some, Option.some.injEq] at h1
        rw [decide_eq_true_iff, List.getD_eq_getElem?_getD, List.getD_eq_getElem?_getD, List.getElem?_eq_getElem (by omega), List.getElem?_eq_getElem (by omega)]
        exact h1
      · intro h
        refine List.ext_getElem (by simp [hl]) (fun k h1 h2 => ?_)
        have hk : k < a.length := by simpa using h1
        have h3 := h k (Nat.zero_le _) (by omega)
        rw [decide_eq_true_iff, List.getD_eq_getElem?_getD, List.getD_eq_getElem?_getD, List.getElem?_eq_getElem (by omega), List.getElem?_eq_getElem (by omega)] at h3
        simpa using h3
    refine ⟨a.length + 2, fun n hn => ?_⟩
    show slices_Equal_string_string.f n a b = _
    rw [slices_Equal_string_string.f, if_pos (by omega), hv]
    refine loop_all (L := fun j i => slices_Equal_string_string.l0 j a b (a.length : Int) (i : Int)) (len := a.length) (fun j i hi => ?_) (fun j => ?_) a.length 0 (by omega) n (by omega)
    · show slices_Equal_string_string.l0 (j + 1) a b (a.length : Int) (i : Int) = _
      rw [slices_Equal_string_string.l0, if_pos (by omega), if_pos (by omega), if_pos (by omega), if_pos (by omega), next_ (by omega) hi]
      simp only [decide_eq_true_iff]
      rfl
    · show slices_Equal_string_string.l0 (j + 1) a b (a.length : Int) (a.length : Int) = _
      rw [slices_Equal_string_string.l0, if_neg (by omega)]
  · refine ⟨1, fun n hn => ?_⟩
    show slices_Equal_string_string.f n a b = _
    rw [slices_Equal_string_string.f, if_neg (by omega)]
    congr 1
    refine (decide_eq_false (fun h => hl ?_)).symm
    simpa using congrArg List.length h

/-! ### Chains -/
theorem Ends.tt {α : Type} (r : α) : Ends (fun _ => some r) r := ⟨0, fun _ _ => rfl⟩
theorem Ends.bind {f g : Nat → Option Bool} {a b : Bool} (hf : Ends f a) (hg : Ends g b) : Ends (fun n => (f n).bind fun u => if u = true then g n else some false) (a && b) := by
  obtain ⟨K, hf⟩ := hf
  obtain ⟨K', hg⟩ := hg
  refine ⟨K + K', fun n hn => ?_⟩
  show (f n).bind _ = _
  rw [hf n (by omega), Option.bind_some]
  cases a with
  | true => rw [if_pos rfl, hg n (by omega), Bool.true_and]
  | false => rw [if_neg Bool.false_ne_true, Bool.false_and]
theorem Ends.ite {f : Nat → Option Bool} {a : Bool} (c : Prop) [Decidable c] (hf : Ends f a) : Ends (fun n => if c then f n else some false) (decide c && a) := by
  obtain ⟨K, hf⟩ := hf
  refine ⟨K, fun n hn => ?_⟩
  show (if c then f n else some false) = _
  by_cases h : c
  · rw [if_pos h, hf n hn, decide_eq_true h, Bool.true_and]
  · rw [if_neg h, decide_eq_false h, Bool.false_and]
theorem Ends.both {f g : Nat → Option Bool} {a b : Bool} (o : Bool) (hf : Ends f a) (hg : Ends g b) : Ends (fun n => (f n).bind fun u => if (o && u) = true then g n else some false) (o && a && b) := by
  obtain ⟨K, hf⟩ := hf
  obtain ⟨K', hg⟩ := hg
  refine ⟨K + K', fun n hn => ?_⟩
  show (f n).bind _ = _
  rw [hf n (by omega), Option.bind_some]
  cases h : (o && a) with
  | true => rw [if_pos rfl, hg n (by omega), Bool.true_and]
  | false => rw [if_neg Bool.false_ne_true, Bool.false_and]
theorem Ends.succ {α : Type} {f : Nat → Option α} {r : α} (h : Ends (fun n => f (n + 1)) r) : Ends f r := by
  obtain ⟨K, h⟩ := h
  refine ⟨K + 1, fun n hn => ?_⟩
  obtain ⟨n, rfl⟩ : ∃ q, n = q + 1 := ⟨n - 1, by omega⟩
  exact h n (by omega)
/-- Two that tell the same in the end, and the truth where s holds. -/
def P2 (f g : Nat → Option Bool) (s : Prop) : Prop := ∃ r : Bool, Ends f r ∧ Ends g r ∧ (s → r = true)
theorem P2.succ {f g : Nat → Option Bool} {s : Prop} (h : P2 (fun n => f (n + 1)) (fun n => g (n + 1)) s) : P2 f g s := by
  obtain ⟨r, h1, h2, h3⟩ := h
  exact ⟨r, h1.succ, h2.succ, h3⟩
theorem P2.eqGo {α : Type} {F G : Nat → α → α → Option Bool} : ∀ {a : List α}, (∀ x ∈ a, ∀ y, P2 (fun n => F n x y) (fun n => G n x y) (x = y)) → ∀ b, P2 (fun n => eqGo (F n) a b) (fun n => eqGo (G n) a b) (a = b)
  | [], _, b => by
    refine ⟨true, ?_, ?_, fun _ => rfl⟩ <;> exact ⟨0, fun n _ => by simp only [XSfc.eqGo]⟩
  | x :: xs, h, [] => by
    refine ⟨true, ?_, ?_, fun _ => rfl⟩ <;> exact ⟨0, fun n _ => by simp only [XSfc.eqGo]⟩
  | x :: xs, h, y :: ys => by
    obtain ⟨r1, f1, g1, s1⟩ := h x (List.mem_cons_self ..) y
    obtain ⟨r2, f2, g2, s2⟩ := P2.eqGo (fun z hz => h z (List.mem_cons_of_mem _ hz)) ys
    refine ⟨r1 && r2, ?_, ?_, fun e => ?_⟩
    · simp only [XSfc.eqGo]
      exact f1.bind f2
    · simp only [XSfc.eqGo]
      exact g1.bind g2
    · injection e with e1 e2
      rw [s1 e1, s2 e2]
      rfl
theorem P2.len {α : Type} {F G : Nat → α → α → Option Bool} {a : List α} (h : ∀ x ∈ a, ∀ y, P2 (fun n => F n x y) (fun n => G n x y) (x = y)) (b : List α) : P2 (fun n => if a.length = b.length then XSfc.eqGo (F n) a b else some false) (fun n => if a.length = b.length then XSfc.eqGo (G n) a b else some false) (a = b) := by
  obtain ⟨r, f1, g1, s1⟩ := P2.eqGo h b
  refine ⟨decide (a.length = b.length) && r, f1.ite _, g1.ite _, fun e => ?_⟩
  rw [s1 e, decide_eq_true (by rw [e])]
  rfl
theorem eqGo_self {α : Type} {F : Nat → α → α → Option Bool} : ∀ {a : List α}, (∀ x ∈ a, Ends (fun n => F n x x) true) → Ends (fun n => eqGo (F n) a a) true
  | [], _ => ⟨0, fun n _ => by simp only [eqGo]⟩
  | x :: xs, h => by
    simp only [eqGo]
    exact (h x (List.mem_cons_self ..)).bind (eqGo_self (fun z hz => h z (List.mem_cons_of_mem _ hz)))
theorem len_self {α : Type} {F : Nat → α → α → Option Bool} {a : List α} (h : ∀ x ∈ a, Ends (fun n => F n x x) true) : Ends (fun n => if a.length = a.length then eqGo (F n) a a else some false) true := by
  have := (eqGo_self h).ite (a.length = a.length)
  rwa [decide_eq_true rfl] at this
theorem mapGo_same {α : Type} {F : Nat → α → Option α} : ∀ {a : List α}, (∀ x ∈ a, Ends (fun n => F n x) x) → Ends (fun n => mapGo (F n) a) a
  | [], _ => ⟨0, fun n _ => rfl⟩
  | x :: xs, h => by
    obtain ⟨K, h1⟩ := h x (List.mem_cons_self ..)
    obtain ⟨K', h2⟩ := mapGo_same (fun z hz => h z (List.mem_cons_of_mem _ hz))
    refine ⟨K + K', fun n hn => ?_⟩
    show mapGo (F n) (x :: xs) = _
    have f1 : F n x = some x := h1 n (by omega)
    have f2 : mapGo (F n) xs = some xs := h2 n (by omega)
    rw [mapGo, f1, Option.bind_some, f2, Option.bind_some]
/-! ### A loop by its index -/
def allV {α : Type} (v : α → α → Bool) : List α → List α → Bool
  | x :: xs, y :: ys => v x y && allV v xs ys
  | _, _ => true
theorem allB_shift {v : Nat → Bool} : ∀ {m i : Nat}, allB v m (i + 1) = allB (fun k => v (k + 1)) m i := by
  intro m
  induction m with
  | zero => intro i; rfl
  | succ m ih => intro i; rw [allB, allB, ih]
theorem allV_all {α : Type} (z : α) (v : α → α → Bool) : ∀ (a b : List α), a.length = b.length → allB (fun i => v (a.getD i z) (b.getD i z)) a.length 0 = allV v a b
  | x :: xs, y :: ys, h => by
    rw [List.length_cons, allB, allV, allB_shift]
    have := allV_all z v xs ys (by simpa using h)
    rw [← this]
    simp only [List.getD_cons_zero, List.getD_cons_succ]
    cases v x y <;> rfl
  | [], _, _ => by simp [allV, allB]
theorem idx_loop {α : Type} (z : α) {L : Nat → Nat → Option Bool} {a b : List α} {v : α → α → Bool} (hl : a.length = b.length) (hs : ∀ j i, i < a.length → L (j + 1) i = if v (a.getD i z) (b.getD i z) = true then L j (i + 1) else some false) (h0 : ∀ j, L (j + 1) a.length = some true) : Ends (fun n => L n 0) (allV v a b) := by
  refine ⟨a.length + 1, fun n hn => ?_⟩
  rw [← allV_all z v a b hl]
  exact loop_all hs h0 a.length 0 (by omega) n hn
theorem allV_self {α : Type} {v : α → α → Bool} (hv : ∀ x, v x x = true) : ∀ a, allV v a a = true
  | [] => rfl
  | x :: xs => by rw [allV, hv, allV_self hv xs]; rfl
/-! ### Ranges -/
def rgV (x y : S50) : Bool := !(!(x.f0 == y.f0) || !(x.f1 == y.f1))
theorem rg_ends (a b : List S50) (hs : a.length * 16 ≤ 140737488355328) : Ends (fun n => api_Range.f n a b) (decide (a.length = b.length) && allV rgV a b) := by
  by_cases hl : a.length = b.length
  · have := idx_loop z50 (L := fun j i => api_Range.l0 j a b (a.length : Int) (i : Int)) (v := rgV) hl (fun j i hi => by
      show api_Range.l0 (j + 1) a b (a.length : Int) (i : Int) = _
      rw [api_Range.l0, if_pos (by omega), if_pos (by omega), if_pos (by omega), if_pos (by omega), next_ (n := a.length) (by omega) hi]
      show (if (!((a.getD i z50).f0 == (b.getD i z50).f0) || !((a.getD i z50).f1 == (b.getD i z50).f1)) = true then some false else _) = _
      unfold rgV
      cases (!((a.getD i z50).f0 == (b.getD i z50).f0) || !((a.getD i z50).f1 == (b.getD i z50).f1)) <;> rfl) (fun j => by
      show api_Range.l0 (j + 1) a b (a.length : Int) (a.length : Int) = _
      rw [api_Range.l0, if_neg (by omega)])
    rw [decide_eq_true hl, Bool.true_and]
    obtain ⟨K, hK⟩ := this
    exact ⟨K, fun n hn => by show api_Range.f n a b = _; rw [api_Range.f, if_pos (by omega)]; exact hK n hn⟩
  · rw [decide_eq_false hl, Bool.false_and]
    exact ⟨0, fun n _ => by show api_Range.f n a b = _; rw [api_Range.f, if_neg (by omega)]⟩
theorem rg_self (a : List S50) : (decide (a.length = a.length) && allV rgV a a) = true := by
  rw [decide_eq_true rfl, allV_self (fun x => by simp [rgV])]
  rfl
/-! ### Expressions -/
theorem expr_el (F : List S65 → List S65 → Option Bool) (k : Nat) (x y : S65) : st_sameExprs_1.el F k x y = relayref05_SameExpr.el F k x y := by
  unfold st_sameExprs_1.el relayref05_SameExpr.el
  simp only [texts_f]
def exV (x y : S65) (r : Bool) : Bool := decide (x.f0 = y.f0) && (decide (x.f2.toList = y.f2.toList) && (decide (x.f3.toList = y.f3.toList) && (decide ((x.f4.f0 == y.f4.f0 && (x.f4.f1 == y.f4.f1 && (x.f4.f2.toList == y.f4.f2.toList))) = true) && (txV x.f6 y.f6 && (r && true)))))
theorem expr_ends {x y : S65} {F : Nat → List S65 → List S65 → Option Bool} {r : Bool} (ht : x.f6.length * 16 ≤ 140737488355328) (h : Ends (fun n => F n x.f5 y.f5) r) : Ends (fun n => relayref05_SameExpr.el (F n) n x y) (exV x y r) := by
  have e := ((((((tx_ends x.f6 y.f6 ht).bind (h.bind (Ends.tt true))).ite ((x.f4.f0 == y.f4.f0 && (x.f4.f1 == y.f4.f1 && (x.f4.f2.toList == y.f4.f2.toList))) = true)).ite (x.f3.toList = y.f3.toList)).ite (x.f2.toList = y.f2.toList)).ite (x.f0 = y.f0))
  unfold relayref05_SameExpr.el
  simp only [texts_f]
  exact e
theorem exprs_P2 {a : List S65} (h : Ok65 a) : ∀ b, P2 (fun n => st_sameExprs.f n a b) (fun n => relayref05_sameExprs.f n a b) (a = b) := by
  induction h with
  | @mk l hl he ht ih =>
    intro b
    refine P2.succ ?_
    simp only [st_sameExprs.f, relayref05_sameExprs.f]
    refine P2.len (fun x hx y => ?_) b
    obtain ⟨r, f1, g1, s1⟩ := ih x hx y.f5
    refine ⟨exV x y r, ?_, expr_ends (ht x hx) g1, fun e => ?_⟩
    · simp only [expr_el]
      exact expr_ends (F := fun n => st_sameExprs.f n) (ht x hx) f1
    · subst e
      rw [s1 rfl]
      simp [exV, tx_self]
theorem plain_self {a : List S65} (h : Ok65 a) : Ends (fun n => relayplain_SameExprs.f n a a) true := by
  induction h with
  | @mk l hl he ht ih =>
    refine Ends.succ ?_
    show Ends (fun n => if l.length = l.length then eqGo (relayplain_SameExpr.el (relayplain_SameExprs.f n) n) l l else some false) true
    refine len_self (fun x hx => ?_)
    have e := tx_ends x.f6 x.f6 (ht x hx)
    rw [tx_self] at e
    have := e.bind ((ih x hx).bind (Ends.tt true))
    obtain ⟨K, hK⟩ := this
    refine ⟨K, fun n hn => ?_⟩
    show relayplain_SameExpr.el _ _ x x = _
    unfold relayplain_SameExpr.el
    simp only [if_true, beq_self_eq_true, Bool.and_self]
    exact hK n hn
/-! ### Statements -/
/-- A tree of statements whose lists fit in memory. -/
inductive Ok46 : List S46 → Prop
  | mk {l : List S46} (hl : l.length ≤ 606627104979) (h4 : ∀ x ∈ l, Ok65 x.f4) (h5 : ∀ x ∈ l, x.f5.length * 16 ≤ 140737488355328) (h6 : ∀ x ∈ l, Ok65 x.f6) (h7 : ∀ x ∈ l, x.f7.length * 16 ≤ 140737488355328)
    (h8 : ∀ x ∈ l, x.f8.length * 16 ≤ 140737488355328) (h9 : ∀ x ∈ l, Ok46 x.f9) (h10 : ∀ x ∈ l, Ok46 x.f10) : Ok46 l
/-- One statement compared with another, out of what their parts told. -/
def told (x y : S46) (r4 t5 r6 t7 r8 s9 s10 : Bool) : Bool := decide (x.f0 = y.f0) && decide (x.f2.toList = y.f2.toList) && (decide (x.f3 = y.f3) || x.f0 == 5) && r4 && t5 && r6 && t7 && r8 && s9 && s10
theorem st_told {x y : S46} {F : Nat → List S46 → List S46 → Option Bool} {r4 t5 r6 t7 r8 s9 s10 : Bool} (h4 : Ends (fun n => st_sameExprs.f n x.f4 y.f4) r4) (h5 : Ends (fun n => slices_Equal_string_string.f n x.f5 y.f5) t5) (h6 : Ends (fun n => st_sameExprs.f n x.f6 y.f6) r6) (h7 : Ends (fun n => slices_Equal_string_string.f n x.f7 y.f7) t7)
    (h8 : Ends (fun n => api_Range.f n x.f8 y.f8) r8) (h9 : Ends (fun n => F n x.f9 y.f9) s9) (h10 : Ends (fun n => F n x.f10 y.f10) s10) : Ends (fun n => st_Same_1.el (F n) n x y) (told x y r4 t5 r6 t7 r8 s9 s10) := by
  have e := Ends.both (st_Same_1.one x y) (h5.bind (h7.bind (h8.bind (Ends.tt true)))) (h4.bind (h6.bind (h9.bind (h10.bind (Ends.tt true)))))
  have hv : (st_Same_1.one x y && (t5 && (t7 && (r8 && true))) && (r4 && (r6 && (s9 && (s10 && true))))) = told x y r4 t5 r6 t7 r8 s9 s10 := by
    unfold told st_Same_1.one
    generalize (decide (x.f0 = y.f0) && decide (x.f2.toList = y.f2.toList) && (decide (x.f3 = y.f3) || x.f0 == 5)) = o
    cases o <;> cases r4 <;> cases t5 <;> cases r6 <;> cases t7 <;> cases r8 <;> cases s9 <;> cases s10 <;> rfl
  rw [hv] at e
  exact e
theorem ref_told {x y : S46} {F : Nat → List S46 → List S46 → Option Bool} {r4 t5 r6 t7 r8 s9 s10 : Bool} (h4 : Ends (fun n => relayref05_sameExprs.f n x.f4 y.f4) r4) (h5 : Ends (fun n => slices_Equal_string_string.f n x.f5 y.f5) t5) (h6 : Ends (fun n => relayref05_sameExprs.f n x.f6 y.f6) r6) (h7 : Ends (fun n => slices_Equal_string_string.f n x.f7 y.f7) t7)
    (h8 : Ends (fun n => api_Range.f n x.f8 y.f8) r8) (h9 : Ends (fun n => F n x.f9 y.f9) s9) (h10 : Ends (fun n => F n x.f10 y.f10) s10) : Ends (fun n => relayref05_Same.el (F n) n x y) (told x y r4 t5 r6 t7 r8 s9 s10) := by
  have e := (((h4.bind (h5.bind (h6.bind (h7.bind (h8.bind (h9.bind (h10.bind (Ends.tt true)))))))).ite (x.f0 = 5 ∨ x.f3 = y.f3)).ite (x.f2.toList = y.f2.toList)).ite (x.f0 = y.f0)
  have hv : (decide (x.f0 = y.f0) && (decide (x.f2.toList = y.f2.toList) && (decide (x.f0 = 5 ∨ x.f3 = y.f3) && (r4 && (t5 && (r6 && (t7 && (r8 && (s9 && (s10 && true)))))))))) = told x y r4 t5 r6 t7 r8 s9 s10 := by
    have ho : decide (x.f0 = 5 ∨ x.f3 = y.f3) = (decide (x.f3 = y.f3) || x.f0 == 5) := by
      rw [Bool.eq_iff_iff]
      simp [or_comm]
    unfold told
    rw [ho, Bool.and_true]
    simp only [Bool.and_assoc]
  rw [hv] at e
  unfold relayref05_Same.el
  simp only [texts_f, ranges_f]
  exact e
theorem told_self (x : S46) : told x x true true true true true true true = true := by
  simp [told]
theorem same_P2 {a : List S46} (h : Ok46 a) : ∀ b, P2 (fun n => st_Same.f n a b) (fun n => relayref05_Same.f n a b) (a = b) := by
  induction h with
  | @mk a hs h4 h5 h6 h7 h8 h9 h10 ih9 ih10 =>
    intro b
    refine P2.succ ?_
    simp only [st_Same.f, relayref05_Same.f]
    refine P2.len (fun x hx y => ?_) b
    obtain ⟨r4, f4, g4, q4⟩ := exprs_P2 (h4 x hx) y.f4
    obtain ⟨r6, f6, g6, q6⟩ := exprs_P2 (h6 x hx) y.f6
    obtain ⟨s9, f9, g9, q9⟩ := ih9 x hx y.f9
    obtain ⟨s10, f10, g10, q10⟩ := ih10 x hx y.f10
    have t5 := tx_ends x.f5 y.f5 (h5 x hx)
    have t7 := tx_ends x.f7 y.f7 (h7 x hx)
    have r8 := rg_ends x.f8 y.f8 (h8 x hx)
    refine ⟨_, st_told f4 t5 f6 t7 r8 f9 f10, ref_told g4 t5 g6 t7 r8 g9 g10, fun e => ?_⟩
    subst e
    rw [q4 rfl, q6 rfl, q9 rfl, q10 rfl, tx_self, tx_self, rg_self]
    exact told_self x
theorem plainS_self {a : List S46} (h : Ok46 a) : Ends (fun n => relayplain_SameStmts.f n a a) true := by
  induction h with
  | @mk a hs h4 h5 h6 h7 h8 h9 h10 ih9 ih10 =>
    refine Ends.succ ?_
    show Ends (fun n => if a.length = a.length then eqGo (relayplain_SameStmts.el (relayplain_SameStmts.f n) n) a a else some false) true
    refine len_self (fun x hx => ?_)
    have t5 := tx_ends x.f5 x.f5 (h5 x hx)
    have t7 := tx_ends x.f7 x.f7 (h7 x hx)
    have r8 := rg_ends x.f8 x.f8 (h8 x hx)
    rw [tx_self] at t5 t7
    rw [rg_self] at r8
    obtain ⟨K, hK⟩ := (plain_self (h4 x hx)).bind ((plain_self (h6 x hx)).bind (t5.bind (t7.bind (r8.bind ((ih9 x hx).bind ((ih10 x hx).bind (Ends.tt true)))))))
    refine ⟨K, fun n hn => ?_⟩
    show relayplain_SameStmts.el _ _ x x = _
    unfold relayplain_SameStmts.el
    simp only [if_true]
    exact hK n hn
theorem eta46 (x : S46) : (⟨x.f0, x.f1, x.f2, x.f3, x.f4, x.f5, x.f6, x.f7, x.f8, x.f9, x.f10, x.f11, x.f12, x.f13⟩ : S46) = x := by
  cases x
  rfl
theorem stmts_same {a : List S46} (h : Ok46 a) : Ends (fun n => relayplain_Stmts.f n a) a := by
  induction h with
  | @mk a hs h4 h5 h6 h7 h8 h9 h10 ih9 ih10 =>
    refine Ends.succ ?_
    have hm := mapGo_same (F := fun n => relayplain_Stmts.el (relayplain_Stmts.f n) n) (a := a) (fun x hx => by
      obtain ⟨K4, e4⟩ := exprs_same (h4 x hx)
      obtain ⟨K6, e6⟩ := exprs_same (h6 x hx)
      obtain ⟨K9, e9⟩ := ih9 x hx
      obtain ⟨K10, e10⟩ := ih10 x hx
      refine ⟨K4 + K6 + K9 + K10, fun n hn => ?_⟩
      have f9 : relayplain_Stmts.f n x.f9 = some x.f9 := e9 n (by omega)
      have f10 : relayplain_Stmts.f n x.f10 = some x.f10 := e10 n (by omega)
      show relayplain_Stmts.el _ _ x = _
      unfold relayplain_Stmts.el
      simp only [e4 n (by omega), e6 n (by omega), f9, f10, slices_Clone_string_string.f, api_Range_27.f, if_pos (h5 x hx), if_pos (h7 x hx), if_pos (h8 x hx), Option.bind_some, eta46])
    obtain ⟨K, hK⟩ := hm
    refine ⟨K, fun n hn => ?_⟩
    show relayplain_Stmts.f (n + 1) a = _
    rw [relayplain_Stmts.f, if_pos (by omega)]
    exact hK n hn
/-! ### An expression as a statement -/
theorem eq_nil : Ends (fun n => slices_Equal_string_string.f n [] []) true := tx_ends [] [] (by simp)
theorem rg_nil : Ends (fun n => api_Range.f n [] []) true := rg_ends [] [] (by simp)
theorem se_nil : Ends (fun n => st_sameExprs.f n [] []) true := Ends.succ ⟨0, fun n _ => by show st_sameExprs.f (n + 1) [] [] = _; rw [st_sameExprs.f, if_pos rfl, eqGo] <;> simp⟩
theorem sr_nil : Ends (fun n => relayref05_sameExprs.f n [] []) true := Ends.succ ⟨0, fun n _ => by show relayref05_sameExprs.f (n + 1) [] [] = _; rw [relayref05_sameExprs.f, if_pos rfl, eqGo] <;> simp⟩
theorem st_nil : Ends (fun n => st_Same.f n [] []) true := Ends.succ ⟨0, fun n _ => by show st_Same.f (n + 1) [] [] = _; rw [st_Same.f, if_pos rfl, eqGo] <;> simp⟩
theorem rf_nil : Ends (fun n => relayref05_Same.f n [] []) true := Ends.succ ⟨0, fun n _ => by show relayref05_Same.f (n + 1) [] [] = _; rw [relayref05_Same.f, if_pos rfl, eqGo] <;> simp⟩
theorem told_stmt (op : Int) (x y : S65) (r : Bool) : told (stmtOf op x) (stmtOf op y) r true true true true true true = r := by
  simp [told, stmtOf]
theorem ok_one {x : S65} (ht : x.f6.length * 16 ≤ 140737488355328) (hk : Ok65 x.f5) : Ok65 [x] := .mk (by simp) (fun z hz => by rw [List.mem_singleton.1 hz]; exact hk) (fun z hz => by rw [List.mem_singleton.1 hz]; exact ht)
theorem one_P2 {x : S65} (ht : x.f6.length * 16 ≤ 140737488355328) (hk : Ok65 x.f5) (y : S65) : P2 (fun n => st_Same.f n [stmtOf 1 x] [stmtOf 1 y]) (fun n => relayref05_Same.f n [stmtOf 12 x] [stmtOf 12 y]) (x = y) := by
  obtain ⟨r, f4, g4, q4⟩ := exprs_P2 (ok_one ht hk) [y]
  have e1 : Ends (fun n => st_Same_1.el (st_Same.f n) n (stmtOf 1 x) (stmtOf 1 y)) _ := st_told (F := fun n => st_Same.f n) (x := stmtOf 1 x) (y := stmtOf 1 y) f4 eq_nil se_nil eq_nil rg_nil st_nil st_nil
  have e2 : Ends (fun n => relayref05_Same.el (relayref05_Same.f n) n (stmtOf 12 x) (stmtOf 12 y)) _ := ref_told (F := fun n => relayref05_Same.f n) (x := stmtOf 12 x) (y := stmtOf 12 y) g4 eq_nil sr_nil eq_nil rg_nil rf_nil rf_nil
  rw [told_stmt] at e1 e2
  refine P2.succ ⟨r, ?_, ?_, fun e => q4 (by rw [e])⟩
  · have := e1.bind (Ends.tt true)
    rw [Bool.and_true] at this
    obtain ⟨K, hK⟩ := this
    refine ⟨K, fun n hn => ?_⟩
    show st_Same.f (n + 1) _ _ = _
    rw [st_Same.f, if_pos (show [stmtOf 1 x].length = [stmtOf 1 y].length from rfl)]
    exact hK n hn
  · have := e2.bind (Ends.tt true)
    rw [Bool.and_true] at this
    obtain ⟨K, hK⟩ := this
    refine ⟨K, fun n hn => ?_⟩
    show relayref05_Same.f (n + 1) _ _ = _
    rw [relayref05_Same.f, if_pos (show [stmtOf 12 x].length = [stmtOf 12 y].length from rfl)]
    exact hK n hn
end Go.Proofs.Ytmdkbhbconnmmaa.XSfc
