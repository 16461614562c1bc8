/- Lists of texts, ranges, expressions: the copies are the lists; both comparisons end and tell the same, and a list is as it is. -/
import Derived.Test.YtmdkbhbconnmmaaXIlx2
import Derived.Test.YtmdkbhbconnmmaaXIlx4
import Derived.Test.YtmdkbhbconnmmaaXIlx5
import Derived.Test.YtmdkbhbconnmmaaXIlx6
import Derived.Test.YtmdkbhbconnmmaaXIlx10
import Derived.Test.YtmdkbhbconnmmaaXIlx11
import Derived.Test.YtmdkbhbconnmmaaXIlx12
namespace Go.Proofs.Ytmdkbhbconnmmaa.XIl
open Go.RowKit Go.Proofs.YtmdkbhbconnmmaaW.PrintWords Go.Proofs.YtmdkbhbconnmmaaW.PrintLast Go.Proofs.YtmdkbhbconnmmaaW.PrintMore
set_option linter.unusedVariables false
/-- An index that stays. -/
theorem next_ {n i : Nat} (hn : n < 2 ^ 62) (hi : i < n) : wrap64 ((i : Int) + 1) = ((i + 1 : Nat) : Int) := by
  unfold wrap64
  omega
theorem rd65_ {l : List S65} {i : Nat} (h : i < l.length) : rd_T65 l (i : Int) = l[i] := by
  simp [rd_T65, h]
theorem rd50_ {l : List S50} {i : Nat} (h : i < l.length) : rd_T50 l (i : Int) = l[i] := by
  simp [rd_T50, h]
theorem rdT_ {l : List ByteArray} {i : Nat} (h : i < l.length) : rdOf ByteArray.empty l (i : Int) = l[i] := by
  simp [rdOf, h]
theorem eta65 (x : S65) : (⟨x.f0, x.f1, x.f2, x.f3, ⟨x.f4.f0, x.f4.f1, x.f4.f2⟩, x.f5, x.f6, x.f7, x.f8, x.f9, x.f10, x.f11⟩ : S65) = x := by
  cases x
  rfl
theorem eta46 (x : S46) : (⟨x.f0, x.f1, x.f2, x.f3, x.f4, x.f5, x.f6, x.f7, x.f8, x.f9, x.f10, x.f11, x.f12, x.f13⟩ : S46) = x := by
  cases x
  rfl
/-! ### Texts -/
theorem texts_l0 (k : Nat) : ∀ a b n i, relayref05_sameTexts.l0 k a b n i = slices_Equal_string_string.l0 k a b n i := by
  induction k with
  | zero => intro a b n i; rfl
  | succ k ih => intro a b n i; simp only [relayref05_sameTexts.l0, slices_Equal_string_string.l0, ih]
theorem texts_f (k : Nat) (a b : List ByteArray) : relayref05_sameTexts.f k a b = slices_Equal_string_string.f k a b := by
  simp only [relayref05_sameTexts.f, slices_Equal_string_string.f, texts_l0]
theorem texts_loop (a b : List ByteArray) (hl : a.length = b.length) (hs : a.length < 2 ^ 62) : ∀ m i, i + m = a.length → ∃ r : Bool, ∀ j, m + 1 ≤ j → slices_Equal_string_string.l0 j a b (a.length : Int) (i : Int) = some r ∧ (a = b → r = true) := by
  intro m
  induction m with
  | zero =>
    intro i hi
    refine ⟨true, fun j hj => ?_⟩
    obtain ⟨j, rfl⟩ : ∃ q, j = q + 1 := ⟨j - 1, by omega⟩
    rw [slices_Equal_string_string.l0, if_neg (by omega)]
    exact ⟨rfl, fun _ => rfl⟩
  | succ m ih =>
    intro i hi
    obtain ⟨r, hr⟩ := ih (i + 1) (by omega)
    by_cases e : (rdOf ByteArray.empty a (i : Int)).toList = (rdOf ByteArray.empty b (i : Int)).toList
    · refine ⟨r, fun j hj => ?_⟩
      obtain ⟨j, rfl⟩ : ∃ q, j = q + 1 := ⟨j - 1, by omega⟩
      rw [slices_Equal_string_string.l0, if_pos (by omega), if_pos (by omega), if_pos (by omega), if_pos (by omega), if_pos e, next_ hs (by omega)]
      exact hr j (by omega)
    · refine ⟨false, fun j hj => ?_⟩
      obtain ⟨j, rfl⟩ : ∃ q, j = q + 1 := ⟨j - 1, by omega⟩
      rw [slices_Equal_string_string.l0, if_pos (by omega), if_pos (by omega), if_pos (by omega), if_pos (by omega), if_neg e]
      exact ⟨rfl, fun h => absurd (by rw [h]) e⟩
theorem texts_ends (a b : List ByteArray) (hs : a.length * 16 ≤ 140737488355328) : ∃ (r : Bool) (K : Nat), ∀ n, K ≤ n → slices_Equal_string_string.f n a b = some r ∧ (a = b → r = true) := by
  by_cases hl : a.length = b.length
  · obtain ⟨r, hr⟩ := texts_loop a b hl (by omega) a.length 0 (by omega)
    refine ⟨r, a.length + 1, fun n hn => ?_⟩
    rw [slices_Equal_string_string.f, if_pos (by omega)]
    exact hr n hn
  · refine ⟨false, 0, fun n _ => ?_⟩
    rw [slices_Equal_string_string.f, if_neg (by omega)]
    exact ⟨rfl, fun h => absurd (by rw [h]) hl⟩
/-! ### Ranges -/
theorem ranges_l0 (k : Nat) : ∀ a b n i, relayref05_sameRanges.l0 k a b n i = api_Range.l0 k a b n i := by
  induction k with
  | zero => intro a b n i; rfl
  | succ k ih => intro a b n i; simp only [relayref05_sameRanges.l0, api_Range.l0, ih]
theorem ranges_f (k : Nat) (a b : List S50) : relayref05_sameRanges.f k a b = api_Range.f k a b := by
  simp only [relayref05_sameRanges.f, api_Range.f, ranges_l0]
theorem ranges_loop (a b : List S50) (hl : a.length = b.length) (hs : a.length < 2 ^ 62) : ∀ m i, i + m = a.length → ∃ r : Bool, ∀ j, m + 1 ≤ j → api_Range.l0 j a b (a.length : Int) (i : Int) = some r ∧ (a = b → r = true) := by
  intro m
  induction m with
  | zero =>
    intro i hi
    refine ⟨true, fun j hj => ?_⟩
    obtain ⟨j, rfl⟩ : ∃ q, j = q + 1 := ⟨j - 1, by omega⟩
    rw [api_Range.l0, if_neg (by omega)]
    exact ⟨rfl, fun _ => rfl⟩
  | succ m ih =>
    intro i hi
    obtain ⟨r, hr⟩ := ih (i + 1) (by omega)
    by_cases e : (!(((rd_T50 a (i : Int)).f0) == ((rd_T50 b (i : Int)).f0)) || (!(((rd_T50 a (i : Int)).f1) == ((rd_T50 b (i : Int)).f1)))) = true
    · refine ⟨false, fun j hj => ?_⟩
      obtain ⟨j, rfl⟩ : ∃ q, j = q + 1 := ⟨j - 1, by omega⟩
      rw [api_Range.l0, if_pos (by omega), if_pos (by omega), if_pos (by omega), if_pos (by omega), if_pos e]
      exact ⟨rfl, fun h => by rw [h] at e; simp at e⟩
    · refine ⟨r, fun j hj => ?_⟩
      obtain ⟨j, rfl⟩ : ∃ q, j = q + 1 := ⟨j - 1, by omega⟩
      rw [api_Range.l0, if_pos (by omega), if_pos (by omega), if_pos (by omega), if_pos (by omega), if_neg e, next_ hs (by omega)]
      exact hr j (by omega)
theorem ranges_ends (a b : List S50) (hs : a.length * 16 ≤ 140737488355328) : ∃ (r : Bool) (K : Nat), ∀ n, K ≤ n → api_Range.f n a b = some r ∧ (a = b → r = true) := by
  by_cases hl : a.length = b.length
  · obtain ⟨r, hr⟩ := ranges_loop a b hl (by omega) a.length 0 (by omega)
    refine ⟨r, a.length + 1, fun n hn => ?_⟩
    rw [api_Range.f, if_pos (by omega)]
    exact hr n hn
  · refine ⟨false, 0, fun n _ => ?_⟩
    rw [api_Range.f, if_neg (by omega)]
    exact ⟨rfl, fun h => absurd (by rw [h]) hl⟩
/-! ### Expressions -/
/-- A tree of expressions whose lists fit in memory. -/
inductive Ok65 : List S65 → Prop
  | mk {l : List S65} (hl : l.length ≤ 837723144972) (he : ∀ x ∈ l, Ok65 x.f5) (ht : ∀ x ∈ l, x.f6.length * 16 ≤ 140737488355328) : Ok65 l
theorem exprs_loop (l : List S65) (hl : l.length ≤ 837723144972) (ht : ∀ x ∈ l, x.f6.length * 16 ≤ 140737488355328)
    (ih : ∀ x ∈ l, ∃ K : Nat, ∀ n, K ≤ n → relayplain_Exprs.rec n x.f5 = some x.f5) :
    ∀ m i, i + m = l.length → ∃ K : Nat, ∀ n, K ≤ n → ∀ q j, m + 1 ≤ j → relayplain_Exprs.l0Of (relayplain_Expr.fOf (relayplain_Exprs.rec n) q) j (l.take i) l (l.length : Int) (i : Int) = some l := by
  intro m
  induction m with
  | zero =>
    intro i hi
    refine ⟨0, fun n _ q j hj => ?_⟩
    obtain ⟨j, rfl⟩ : ∃ q, j = q + 1 := ⟨j - 1, by omega⟩
    rw [relayplain_Exprs.l0Of, if_neg (by omega), List.take_of_length_le (by omega)]
  | succ m ihm =>
    intro i hi
    have hi' : i < l.length := by omega
    obtain ⟨K1, h1⟩ := ihm (i + 1) (by omega)
    obtain ⟨K2, h2⟩ := ih l[i] (List.getElem_mem hi')
    have h3 := ht l[i] (List.getElem_mem hi')
    refine ⟨K1 + K2, fun n hn q j hj => ?_⟩
    obtain ⟨j, rfl⟩ : ∃ q, j = q + 1 := ⟨j - 1, by omega⟩
    rw [relayplain_Exprs.l0Of, if_pos (by omega), if_pos (by omega), if_pos (by omega), rd65_ hi']
    simp only [relayplain_Expr.fOf, h2 n (by omega), slices_Clone_string_string.f, if_pos h3, Option.bind_some]
    rw [if_pos (by rw [List.length_take]; omega), next_ (n := l.length) (by omega) hi', ← h1 n (by omega) q j (by omega)]
    congr 1
    rw [List.take_succ_eq_append_getElem hi', eta65]
theorem exprs_same {l : List S65} (h : Ok65 l) : ∃ K : Nat, ∀ n, K ≤ n → relayplain_Exprs.f n l = some l := by
  induction h with
  | @mk l hl he ht ih =>
    obtain ⟨K, hK⟩ := exprs_loop l hl ht ih l.length 0 (by omega)
    refine ⟨K + l.length + 2, fun n hn => ?_⟩
    obtain ⟨n, rfl⟩ : ∃ q, n = q + 1 := ⟨n - 1, by omega⟩
    exact hK n (by omega) (n + 1) (n + 1) (by omega)
theorem expr_eq (F : List S65 → List S65 → Option Bool) (q : Nat) : st_sameExprs_1.fOf F q = relayref05_SameExpr.fOf F q := by
  funext a0 a1 a2 a3 a4 a5 a6 a7 a8 a9 a10 a11 a12 a13 b0 b1 b2 b3 b4 b5 b6 b7 b8 b9 b10 b11 b12 b13
  simp only [st_sameExprs_1.fOf, relayref05_SameExpr.fOf, texts_f]
theorem exprs_l0 (F : Int → Int → ByteArray → ByteArray → Int → Int → ByteArray → List (S65) → List ByteArray → Int → Int → Int → Int → Int → Int → Int → ByteArray → ByteArray → Int → Int → ByteArray → List (S65) → List ByteArray → Int → Int → Int → Int → Int → Option (Bool)) (k : Nat) : ∀ a b n i, api_Expr.l0Of F k b a n i = relayref05_sameExprs.l0Of F k a b n i := by
  induction k with
  | zero => intro a b n i; rfl
  | succ k ih => intro a b n i; simp only [api_Expr.l0Of, relayref05_sameExprs.l0Of, ih]
theorem exprs_rec (n : Nat) : st_sameExprs.rec n = relayref05_sameExprs.rec n := by
  induction n with
  | zero => rfl
  | succ n ih =>
    funext a b
    simp only [st_sameExprs.rec, relayref05_sameExprs.rec, st_sameExprs.fOf, api_Expr.fOf, relayref05_sameExprs.fOf, ih, expr_eq, exprs_l0]
    generalize (if (a.length : Int) = (b.length : Int) then relayref05_sameExprs.l0Of _ _ a b _ _ else some false) = o
    cases o <;> rfl
theorem exprs_f (n : Nat) (a b : List S65) : st_sameExprs.f n a b = relayref05_sameExprs.f n a b := by
  simp only [st_sameExprs.f, relayref05_sameExprs.f, exprs_rec]
theorem expr_ends (x y : S65) (ht : x.f6.length * 16 ≤ 140737488355328) (ih : ∃ (r : Bool) (K : Nat), ∀ n, K ≤ n → relayref05_sameExprs.rec n x.f5 y.f5 = some r ∧ (x.f5 = y.f5 → r = true)) :
    ∃ (r : Bool) (K : Nat), ∀ n, K ≤ n → ∀ q, K ≤ q → relayref05_SameExpr.fOf (relayref05_sameExprs.rec n) q x.f0 x.f1 x.f2 x.f3 x.f4.f0 x.f4.f1 x.f4.f2 x.f5 x.f6 x.f7 x.f8 x.f9 x.f10 x.f11 y.f0 y.f1 y.f2 y.f3 y.f4.f0 y.f4.f1 y.f4.f2 y.f5 y.f6 y.f7 y.f8 y.f9 y.f10 y.f11 = some r ∧ (x = y → r = true) := by
  obtain ⟨r1, K1, h1⟩ := texts_ends x.f6 y.f6 ht
  obtain ⟨r2, K2, h2⟩ := ih
  by_cases c1 : x.f0 = y.f0
  · by_cases c2 : x.f2.toList = y.f2.toList
    · by_cases c3 : x.f3.toList = y.f3.toList
      · by_cases c4 : (x.f4.f0 == y.f4.f0 && (x.f4.f1 == y.f4.f1 && (x.f4.f2.toList == y.f4.f2.toList))) = true
        · cases r1 with
          | true =>
            refine ⟨r2, K1 + K2, fun n hn q hq => ?_⟩
            rw [relayref05_SameExpr.fOf, if_pos c1, if_pos c2, if_pos c3, if_pos c4, texts_f, (h1 q (by omega)).1, (h2 n (by omega)).1]
            exact ⟨rfl, fun h => (h2 n (by omega)).2 (by rw [h])⟩
          | false =>
            refine ⟨false, K1, fun n hn q hq => ?_⟩
            rw [relayref05_SameExpr.fOf, if_pos c1, if_pos c2, if_pos c3, if_pos c4, texts_f, (h1 q (by omega)).1]
            exact ⟨rfl, fun h => (h1 q (by omega)).2 (by rw [h])⟩
        · refine ⟨false, 0, fun n hn q hq => ?_⟩
          rw [relayref05_SameExpr.fOf, if_pos c1, if_pos c2, if_pos c3, if_neg c4]
          exact ⟨rfl, fun h => absurd (by rw [h]; simp) c4⟩
      · refine ⟨false, 0, fun n hn q hq => ?_⟩
        rw [relayref05_SameExpr.fOf, if_pos c1, if_pos c2, if_neg c3]
        exact ⟨rfl, fun h => absurd (by rw [h]) c3⟩
    · refine ⟨false, 0, fun n hn q hq => ?_⟩
      rw [relayref05_SameExpr.fOf, if_pos c1, if_neg c2]
      exact ⟨rfl, fun h => absurd (by rw [h]) c2⟩
  · refine ⟨false, 0, fun n hn q hq => ?_⟩
    rw [relayref05_SameExpr.fOf, if_neg c1]
    exact ⟨rfl, fun h => absurd (by rw [h]) c1⟩
theorem sameExprs_loop (a b : List S65) (hl : a.length = b.length) (hs : a.length < 2 ^ 62) (ht : ∀ x ∈ a, x.f6.length * 16 ≤ 140737488355328)
    (ih : ∀ x ∈ a, ∀ z, ∃ (r : Bool) (K : Nat), ∀ n, K ≤ n → relayref05_sameExprs.rec n x.f5 z = some r ∧ (x.f5 = z → r = true)) :
    ∀ m i, i + m = a.length → ∃ (r : Bool) (K : Nat), ∀ n, K ≤ n → ∀ q, K ≤ q → ∀ j, m + 1 ≤ j → relayref05_sameExprs.l0Of (relayref05_SameExpr.fOf (relayref05_sameExprs.rec n) q) j a b (a.length : Int) (i : Int) = some r ∧ (a = b → r = true) := by
  intro m
  induction m with
  | zero =>
    intro i hi
    refine ⟨true, 0, fun n _ q _ j hj => ?_⟩
    obtain ⟨j, rfl⟩ : ∃ q, j = q + 1 := ⟨j - 1, by omega⟩
    rw [relayref05_sameExprs.l0Of, if_neg (by omega)]
    exact ⟨rfl, fun _ => rfl⟩
  | succ m ihm =>
    intro i hi
    have hi' : i < a.length := by omega
    have hi2 : i < b.length := by omega
    obtain ⟨r1, K1, h1⟩ := ihm (i + 1) (by omega)
    obtain ⟨r2, K2, h2⟩ := expr_ends a[i] b[i] (ht _ (List.getElem_mem hi')) (ih _ (List.getElem_mem hi') _)
    cases r2 with
    | true =>
      refine ⟨r1, K1 + K2, fun n hn q hq j hj => ?_⟩
      obtain ⟨j, rfl⟩ : ∃ q, j = q + 1 := ⟨j - 1, by omega⟩
      rw [relayref05_sameExprs.l0Of, if_pos (by omega), if_pos (by omega), if_pos (by omega), if_pos (by omega), rd65_ hi', rd65_ hi2, (h2 n (by omega) q (by omega)).1, Option.bind_some, if_pos rfl, next_ hs hi']
      exact h1 n (by omega) q (by omega) j (by omega)
    | false =>
      refine ⟨false, K2, fun n hn q hq j hj => ?_⟩
      obtain ⟨j, rfl⟩ : ∃ q, j = q + 1 := ⟨j - 1, by omega⟩
      rw [relayref05_sameExprs.l0Of, if_pos (by omega), if_pos (by omega), if_pos (by omega), if_pos (by omega), rd65_ hi', rd65_ hi2, (h2 n (by omega) q (by omega)).1, Option.bind_some, if_neg (by simp)]
      exact ⟨rfl, fun h => (h2 n (by omega) q (by omega)).2 (by subst h; rfl)⟩
theorem sameExprs_ends {a : List S65} (h : Ok65 a) : ∀ b, ∃ (r : Bool) (K : Nat), ∀ n, K ≤ n → relayref05_sameExprs.f n a b = some r ∧ (a = b → r = true) := by
  induction h with
  | @mk a hs he ht ih =>
    intro b
    by_cases hl : a.length = b.length
    · obtain ⟨r, K, hr⟩ := sameExprs_loop a b hl (by omega) ht ih a.length 0 (by omega)
      refine ⟨r, K + a.length + 2, fun n hn => ?_⟩
      obtain ⟨n, rfl⟩ : ∃ q, n = q + 1 := ⟨n - 1, by omega⟩
      rw [relayref05_sameExprs.f, relayref05_sameExprs.rec, relayref05_sameExprs.fOf, if_pos (by omega)]
      exact hr n (by omega) (n + 1) (by omega) (n + 1) (by omega)
    · refine ⟨false, 1, fun n hn => ?_⟩
      obtain ⟨n, rfl⟩ : ∃ q, n = q + 1 := ⟨n - 1, by omega⟩
      rw [relayref05_sameExprs.f, relayref05_sameExprs.rec, relayref05_sameExprs.fOf, if_neg (by omega)]
      exact ⟨rfl, fun h => absurd (by rw [h]) hl⟩
end Go.Proofs.Ytmdkbhbconnmmaa.XIl
