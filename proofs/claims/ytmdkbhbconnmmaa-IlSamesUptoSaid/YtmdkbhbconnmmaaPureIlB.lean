/- Statements: the copies are the lists; both comparisons end and tell the same, and a list is as it is. -/
import Derived.Test.YtmdkbhbconnmmaaPureIlA
import Derived.Test.YtmdkbhbconnmmaaXIlx7
import Derived.Test.YtmdkbhbconnmmaaXIlx13
namespace Go.Proofs.Ytmdkbhbconnmmaa.XIl
open Go.RowKit Go.Proofs.YtmdkbhbconnmmaaW.PrintWords Go.Proofs.YtmdkbhbconnmmaaW.PrintLast Go.Proofs.YtmdkbhbconnmmaaW.PrintMore
set_option linter.unusedVariables false
theorem rd46_ {l : List S46} {i : Nat} (h : i < l.length) : rd_T46 l (i : Int) = l[i] := by
  simp [rd_T46, h]
/-- A tree of statements whose lists fit in memory. -/
inductive Ok46 : List S46 → Prop
  | mk {l : List S46} (hl : l.length ≤ 606627104979) (h4 : ∀ x ∈ l, Ok65 x.f4) (h5 : ∀ x ∈ l, x.f5.length * 16 ≤ 140737488355328) (h6 : ∀ x ∈ l, Ok65 x.f6) (h7 : ∀ x ∈ l, x.f7.length * 16 ≤ 140737488355328)
    (h8 : ∀ x ∈ l, x.f8.length * 16 ≤ 140737488355328) (h9 : ∀ x ∈ l, Ok46 x.f9) (h10 : ∀ x ∈ l, Ok46 x.f10) : Ok46 l
theorem ite_some_ (c : Prop) [Decidable c] (p q : Bool) : (if c then some p else some q) = some (if c then p else q) := by
  split <;> rfl
/-- One statement compared with another, out of what their parts told. -/
def told (x y : S46) (r4 t5 r6 t7 r8 s9 s10 : Bool) : Bool := decide (x.f0 = y.f0) && decide (x.f2.toList = y.f2.toList) && (decide (x.f3 = y.f3) || x.f0 == 5) && r4 && t5 && r6 && t7 && r8 && s9 && s10
theorem st_told (x y : S46) (F : List S46 → List S46 → Option Bool) (q : Nat) (r4 t5 r6 t7 r8 s9 s10 : Bool) (h4 : st_sameExprs.f q x.f4 y.f4 = some r4) (h5 : slices_Equal_string_string.f (q + 1) x.f5 y.f5 = some t5) (h6 : st_sameExprs.f q x.f6 y.f6 = some r6) (h7 : slices_Equal_string_string.f (q + 1) x.f7 y.f7 = some t7) (h8 : api_Range.f (q + 1) x.f8 y.f8 = some r8) (h9 : F x.f9 y.f9 = some s9) (h10 : F x.f10 y.f10 = some s10) :
    st_Same_1.fOf F (q + 2) x.f0 x.f1 x.f2 x.f3 x.f4 x.f5 x.f6 x.f7 x.f8 x.f9 x.f10 x.f11 x.f12 x.f13 y.f0 y.f1 y.f2 y.f3 y.f4 y.f5 y.f6 y.f7 y.f8 y.f9 y.f10 y.f11 y.f12 y.f13 = some (told x y r4 t5 r6 t7 r8 s9 s10) := by
  have j1 : ∀ b c : Bool, st_Same_1.j1Of F (q + 1) b c x.f0 x.f1 x.f2 x.f3 x.f4 x.f5 x.f6 x.f7 x.f8 x.f9 x.f10 x.f11 x.f12 x.f13 y.f0 y.f1 y.f2 y.f3 y.f4 y.f5 y.f6 y.f7 y.f8 y.f9 y.f10 y.f11 y.f12 y.f13 = some (b && c && r4 && r6 && s9 && s10) := by
    intro b c
    rw [st_Same_1.j1Of, h4, h6, h9, h10]
    cases b <;> cases c <;> cases r4 <;> cases r6 <;> cases s9 <;> rfl
  have j0 : ∀ b : Bool, st_Same_1.j0Of F (q + 2) b x.f0 x.f1 x.f2 x.f3 x.f4 x.f5 x.f6 x.f7 x.f8 x.f9 x.f10 x.f11 x.f12 x.f13 y.f0 y.f1 y.f2 y.f3 y.f4 y.f5 y.f6 y.f7 y.f8 y.f9 y.f10 y.f11 y.f12 y.f13 = some (b && (t5 && t7 && r8) && r4 && r6 && s9 && s10) := by
    intro b
    rw [st_Same_1.j0Of, h5, h7, h8]
    simp only [Option.bind_some, j1]
    cases t5 <;> cases t7 <;> simp
  rw [st_Same_1.fOf]
  simp only [j0, told]
  by_cases c0 : x.f0 = y.f0
  · by_cases c2 : x.f2.toList = y.f2.toList
    · by_cases c3 : x.f3 = y.f3
      · rw [if_pos c0, if_pos c2, if_pos c3, decide_eq_true c0, decide_eq_true c2, decide_eq_true c3]
        cases t5 <;> cases t7 <;> cases r8 <;> cases r4 <;> cases r6 <;> rfl
      · rw [if_pos c0, if_pos c2, if_neg c3, decide_eq_true c0, decide_eq_true c2, decide_eq_false c3]
        cases (x.f0 == 5) <;> cases t5 <;> cases t7 <;> cases r8 <;> cases r4 <;> cases r6 <;> rfl
    · rw [if_pos c0, if_neg c2, decide_eq_false c2]
      simp
  · rw [if_neg c0, decide_eq_false c0]
    simp
theorem ref_told (a b : List S46) (hl : a.length = b.length) (hs : a.length < 2 ^ 62) (i : Nat) (hi : i < a.length) (hi2 : i < b.length) (k : Nat) (r4 t5 r6 t7 r8 s9 s10 : Bool) (h4 : relayref05_sameExprs.f (k + 1) a[i].f4 b[i].f4 = some r4) (h5 : slices_Equal_string_string.f (k + 1) a[i].f5 b[i].f5 = some t5) (h6 : relayref05_sameExprs.f k a[i].f6 b[i].f6 = some r6) (h7 : slices_Equal_string_string.f k a[i].f7 b[i].f7 = some t7) (h8 : api_Range.f k a[i].f8 b[i].f8 = some r8) (h9 : relayref05_Same.f k a[i].f9 b[i].f9 = some s9) (h10 : relayref05_Same.f k a[i].f10 b[i].f10 = some s10) :
    relayref05_Same.l0 (k + 2) a b (a.length : Int) (i : Int) = if told a[i] b[i] r4 t5 r6 t7 r8 s9 s10 = true then relayref05_Same.l0 k a b (a.length : Int) ((i + 1 : Nat) : Int) else some false := by
  generalize hx : a[i] = x at *
  generalize hy : b[i] = y at *
  have j1 : ∀ c : Bool, relayref05_Same.j1 (k + 1) a b (a.length : Int) (i : Int) c x.f0 x.f1 x.f2 x.f3 x.f4 x.f5 x.f6 x.f7 x.f8 x.f9 x.f10 x.f11 x.f12 x.f13 y.f0 y.f1 y.f2 y.f3 y.f4 y.f5 y.f6 y.f7 y.f8 y.f9 y.f10 y.f11 y.f12 y.f13 = if (!c && r6 && t7 && r8 && s9 && s10) = true then relayref05_Same.l0 k a b (a.length : Int) ((i + 1 : Nat) : Int) else some false := by
    intro c
    rw [relayref05_Same.j1, h6, texts_f, h7, ranges_f, h8, h9, h10, next_ hs hi]
    generalize relayref05_Same.l0 k a b (a.length : Int) ((i + 1 : Nat) : Int) = L
    cases c <;> cases r6 <;> cases t7 <;> cases r8 <;> cases s9 <;> cases s10 <;> rfl
  rw [relayref05_Same.l0, if_pos (by omega), if_pos (by omega), if_pos (by omega), if_pos (by omega)]
  simp only [rd46_ hi, rd46_ hi2, hx, hy, h4, texts_f, h5, Option.bind_some, j1]
  generalize hv : told x y r4 t5 r6 t7 r8 s9 s10 = v
  unfold told at hv
  subst hv
  generalize relayref05_Same.l0 k a b (a.length : Int) ((i + 1 : Nat) : Int) = L
  by_cases c0 : x.f0 = y.f0
  · by_cases c2 : x.f2.toList = y.f2.toList
    · by_cases c5 : x.f0 = 5
      · rw [if_pos c0, if_pos c2, if_pos c5, decide_eq_true c0, decide_eq_true c2, beq_iff_eq.mpr c5, Bool.or_true]
        cases r4 <;> cases t5 <;> cases r6 <;> cases t7 <;> cases r8 <;> rfl
      · by_cases c3 : x.f3 = y.f3
        · rw [if_pos c0, if_pos c2, if_neg c5, if_pos c3, decide_eq_true c0, decide_eq_true c2, decide_eq_true c3, Bool.true_or]
          cases r4 <;> cases t5 <;> cases r6 <;> cases t7 <;> cases r8 <;> rfl
        · rw [if_pos c0, if_pos c2, if_neg c5, if_neg c3, decide_eq_true c0, decide_eq_true c2, decide_eq_false c3, beq_eq_false_iff_ne.mpr c5]
          simp
    · rw [if_pos c0, if_neg c2, decide_eq_false c2]
      simp
  · rw [if_neg c0, decide_eq_false c0]
    simp
theorem told_self (x : S46) : told x x true true true true true true true = true := by
  simp [told]
/-- What the two comparisons tell of the rest of two lists. -/
def Both (a b : List S46) (i : Nat) (r : Bool) (K : Nat) : Prop := (∀ n, K ≤ n → ∀ q, K ≤ q → ∀ j, K ≤ j → api_Stmt.l0Of (st_Same_1.fOf (st_Same.rec n) q) j b a (a.length : Int) (i : Int) = some r) ∧ (∀ n, K ≤ n → relayref05_Same.l0 n a b (a.length : Int) (i : Int) = some r) ∧ (a = b → r = true)
theorem same_loop (a b : List S46) (hl : a.length = b.length) (hs : a.length < 2 ^ 62) (h4 : ∀ x ∈ a, Ok65 x.f4) (h5 : ∀ x ∈ a, x.f5.length * 16 ≤ 140737488355328) (h6 : ∀ x ∈ a, Ok65 x.f6) (h7 : ∀ x ∈ a, x.f7.length * 16 ≤ 140737488355328)
    (h8 : ∀ x ∈ a, x.f8.length * 16 ≤ 140737488355328)
    (ih9 : ∀ x ∈ a, ∀ z, ∃ (r : Bool) (K : Nat), ∀ n, K ≤ n → st_Same.rec n x.f9 z = some r ∧ relayref05_Same.f n x.f9 z = some r ∧ (x.f9 = z → r = true))
    (ih10 : ∀ x ∈ a, ∀ z, ∃ (r : Bool) (K : Nat), ∀ n, K ≤ n → st_Same.rec n x.f10 z = some r ∧ relayref05_Same.f n x.f10 z = some r ∧ (x.f10 = z → r = true)) :
    ∀ m i, i + m = a.length → ∃ (r : Bool) (K : Nat), Both a b i r K := by
  intro m
  induction m with
  | zero =>
    intro i hi
    refine ⟨true, 1, fun n _ q _ j hj => ?_, fun n hn => ?_, fun _ => rfl⟩
    · obtain ⟨j, rfl⟩ : ∃ q, j = q + 1 := ⟨j - 1, by omega⟩
      rw [api_Stmt.l0Of, if_neg (by omega)]
    · obtain ⟨n, rfl⟩ : ∃ q, n = q + 1 := ⟨n - 1, by omega⟩
      rw [relayref05_Same.l0, if_neg (by omega)]
  | succ m ihm =>
    intro i hi
    have hi' : i < a.length := by omega
    have hi2 : i < b.length := by omega
    have hm := List.getElem_mem hi'
    obtain ⟨r1, K1, g1, g2, g3⟩ := ihm (i + 1) (by omega)
    obtain ⟨r4, K4, e4⟩ := sameExprs_ends (h4 _ hm) b[i].f4
    obtain ⟨t5, K5, e5⟩ := texts_ends a[i].f5 b[i].f5 (h5 _ hm)
    obtain ⟨r6, K6, e6⟩ := sameExprs_ends (h6 _ hm) b[i].f6
    obtain ⟨t7, K7, e7⟩ := texts_ends a[i].f7 b[i].f7 (h7 _ hm)
    obtain ⟨r8, K8, e8⟩ := ranges_ends a[i].f8 b[i].f8 (h8 _ hm)
    obtain ⟨s9, K9, e9⟩ := ih9 _ hm b[i].f9
    obtain ⟨s10, K10, e10⟩ := ih10 _ hm b[i].f10
    have K0 : ∃ K, K = K1 + K4 + K5 + K6 + K7 + K8 + K9 + K10 := ⟨_, rfl⟩
    obtain ⟨K, hK⟩ := K0
    have hst : ∀ n, K ≤ n → ∀ q, K + 2 ≤ q → st_Same_1.fOf (st_Same.rec n) q a[i].f0 a[i].f1 a[i].f2 a[i].f3 a[i].f4 a[i].f5 a[i].f6 a[i].f7 a[i].f8 a[i].f9 a[i].f10 a[i].f11 a[i].f12 a[i].f13 b[i].f0 b[i].f1 b[i].f2 b[i].f3 b[i].f4 b[i].f5 b[i].f6 b[i].f7 b[i].f8 b[i].f9 b[i].f10 b[i].f11 b[i].f12 b[i].f13 = some (told a[i] b[i] r4 t5 r6 t7 r8 s9 s10) := by
      intro n hn q hq
      obtain ⟨q, rfl⟩ : ∃ z, q = z + 2 := ⟨q - 2, by omega⟩
      exact st_told _ _ _ _ _ _ _ _ _ _ _ (by rw [exprs_f]; exact (e4 q (by omega)).1) (e5 (q + 1) (by omega)).1 (by rw [exprs_f]; exact (e6 q (by omega)).1) (e7 (q + 1) (by omega)).1 (e8 (q + 1) (by omega)).1 (e9 n (by omega)).1 (e10 n (by omega)).1
    have href : ∀ k, K ≤ k → relayref05_Same.l0 (k + 2) a b (a.length : Int) (i : Int) = if told a[i] b[i] r4 t5 r6 t7 r8 s9 s10 = true then relayref05_Same.l0 k a b (a.length : Int) ((i + 1 : Nat) : Int) else some false := by
      intro k hk
      exact ref_told a b hl hs i hi' hi2 k r4 t5 r6 t7 r8 s9 s10 (e4 (k + 1) (by omega)).1 (e5 (k + 1) (by omega)).1 (e6 k (by omega)).1 (e7 k (by omega)).1 (e8 k (by omega)).1 (e9 k (by omega)).2.1 (e10 k (by omega)).2.1
    have hself : a = b → told a[i] b[i] r4 t5 r6 t7 r8 s9 s10 = true := by
      intro h
      subst h
      rw [(e4 K (by omega)).2 rfl, (e5 K (by omega)).2 rfl, (e6 K (by omega)).2 rfl, (e7 K (by omega)).2 rfl, (e8 K (by omega)).2 rfl, (e9 K (by omega)).2.2 rfl, (e10 K (by omega)).2.2 rfl]
      exact told_self _
    generalize told a[i] b[i] r4 t5 r6 t7 r8 s9 s10 = v at hst href hself
    cases v with
    | true =>
      refine ⟨r1, K + 2, fun n hn q hq j hj => ?_, fun n hn => ?_, g3⟩
      · obtain ⟨j, rfl⟩ : ∃ z, j = z + 1 := ⟨j - 1, by omega⟩
        rw [api_Stmt.l0Of, if_pos (by omega), if_pos (by omega), if_pos (by omega), if_pos (by omega), rd46_ hi', rd46_ hi2, hst n (by omega) q (by omega), Option.bind_some, if_pos rfl, next_ hs hi']
        exact g1 n (by omega) q (by omega) j (by omega)
      · obtain ⟨n, rfl⟩ : ∃ z, n = z + 2 := ⟨n - 2, by omega⟩
        rw [href n (by omega), if_pos rfl]
        exact g2 n (by omega)
    | false =>
      refine ⟨false, K + 2, fun n hn q hq j hj => ?_, fun n hn => ?_, hself⟩
      · obtain ⟨j, rfl⟩ : ∃ z, j = z + 1 := ⟨j - 1, by omega⟩
        rw [api_Stmt.l0Of, if_pos (by omega), if_pos (by omega), if_pos (by omega), if_pos (by omega), rd46_ hi', rd46_ hi2, hst n (by omega) q (by omega), Option.bind_some, if_neg (by simp)]
      · obtain ⟨n, rfl⟩ : ∃ z, n = z + 2 := ⟨n - 2, by omega⟩
        rw [href n (by omega), if_neg (by simp)]
theorem same_ends {a : List S46} (h : Ok46 a) : ∀ b, ∃ (r : Bool) (K : Nat), ∀ n, K ≤ n → st_Same.rec n a b = some r ∧ relayref05_Same.f n a b = some r ∧ (a = b → r = true) := by
  induction h with
  | @mk a hs h4 h5 h6 h7 h8 h9 h10 ih9 ih10 =>
    intro b
    by_cases hl : a.length = b.length
    · obtain ⟨r, K, g1, g2, g3⟩ := same_loop a b hl (by omega) h4 h5 h6 h7 h8 ih9 ih10 a.length 0 (by omega)
      refine ⟨r, K + 1, fun n hn => ⟨?_, ?_, g3⟩⟩
      · obtain ⟨n, rfl⟩ : ∃ q, n = q + 1 := ⟨n - 1, by omega⟩
        rw [st_Same.rec, st_Same.fOf, api_Stmt.fOf, if_pos (by omega)]
        have := g1 n (by omega) (n + 1) (by omega) (n + 1) (by omega)
        simp only [Int.natCast_zero] at this
        rw [this]
        rfl
      · obtain ⟨n, rfl⟩ : ∃ q, n = q + 1 := ⟨n - 1, by omega⟩
        rw [relayref05_Same.f, if_pos (by omega)]
        exact g2 n (by omega)
    · refine ⟨false, 1, fun n hn => ⟨?_, ?_, fun h => absurd (by rw [h]) hl⟩⟩
      · obtain ⟨n, rfl⟩ : ∃ q, n = q + 1 := ⟨n - 1, by omega⟩
        rw [st_Same.rec, st_Same.fOf, api_Stmt.fOf, if_neg (by omega)]
        rfl
      · obtain ⟨n, rfl⟩ : ∃ q, n = q + 1 := ⟨n - 1, by omega⟩
        rw [relayref05_Same.f, if_neg (by omega)]
end Go.Proofs.Ytmdkbhbconnmmaa.XIl
