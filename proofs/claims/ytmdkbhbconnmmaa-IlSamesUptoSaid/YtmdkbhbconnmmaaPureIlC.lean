/- What the comparisons of lists tell, place by place. -/
import Derived.Test.YtmdkbhbconnmmaaPureIlA
namespace Go.Proofs.Ytmdkbhbconnmmaa.XIl
open Go.RowKit Go.Proofs.YtmdkbhbconnmmaaW.PrintWords Go.Proofs.YtmdkbhbconnmmaaW.PrintLast Go.Proofs.YtmdkbhbconnmmaaW.PrintMore
set_option linter.unusedVariables false
/-- From some number on it tells this. -/
def Ends {α : Type} (f : Nat → Option α) (r : α) : Prop := ∃ K : Nat, ∀ n, K ≤ n → f n = some r
theorem Ends.uniq {α : Type} {f : Nat → Option α} {r r' : α} (h : Ends f r) (h' : Ends f r') : r = r' := by
  obtain ⟨K, h⟩ := h
  obtain ⟨K', h'⟩ := h'
  exact Option.some.inj ((h (K + K') (by omega)).symm.trans (h' (K + K') (by omega)))
def allB (v : Nat → Bool) : Nat → Nat → Bool
  | 0, _ => true
  | m + 1, i => if v i = true then allB v m (i + 1) else false
theorem loop_all {L : Nat → Nat → Option Bool} {len : Nat} {v : Nat → Bool} (hs : ∀ j i, i < len → L (j + 1) i = if v i = true then L j (i + 1) else some false) (h0 : ∀ j, L (j + 1) len = some true) :
    ∀ m i, i + m = len → ∀ j, m + 1 ≤ j → L j i = some (allB v m i) := by
  intro m
  induction m with
  | zero =>
    intro i hi j hj
    obtain ⟨j, rfl⟩ : ∃ q, j = q + 1 := ⟨j - 1, by omega⟩
    obtain rfl : i = len := by omega
    exact h0 j
  | succ m ih =>
    intro i hi j hj
    obtain ⟨j, rfl⟩ : ∃ q, j = q + 1 := ⟨j - 1, by omega⟩
    rw [hs j i (by omega), allB]
    by_cases h : v i = true
    · rw [if_pos h, if_pos h]
      exact ih (i + 1) (by omega) j (by omega)
    · rw [if_neg h, if_neg h]
theorem allB_true {v : Nat → Bool} : ∀ {m i : Nat}, allB v m i = true ↔ ∀ k, i ≤ k → k < i + m → v k = true := by
  intro m
  induction m with
  | zero => intro i; exact ⟨fun _ k h1 h2 => by omega, fun _ => rfl⟩
  | succ m ih =>
    intro i
    rw [allB]
    constructor
    · intro h k h1 h2
      by_cases hv : v i = true
      · rw [if_pos hv] at h
        by_cases hk : k = i
        · rw [hk]; exact hv
        · exact ih.1 h k (by omega) (by omega)
      · rw [if_neg hv] at h
        cases h
    · intro h
      rw [if_pos (h i (Nat.le_refl _) (by omega))]
      exact ih.2 (fun k h1 h2 => h k (by omega) (by omega))
theorem allB_congr {v v' : Nat → Bool} {m i : Nat} (h : ∀ k, i ≤ k → k < i + m → v k = v' k) : allB v m i = allB v' m i := by
  rw [Bool.eq_iff_iff, allB_true, allB_true]
  exact ⟨fun h1 k h2 h3 => (h k h2 h3) ▸ h1 k h2 h3, fun h1 k h2 h3 => (h k h2 h3).symm ▸ h1 k h2 h3⟩
theorem all_K {P : Nat → Nat → Prop} (len : Nat) (h : ∀ i, i < len → ∃ K, ∀ n, K ≤ n → P i n) : ∃ K, ∀ i, i < len → ∀ n, K ≤ n → P i n := by
  induction len with
  | zero => exact ⟨0, fun i hi => by omega⟩
  | succ len ih =>
    obtain ⟨K, hK⟩ := ih (fun i hi => h i (by omega))
    obtain ⟨K', hK'⟩ := h len (by omega)
    refine ⟨K + K', fun i hi n hn => ?_⟩
    by_cases e : i = len
    · subst e
      exact hK' n (by omega)
    · exact hK i (by omega) n (by omega)
/-! ### Texts -/
def txV (a b : List ByteArray) : Bool := decide (a.map ByteArray.toList = b.map ByteArray.toList)
theorem tx_self (a : List ByteArray) : txV a a = true := by simp [txV]
theorem tx_pad {a b p : List ByteArray} : txV (a ++ p) (b ++ p) = txV a b := by
  unfold txV
  rw [Bool.eq_iff_iff, decide_eq_true_iff, decide_eq_true_iff, List.map_append, List.map_append]
  exact ⟨fun h => List.append_cancel_right h, fun h => by rw [h]⟩
theorem tx_len {a b : List ByteArray} (h : txV a b = true) : a.length = b.length := by
  have := congrArg List.length (of_decide_eq_true h)
  simpa using this
theorem tx_ends (a b : List ByteArray) (hs : a.length * 16 ≤ 140737488355328) : Ends (fun n => slices_Equal_string_string.f n a b) (txV a b) := by
  by_cases hl : a.length = b.length
  · have hv : txV a b = allB (fun i => decide ((a.getD i ByteArray.empty).toList = (b.getD i ByteArray.empty).toList)) a.length 0 := by
      unfold txV
      rw [Bool.eq_iff_iff, allB_true, decide_eq_true_iff]
      constructor
      · intro h k _ hk
        have h1 := congrArg (fun l => l[k]?) h
        simp only [List.getElem?_map] at h1
        rw [List.getElem?_eq_getElem (by omega), List.getElem?_eq_getElem (by omega)] at h1
        simp only [Option.map_some, Option.some.injEq] at h1
        rw [decide_eq_true_iff, List.getD_eq_getElem?_getD, List.getD_eq_getElem?_getD, List.getElem?_eq_getElem (by omega), List.getElem?_eq_getElem (by omega)]
        exact h1
      · intro h
        refine List.ext_getElem (by simp [hl]) (fun k h1 h2 => ?_)
        have hk : k < a.length := by simpa using h1
        have h3 := h k (Nat.zero_le _) (by omega)
        rw [decide_eq_true_iff, List.getD_eq_getElem?_getD, List.getD_eq_getElem?_getD, List.getElem?_eq_getElem (by omega), List.getElem?_eq_getElem (by omega)] at h3
        simpa using h3
    refine ⟨a.length + 2, fun n hn => ?_⟩
    show slices_Equal_string_string.f n a b = _
    rw [slices_Equal_string_string.f, if_pos (by omega), hv]
    refine loop_all (L := fun j i => slices_Equal_string_string.l0 j a b (a.length : Int) (i : Int)) (len := a.length) (fun j i hi => ?_) (fun j => ?_) a.length 0 (by omega) n (by omega)
    · show slices_Equal_string_string.l0 (j + 1) a b (a.length : Int) (i : Int) = _
      rw [slices_Equal_string_string.l0, if_pos (by omega), if_pos (by omega), if_pos (by omega), if_pos (by omega), next_ (by omega) hi]
      simp only [decide_eq_true_iff]
      rfl
    · show slices_Equal_string_string.l0 (j + 1) a b (a.length : Int) (a.length : Int) = _
      rw [slices_Equal_string_string.l0, if_neg (by omega)]
  · refine ⟨1, fun n hn => ?_⟩
    show slices_Equal_string_string.f n a b = _
    rw [slices_Equal_string_string.f, if_neg (by omega)]
    congr 1
    refine (decide_eq_false (fun h => hl ?_)).symm
    simpa using congrArg List.length h
/-! ### Expressions -/
/-- What the comparison of two expressions tells in the end. -/
noncomputable def sng (x y : S65) : Bool := @decide (∃ K : Nat, ∀ n, K ≤ n → ∀ q, K ≤ q → relayref05_SameExpr.fOf (relayref05_sameExprs.rec n) q x.f0 x.f1 x.f2 x.f3 x.f4.f0 x.f4.f1 x.f4.f2 x.f5 x.f6 x.f7 x.f8 x.f9 x.f10 x.f11 y.f0 y.f1 y.f2 y.f3 y.f4.f0 y.f4.f1 y.f4.f2 y.f5 y.f6 y.f7 y.f8 y.f9 y.f10 y.f11 = some true) (Classical.propDecidable _)
theorem sng_ends (x y : S65) (ht : x.f6.length * 16 ≤ 140737488355328) (hk : Ok65 x.f5) : (∃ K : Nat, ∀ n, K ≤ n → ∀ q, K ≤ q → relayref05_SameExpr.fOf (relayref05_sameExprs.rec n) q x.f0 x.f1 x.f2 x.f3 x.f4.f0 x.f4.f1 x.f4.f2 x.f5 x.f6 x.f7 x.f8 x.f9 x.f10 x.f11 y.f0 y.f1 y.f2 y.f3 y.f4.f0 y.f4.f1 y.f4.f2 y.f5 y.f6 y.f7 y.f8 y.f9 y.f10 y.f11 = some (sng x y)) ∧ (x = y → sng x y = true) := by
  obtain ⟨r, K, h⟩ := expr_ends x y ht (sameExprs_ends hk y.f5)
  have e : sng x y = r := by
    unfold sng
    cases r with
    | true => exact @decide_eq_true _ (Classical.propDecidable _) ⟨K, fun n hn q hq => (h n hn q hq).1⟩
    | false =>
      refine @decide_eq_false _ (Classical.propDecidable _) (fun h' => ?_)
      obtain ⟨K', h'⟩ := h'
      have h1 := (h (K + K') (by omega) (K + K') (by omega)).1
      rw [h' (K + K') (by omega) (K + K') (by omega)] at h1
      cases h1
  rw [e]
  exact ⟨⟨K, fun n hn q hq => (h n hn q hq).1⟩, (h K (Nat.le_refl _) K (Nat.le_refl _)).2⟩
noncomputable def seV (a b : List S65) : Bool := if a.length = b.length then allB (fun i => sng (a.getD i z65) (b.getD i z65)) a.length 0 else false
theorem se_one (x y : S65) : seV [x] [y] = sng x y := by
  unfold seV
  rw [if_pos (show [x].length = [y].length from rfl)]
  show (if sng x y = true then true else false) = sng x y
  cases sng x y <;> rfl
theorem getD65 {l : List S65} {i : Nat} (h : i < l.length) : l.getD i z65 ∈ l := by
  rw [List.getD_eq_getElem?_getD, List.getElem?_eq_getElem h]
  exact List.getElem_mem h
theorem se_self {a : List S65} (h : Ok65 a) : seV a a = true := by
  obtain ⟨hs, he, ht⟩ := h
  unfold seV
  rw [if_pos rfl, allB_true]
  intro k _ hk
  have hm := getD65 (l := a) (i := k) (by omega)
  exact (sng_ends _ _ (ht _ hm) (he _ hm)).2 rfl
theorem se_ends {a : List S65} (h : Ok65 a) (b : List S65) : Ends (fun n => relayref05_sameExprs.f n a b) (seV a b) := by
  obtain ⟨hs, he, ht⟩ := h
  unfold seV
  by_cases hl : a.length = b.length
  · rw [if_pos hl]
    obtain ⟨K, hK⟩ := all_K (P := fun i K => ∀ n, K ≤ n → ∀ q, K ≤ q → relayref05_SameExpr.fOf (relayref05_sameExprs.rec n) q (a.getD i z65).f0 (a.getD i z65).f1 (a.getD i z65).f2 (a.getD i z65).f3 (a.getD i z65).f4.f0 (a.getD i z65).f4.f1 (a.getD i z65).f4.f2 (a.getD i z65).f5 (a.getD i z65).f6 (a.getD i z65).f7 (a.getD i z65).f8 (a.getD i z65).f9 (a.getD i z65).f10 (a.getD i z65).f11 (b.getD i z65).f0 (b.getD i z65).f1 (b.getD i z65).f2 (b.getD i z65).f3 (b.getD i z65).f4.f0 (b.getD i z65).f4.f1 (b.getD i z65).f4.f2 (b.getD i z65).f5 (b.getD i z65).f6 (b.getD i z65).f7 (b.getD i z65).f8 (b.getD i z65).f9 (b.getD i z65).f10 (b.getD i z65).f11 = some (sng (a.getD i z65) (b.getD i z65))) a.length (fun i hi => by
      obtain ⟨K, hK⟩ := (sng_ends (a.getD i z65) (b.getD i z65) (ht _ (getD65 hi)) (he _ (getD65 hi))).1
      exact ⟨K, fun m hm n hn q hq => hK n (by omega) q (by omega)⟩)
    refine ⟨K + a.length + 2, fun n hn => ?_⟩
    obtain ⟨n, rfl⟩ : ∃ q, n = q + 1 := ⟨n - 1, by omega⟩
    show relayref05_sameExprs.f (n + 1) a b = _
    rw [relayref05_sameExprs.f, relayref05_sameExprs.rec, relayref05_sameExprs.fOf, if_pos (by omega)]
    refine loop_all (L := fun j i => relayref05_sameExprs.l0Of (relayref05_SameExpr.fOf (relayref05_sameExprs.rec n) (n + 1)) j a b (a.length : Int) (i : Int)) (len := a.length) (fun j i hi => ?_) (fun j => ?_) a.length 0 (by omega) (n + 1) (by omega)
    · show relayref05_sameExprs.l0Of _ (j + 1) a b (a.length : Int) (i : Int) = _
      have e := hK i hi K (Nat.le_refl _) n (by omega) (n + 1) (by omega)
      rw [relayref05_sameExprs.l0Of, if_pos (by omega), if_pos (by omega), if_pos (by omega), if_pos (by omega), next_ (by omega) hi]
      refine (congrArg (fun o => Option.bind o _) (show _ = some (sng (a.getD i z65) (b.getD i z65)) from e)).trans ?_
      rfl
    · show relayref05_sameExprs.l0Of _ (j + 1) a b (a.length : Int) (a.length : Int) = _
      rw [relayref05_sameExprs.l0Of, if_neg (by omega)]
  · rw [if_neg hl]
    refine ⟨1, fun n hn => ?_⟩
    obtain ⟨n, rfl⟩ : ∃ q, n = q + 1 := ⟨n - 1, by omega⟩
    show relayref05_sameExprs.f (n + 1) a b = _
    rw [relayref05_sameExprs.f, relayref05_sameExprs.rec, relayref05_sameExprs.fOf, if_neg (by omega)]
end Go.Proofs.Ytmdkbhbconnmmaa.XIl
