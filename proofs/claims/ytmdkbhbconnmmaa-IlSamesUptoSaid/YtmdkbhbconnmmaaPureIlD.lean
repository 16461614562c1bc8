/- What the comparisons of statements tell of expressions taken as statements, and of calls. -/
import Derived.Test.YtmdkbhbconnmmaaPureIlB
import Derived.Test.YtmdkbhbconnmmaaPureIlC
import Derived.Test.YtmdkbhbconnmmaaXIlx9
namespace Go.Proofs.Ytmdkbhbconnmmaa.XIl
open Go.RowKit Go.Proofs.YtmdkbhbconnmmaaW.PrintWords Go.Proofs.YtmdkbhbconnmmaaW.PrintLast Go.Proofs.YtmdkbhbconnmmaaW.PrintMore
set_option linter.unusedVariables false
theorem ok_one {x : S65} (ht : x.f6.length * 16 ≤ 140737488355328) (hk : Ok65 x.f5) : Ok65 [x] := .mk (by simp) (fun z hz => by rw [List.mem_singleton.1 hz]; exact hk) (fun z hz => by rw [List.mem_singleton.1 hz]; exact ht)
theorem st_nil (n : Nat) : st_Same.rec (n + 1) [] [] = some true := by
  rw [st_Same.rec, st_Same.fOf, api_Stmt.fOf, if_pos rfl, api_Stmt.l0Of, if_neg (by simp)]
  rfl
theorem rd_map {a : List S65} {i : Nat} (h : i < a.length) : rd_T46 (a.map (stmtOf 1)) (i : Int) = stmtOf 1 (a.getD i z65) := by
  simp [rd_T46, h]
theorem told_stmt (x y : S65) (r : Bool) : told (stmtOf 1 x) (stmtOf 1 y) r true true true true true true = r := by
  simp [told, stmtOf]
theorem eq_nil (n : Nat) : slices_Equal_string_string.f (n + 1) [] [] = some true := by
  rw [slices_Equal_string_string.f, if_pos rfl, slices_Equal_string_string.l0, if_neg (by simp)]
theorem rg_nil (n : Nat) : api_Range.f (n + 1) [] [] = some true := by
  rw [api_Range.f, if_pos rfl, api_Range.l0, if_neg (by simp)]
theorem se_nil (n : Nat) : relayref05_sameExprs.f (n + 1) [] [] = some true := by
  rw [relayref05_sameExprs.f, relayref05_sameExprs.rec, relayref05_sameExprs.fOf, if_pos rfl, relayref05_sameExprs.l0Of, if_neg (by simp)]
theorem rf_nil (n : Nat) : relayref05_Same.f (n + 2) [] [] = some true := by
  rw [relayref05_Same.f, if_pos rfl, relayref05_Same.l0, if_neg (by simp)]
theorem st_ends {a : List S65} (h : Ok65 a) (b : List S65) : Ends (fun n => st_Same.f n (a.map (stmtOf 1)) (b.map (stmtOf 1))) (seV a b) := by
  obtain ⟨hs, he, ht⟩ := h
  unfold seV
  by_cases hl : a.length = b.length
  · rw [if_pos hl]
    obtain ⟨K, hK⟩ := all_K (P := fun i n => relayref05_sameExprs.f n [a.getD i z65] [b.getD i z65] = some (sng (a.getD i z65) (b.getD i z65))) a.length (fun i hi => by
      obtain ⟨K, hK⟩ := se_ends (ok_one (ht _ (getD65 hi)) (he _ (getD65 hi))) [b.getD i z65]
      exact ⟨K, fun n hn => by have := hK n hn; rwa [se_one] at this⟩)
    refine ⟨K + a.length + 4, fun n hn => ?_⟩
    obtain ⟨n, rfl⟩ : ∃ q, n = q + 2 := ⟨n - 2, by omega⟩
    show st_Same.f (n + 2) _ _ = _
    rw [st_Same.f, st_Same.rec, st_Same.fOf, api_Stmt.fOf, if_pos (by rw [List.length_map, List.length_map]; omega)]
    have hloop : api_Stmt.l0Of (st_Same_1.fOf (st_Same.rec (n + 1)) (n + 2)) (n + 2) (b.map (stmtOf 1)) (a.map (stmtOf 1)) ((a.map (stmtOf 1)).length : Int) 0 = some (allB (fun i => sng (a.getD i z65) (b.getD i z65)) a.length 0) := by
      rw [List.length_map]
      refine loop_all (L := fun j i => api_Stmt.l0Of (st_Same_1.fOf (st_Same.rec (n + 1)) (n + 2)) j (b.map (stmtOf 1)) (a.map (stmtOf 1)) (a.length : Int) (i : Int)) (len := a.length) (fun j i hi => ?_) (fun j => ?_) a.length 0 (by omega) (n + 2) (by omega)
      · show api_Stmt.l0Of _ (j + 1) _ _ (a.length : Int) (i : Int) = _
        have hi2 : i < b.length := by omega
        rw [api_Stmt.l0Of, if_pos (by omega), if_pos (by omega), if_pos (by rw [List.length_map]; omega), if_pos (by rw [List.length_map]; omega), next_ (by omega) hi, rd_map hi, rd_map hi2]
        have e := st_told (stmtOf 1 (a.getD i z65)) (stmtOf 1 (b.getD i z65)) (st_Same.rec (n + 1)) n (sng (a.getD i z65) (b.getD i z65)) true true true true true true (by rw [exprs_f]; exact hK i hi n (by omega)) (eq_nil n) (by
          obtain ⟨p, hp⟩ : ∃ p, n = p + 1 := ⟨n - 1, by omega⟩
          rw [exprs_f, hp]
          exact se_nil p) (eq_nil n) (rg_nil n) (st_nil n) (st_nil n)
        rw [told_stmt] at e
        refine (congrArg (fun o => Option.bind o _) e).trans ?_
        rfl
      · show api_Stmt.l0Of _ (j + 1) _ _ (a.length : Int) (a.length : Int) = _
        rw [api_Stmt.l0Of, if_neg (by omega)]
    rw [hloop]
    rfl
  · rw [if_neg hl]
    refine ⟨1, fun n hn => ?_⟩
    obtain ⟨n, rfl⟩ : ∃ q, n = q + 1 := ⟨n - 1, by omega⟩
    show st_Same.f (n + 1) _ _ = _
    rw [st_Same.f, st_Same.rec, st_Same.fOf, api_Stmt.fOf, if_neg (by rw [List.length_map, List.length_map]; omega)]
    rfl
theorem call_ends (a6 b6 : ByteArray) (l7 m7 : List S65) (n n' : List ByteArray) (l9 m9 : List S65) (l10 m10 : List ByteArray) (h7 : Ok65 l7) (hn : n.length * 16 ≤ 140737488355328) (h9 : Ok65 l9) (h10 : l10.length * 16 ≤ 140737488355328) :
    Ends (fun k => relayref05_Same.f k [callOf a6 l7 n l9 l10] [callOf b6 m7 n' m9 m10]) (decide (a6.toList = b6.toList) && seV l7 m7 && txV n n' && seV l9 m9 && txV l10 m10) := by
  obtain ⟨K1, e1⟩ := se_ends h7 m7
  obtain ⟨K2, e2⟩ := tx_ends n n' hn
  obtain ⟨K3, e3⟩ := se_ends h9 m9
  obtain ⟨K4, e4⟩ := tx_ends l10 m10 h10
  refine ⟨K1 + K2 + K3 + K4 + 6, fun k hk => ?_⟩
  obtain ⟨k, rfl⟩ : ∃ q, k = q + 5 := ⟨k - 5, by omega⟩
  show relayref05_Same.f (k + 5) _ _ = _
  rw [relayref05_Same.f, if_pos (by simp)]
  have e := ref_told [callOf a6 l7 n l9 l10] [callOf b6 m7 n' m9 m10] rfl (by simp) 0 (by simp) (by simp) (k + 2) (seV l7 m7) (txV n n') (seV l9 m9) (txV l10 m10) true true true (e1 (k + 3) (by omega)) (e2 (k + 3) (by omega)) (e3 (k + 2) (by omega)) (e4 (k + 2) (by omega)) (rg_nil (k + 1)) (rf_nil k) (rf_nil k)
  refine Eq.trans e ?_
  have e0 : relayref05_Same.l0 (k + 2) [callOf a6 l7 n l9 l10] [callOf b6 m7 n' m9 m10] (([callOf a6 l7 n l9 l10].length : Nat) : Int) ((0 + 1 : Nat) : Int) = some true := by
    rw [relayref05_Same.l0, if_neg (by simp)]
  rw [e0]
  have ht : told ([callOf a6 l7 n l9 l10][0]) ([callOf b6 m7 n' m9 m10][0]) (seV l7 m7) (txV n n') (seV l9 m9) (txV l10 m10) true true true = (decide (a6.toList = b6.toList) && seV l7 m7 && txV n n' && seV l9 m9 && txV l10 m10) := by
    simp [told, callOf]
    first | rfl | congr
  rw [ht]
  cases (decide (a6.toList = b6.toList) && seV l7 m7 && txV n n' && seV l9 m9 && txV l10 m10) <;> rfl
end Go.Proofs.Ytmdkbhbconnmmaa.XIl
