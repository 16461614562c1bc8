/- The program's comparison of instructions tells what the document's comparison tells; the same instructions are the same. -/
import Derived.Test.YtmdkbhbconnmmaaPureIlD
import Derived.Test.YtmdkbhbconnmmaaXIlx14
namespace Go.Proofs.Ytmdkbhbconnmmaa.XIl
open Go.RowKit Go.Proofs.YtmdkbhbconnmmaaW.PrintWords Go.Proofs.YtmdkbhbconnmmaaW.PrintLast Go.Proofs.YtmdkbhbconnmmaaW.PrintMore
set_option linter.unusedVariables false
/-- An instruction whose lists fit in memory, and whose expressions fit as statements. -/
def Q81 (x : S81) : Prop := Ok65 x.f7 ∧ x.f7.length ≤ 1048576 ∧ x.f8.length * 16 ≤ 140737488355328 ∧ Ok65 x.f9 ∧ x.f9.length ≤ 1048576 ∧ x.f10.length * 16 ≤ 140737488355328
def insV (x y : S81) : Bool := !(decide (x.f1.toList = y.f1.toList) && decide (x.f2.toList = y.f2.toList) && (x.f3 == y.f3) && (x.f4 == y.f4) && (x.f5 == y.f5))
noncomputable def ilV (x y : S81) : Bool := if x.f1.toList = y.f1.toList ∧ x.f2.toList = y.f2.toList ∧ x.f3 = y.f3 ∧ x.f4 = y.f4 ∧ x.f5 = y.f5 ∧ x.f6.toList = y.f6.toList then txV x.f8 y.f8 && (txV x.f10 y.f10 && (seV x.f7 y.f7 && seV x.f9 y.f9)) else false
theorem sets_f {l : List S65} (h : l.length ≤ 1048576) : il_sets.f l = some (l.map (stmtOf 1)) := by
  rw [il_sets.f, if_pos (by omega)]
theorem ne_true {a b : Bool} (h : ¬ a = b) : (a != b) = true := bne_iff_ne.mpr h
theorem ne_false {a b : Bool} (h : a = b) : ¬ (a != b) = true := by rw [h]; simp
theorem il_one (x y : S81) (hx : Q81 x) (hy : Q81 y) : Ends (fun n => il_Same_1.f n x.f0 x.f1 x.f2 x.f3 x.f4 x.f5 x.f6 x.f7 x.f8 x.f9 x.f10 y.f0 y.f1 y.f2 y.f3 y.f4 y.f5 y.f6 y.f7 y.f8 y.f9 y.f10) (ilV x y) := by
  obtain ⟨h7, s7, h8, h9, s9, h10⟩ := hx
  obtain ⟨-, t7, -, -, t9, -⟩ := hy
  obtain ⟨K1, e1⟩ := tx_ends x.f8 y.f8 h8
  obtain ⟨K2, e2⟩ := tx_ends x.f10 y.f10 h10
  obtain ⟨K3, e3⟩ := st_ends h7 y.f7
  obtain ⟨K4, e4⟩ := st_ends h9 y.f9
  refine ⟨K1 + K2 + K3 + K4 + 1, fun n hn => ?_⟩
  obtain ⟨n, rfl⟩ : ∃ q, n = q + 1 := ⟨n - 1, by omega⟩
  show il_Same_1.f (n + 1) x.f0 x.f1 x.f2 x.f3 x.f4 x.f5 x.f6 x.f7 x.f8 x.f9 x.f10 y.f0 y.f1 y.f2 y.f3 y.f4 y.f5 y.f6 y.f7 y.f8 y.f9 y.f10 = _
  rw [il_Same_1.f]
  unfold ilV
  have ht : ∀ z0 z1 z2 z3 z4 z5 z6 z7 z8 z9 z10 u0 u1 u2 u3 u4 u5 u6 u7 u8 u9 u10, il_Same_1.j0 (n + 1) true z0 z1 z2 z3 z4 z5 z6 z7 z8 z9 z10 u0 u1 u2 u3 u4 u5 u6 u7 u8 u9 u10 = some false := by
    intro z0 z1 z2 z3 z4 z5 z6 z7 z8 z9 z10 u0 u1 u2 u3 u4 u5 u6 u7 u8 u9 u10
    rw [il_Same_1.j0, if_pos rfl]
  by_cases c1 : x.f1.toList = y.f1.toList
  case neg => rw [if_neg c1, ht, if_neg (fun h => c1 h.1)]
  rw [if_pos c1]
  by_cases c2 : x.f2.toList = y.f2.toList
  case neg => rw [if_neg c2, ht, if_neg (fun h => c2 h.2.1)]
  rw [if_pos c2]
  by_cases c3 : x.f3 = y.f3
  case neg => rw [if_pos (ne_true c3), ht, if_neg (fun h => c3 h.2.2.1)]
  rw [if_neg (ne_false c3)]
  by_cases c4 : x.f4 = y.f4
  case neg => rw [if_pos (ne_true c4), ht, if_neg (fun h => c4 h.2.2.2.1)]
  rw [if_neg (ne_false c4)]
  by_cases c5 : x.f5 = y.f5
  case neg => rw [if_pos (ne_true c5), ht, if_neg (fun h => c5 h.2.2.2.2.1)]
  rw [if_neg (ne_false c5)]
  by_cases c6 : x.f6.toList = y.f6.toList
  case neg => rw [show (x.f6.toList != y.f6.toList) = true from bne_iff_ne.mpr c6, ht, if_neg (fun h => c6 h.2.2.2.2.2)]
  rw [show (x.f6.toList != y.f6.toList) = false from bne_eq_false_iff_eq.mpr c6, il_Same_1.j0, if_neg Bool.false_ne_true, if_pos ⟨c1, c2, c3, c4, c5, c6⟩]
  have f1 : slices_Equal_string_string.f n x.f8 y.f8 = some (txV x.f8 y.f8) := e1 n (by omega)
  have f2 : slices_Equal_string_string.f n x.f10 y.f10 = some (txV x.f10 y.f10) := e2 n (by omega)
  have f3 : st_Same.f n (x.f7.map (stmtOf 1)) (y.f7.map (stmtOf 1)) = some (seV x.f7 y.f7) := e3 n (by omega)
  have f4 : st_Same.f n (x.f9.map (stmtOf 1)) (y.f9.map (stmtOf 1)) = some (seV x.f9 y.f9) := e4 n (by omega)
  simp only [f1, f2, f3, f4, sets_f s7, sets_f s9, sets_f t7, sets_f t9, Option.bind_some]
  cases txV x.f8 y.f8 <;> cases txV x.f10 y.f10 <;> cases seV x.f7 y.f7 <;> rfl
theorem il_self {x : S81} (hx : Q81 x) : ilV x x = true := by
  unfold ilV
  rw [if_pos ⟨rfl, rfl, rfl, rfl, rfl, rfl⟩, tx_self, tx_self, se_self hx.1, se_self hx.2.2.2.1]
  rfl
/-- The document's test of two instructions is the program's. -/
theorem ins_false {x y : S81} (h : insDf x y = false) : x.f1.toList = y.f1.toList ∧ x.f2.toList = y.f2.toList ∧ x.f3 = y.f3 ∧ x.f4 = y.f4 ∧ x.f5 = y.f5 ∧ x.f6.toList = y.f6.toList ∧ x.f8.length = y.f8.length := by
  simpa [insDf, and_assoc] using h
theorem il_df {x y : S81} (h : insDf x y = true) : ilV x y = false := by
  unfold ilV
  by_cases c : x.f1.toList = y.f1.toList ∧ x.f2.toList = y.f2.toList ∧ x.f3 = y.f3 ∧ x.f4 = y.f4 ∧ x.f5 = y.f5 ∧ x.f6.toList = y.f6.toList
  · rw [if_pos c]
    by_cases c8 : x.f8.length = y.f8.length
    · obtain ⟨c1, c2, c3, c4, c5, c6⟩ := c
      simp [insDf, c1, c2, c3, c4, c5, c6, c8] at h
    · cases ht : txV x.f8 y.f8 with
      | true => exact absurd (tx_len ht) c8
      | false => rfl
  · rw [if_neg c]
theorem names_f {x : S81} (hx : Q81 x) : relayref06_names.f x.f7 x.f8 = some (x.f8 ++ List.replicate (x.f7.length - x.f8.length) ⟨#[]⟩) := by
  obtain ⟨h7, s7, h8, -⟩ := hx
  rw [relayref06_names.f, if_pos ⟨by omega, h8⟩]
theorem names_le {x : S81} (hx : Q81 x) : (x.f8 ++ List.replicate (x.f7.length - x.f8.length) (⟨#[]⟩ : ByteArray)).length * 16 ≤ 140737488355328 := by
  obtain ⟨h7, s7, h8, -⟩ := hx
  rw [List.length_append, List.length_replicate]
  omega
theorem call_V {x y : S81} (hx : Q81 x) (h : insDf x y = false) : (decide (x.f6.toList = y.f6.toList) && seV x.f7 y.f7 && txV (x.f8 ++ List.replicate (x.f7.length - x.f8.length) ⟨#[]⟩) (y.f8 ++ List.replicate (y.f7.length - y.f8.length) ⟨#[]⟩) && seV x.f9 y.f9 && txV x.f10 y.f10) = ilV x y := by
  obtain ⟨c1, c2, c3, c4, c5, c6, c8⟩ := ins_false h
  unfold ilV
  rw [if_pos ⟨c1, c2, c3, c4, c5, c6⟩, decide_eq_true c6]
  cases h7 : seV x.f7 y.f7 with
  | false => cases txV x.f8 y.f8 <;> cases txV x.f10 y.f10 <;> rfl
  | true =>
    have hl : x.f7.length = y.f7.length := by
      unfold seV at h7
      by_cases hl : x.f7.length = y.f7.length
      · exact hl
      · rw [if_neg hl] at h7
        cases h7
    rw [hl, c8, tx_pad]
    cases txV x.f8 y.f8 <;> cases txV x.f10 y.f10 <;> cases seV x.f9 y.f9 <;> rfl
/-! ### Lists of instructions -/
noncomputable def ilsV : List S81 → List S81 → Bool
  | x :: xs, y :: ys => if ilV x y = true then ilsV xs ys else false
  | _, _ => true
theorem ref_go : ∀ (a b : List S81), (∀ x ∈ a, Q81 x) → (∀ y ∈ b, Q81 y) → Ends (fun k => relayref06_Same.go k a b) (ilsV a b)
  | x :: xs, y :: ys, ha, hb => by
    have hx := ha x (List.mem_cons_self ..)
    have hy := hb y (List.mem_cons_self ..)
    obtain ⟨K1, e1⟩ := ref_go xs ys (fun z hz => ha z (List.mem_cons_of_mem _ hz)) (fun z hz => hb z (List.mem_cons_of_mem _ hz))
    obtain ⟨K2, e2⟩ := call_ends x.f6 y.f6 x.f7 y.f7 _ (y.f8 ++ List.replicate (y.f7.length - y.f8.length) ⟨#[]⟩) x.f9 y.f9 x.f10 y.f10 hx.1 (names_le hx) hx.2.2.2.1 hx.2.2.2.2.2
    refine ⟨K1 + K2, fun k hk => ?_⟩
    show relayref06_Same.go k (x :: xs) (y :: ys) = _
    rw [relayref06_Same.go, ilsV]
    cases hd : insDf x y with
    | true => rw [if_pos rfl, il_df hd, if_neg Bool.false_ne_true]
    | false =>
      have f2 := e2 k (by omega)
      have f1 : relayref06_Same.go k xs ys = some (ilsV xs ys) := e1 k (by omega)
      simp only [call_V hx hd] at f2
      rw [if_neg Bool.false_ne_true, relayref06_statement.f, names_f hx, relayref06_statement.f, names_f hy]
      simp only [Option.bind_some, f2, f1]
      cases ilV x y <;> rfl
  | [], _, _, _ => ⟨0, fun k _ => by simp only [relayref06_Same.go, ilsV]⟩
  | _ :: _, [], _, _ => ⟨0, fun k _ => by simp only [relayref06_Same.go, ilsV]⟩
theorem allB_shift {v : Nat → Bool} : ∀ {m i : Nat}, allB v m (i + 1) = allB (fun k => v (k + 1)) m i := by
  intro m
  induction m with
  | zero => intro i; rfl
  | succ m ih => intro i; rw [allB, allB, ih]
theorem ils_all : ∀ (a b : List S81), a.length = b.length → allB (fun i => ilV (a.getD i z81) (b.getD i z81)) a.length 0 = ilsV a b
  | x :: xs, y :: ys, h => by
    rw [List.length_cons, allB, ilsV, allB_shift]
    have := ils_all xs ys (by simpa using h)
    rw [← this]
    rfl
  | [], _, _ => by simp [ilsV, allB]
theorem getD81 {l : List S81} {i : Nat} (h : i < l.length) : l.getD i z81 ∈ l := by
  rw [List.getD_eq_getElem?_getD, List.getElem?_eq_getElem h]
  exact List.getElem_mem h
theorem il_ends (a b : List S81) (hs : a.length ≤ 1048576) (ha : ∀ x ∈ a, Q81 x) (hb : ∀ y ∈ b, Q81 y) : Ends (fun n => il_Same.f n a b) (if a.length = b.length then ilsV a b else false) := by
  by_cases hl : a.length = b.length
  · rw [if_pos hl, ← ils_all a b hl]
    obtain ⟨K, hK⟩ := all_K (P := fun i n => il_Same_1.f n (a.getD i z81).f0 (a.getD i z81).f1 (a.getD i z81).f2 (a.getD i z81).f3 (a.getD i z81).f4 (a.getD i z81).f5 (a.getD i z81).f6 (a.getD i z81).f7 (a.getD i z81).f8 (a.getD i z81).f9 (a.getD i z81).f10 (b.getD i z81).f0 (b.getD i z81).f1 (b.getD i z81).f2 (b.getD i z81).f3 (b.getD i z81).f4 (b.getD i z81).f5 (b.getD i z81).f6 (b.getD i z81).f7 (b.getD i z81).f8 (b.getD i z81).f9 (b.getD i z81).f10 = some (ilV (a.getD i z81) (b.getD i z81))) a.length (fun i hi => il_one _ _ (ha _ (getD81 hi)) (hb _ (getD81 (by omega))))
    have hloop : ∀ m i, i + m = a.length → ∀ j, K + m + 1 ≤ j → api_IlInstr.l0 j b a (a.length : Int) (i : Int) = some (allB (fun i => ilV (a.getD i z81) (b.getD i z81)) m i) := by
      intro m
      induction m with
      | zero =>
        intro i hi j hj
        obtain ⟨j, rfl⟩ : ∃ q, j = q + 1 := ⟨j - 1, by omega⟩
        rw [api_IlInstr.l0, if_neg (by omega)]
        rfl
      | succ m ih =>
        intro i hi j hj
        obtain ⟨j, rfl⟩ : ∃ q, j = q + 1 := ⟨j - 1, by omega⟩
        have e := hK i (by omega) j (by omega)
        rw [api_IlInstr.l0, if_pos (by omega), if_pos (by omega), if_pos (by omega), if_pos (by omega), next_ (by omega : a.length < 2 ^ 62) (by omega), allB]
        refine (congrArg (fun o => Option.bind o _) (show _ = some (ilV (a.getD i z81) (b.getD i z81)) from e)).trans ?_
        show (if ilV (a.getD i z81) (b.getD i z81) = true then api_IlInstr.l0 j b a (a.length : Int) ((i + 1 : Nat) : Int) else some false) = _
        rw [ih (i + 1) (by omega) j (by omega)]
        cases ilV (a.getD i z81) (b.getD i z81) <;> rfl
    refine ⟨K + a.length + 1, fun n hn => ?_⟩
    show il_Same.f n a b = _
    have e : api_IlInstr.l0 n b a (a.length : Int) 0 = _ := hloop a.length 0 (by omega) n (by omega)
    rw [il_Same.f, api_IlInstr.f, if_pos (by omega), e]
    rfl
  · rw [if_neg hl]
    refine ⟨0, fun n hn => ?_⟩
    show il_Same.f n a b = _
    rw [il_Same.f, api_IlInstr.f, if_neg (by omega)]
    rfl
theorem ref_ends (a b : List S81) (ha : ∀ x ∈ a, Q81 x) (hb : ∀ y ∈ b, Q81 y) : Ends (fun n => relayref06_Same.f n a b) (if a.length = b.length then ilsV a b else false) := by
  obtain ⟨K, hK⟩ := ref_go a b ha hb
  refine ⟨K, fun n hn => ?_⟩
  show relayref06_Same.f n a b = _
  rw [relayref06_Same.f]
  by_cases hl : a.length = b.length
  · rw [if_pos hl, if_pos hl]
    exact hK n hn
  · rw [if_neg hl, if_neg hl]
theorem ils_self : ∀ (a : List S81), (∀ x ∈ a, Q81 x) → ilsV a a = true
  | x :: xs, ha => by
    rw [ilsV, il_self (ha x (List.mem_cons_self ..)), if_pos rfl]
    exact ils_self xs (fun z hz => ha z (List.mem_cons_of_mem _ hz))
  | [], _ => rfl
end Go.Proofs.Ytmdkbhbconnmmaa.XIl
