/- LexNames, second part: addresses, and the law. (This text: of the Lean functions alone.) -/
import Derived.Test.YtmdkbhbconnmmaaDoorPureLex
namespace Go.Proofs.YtmdkbhbconnmmaaDoor.PureLex
open Go.RowKit Go.Proofs.YtmdkbhbconnmmaaDoor.XLex Go.Proofs.YtmdkbhbconnmmaaDoorW.PrintWords Go.Proofs.YtmdkbhbconnmmaaDoorW.PrintLast Go.Proofs.YtmdkbhbconnmmaaDoorW.PrintMore Go.Proofs.YtmdkbhbconnmmaaDoor.Num
set_option linter.unusedVariables false
set_option linter.unusedSimpArgs false

/-- What the two ask of the rest of an address. -/
def goodX (s : ByteArray) : Prop := 6 ≤ (s.size : Int) ∧ bt s ((s.size : Int) - 2) = 46 ∧ 48 ≤ bt s ((s.size : Int) - 1) ∧ bt s ((s.size : Int) - 1) ≤ 55 ∧ (s.size : Int) - 5 ≤ 4 ∧ (∀ j, 3 ≤ j → j < (s.size : Int) - 2 → DG (bt s j) = true) ∧ ¬ ((s.size : Int) - 5 > 1 ∧ bt s 3 = 48)
def goodN (s : ByteArray) : Prop := 4 ≤ (s.size : Int) ∧ (s.size : Int) - 3 ≤ 4 ∧ (∀ j, 3 ≤ j → j < (s.size : Int) → DG (bt s j) = true) ∧ ¬ ((s.size : Int) - 3 > 1 ∧ bt s 3 = 48)

theorem dg46 : DG 46 = false := by decide
theorem endX_iff {s : ByteArray} {e : Int} (r : Run s 3 e) (h3 : 3 ≤ (s.size : Int)) : endA s true e = (s.size : Int) ↔ goodX s := by
  obtain ⟨r1, r2, r3, r4⟩ := r
  constructor
  · intro h
    unfold endA at h
    by_cases c1 : e = 3
    · rw [if_pos c1] at h; omega
    rw [if_neg c1] at h
    by_cases c2 : e - 3 > 4
    · rw [if_pos c2] at h; omega
    rw [if_neg c2] at h
    by_cases c3 : e - 3 > 1 ∧ bt s 3 = 48
    · rw [if_pos c3] at h; omega
    rw [if_neg c3, if_pos rfl] at h
    unfold endX at h
    by_cases k1 : e + 1 ≥ s.size
    · rw [if_pos k1] at h; omega
    rw [if_neg k1] at h
    by_cases k2 : bt s e = 46
    case neg => rw [if_neg k2] at h; omega
    rw [if_pos k2] at h
    by_cases k3 : bt s (e + 1) < 48
    · rw [if_pos k3] at h; omega
    rw [if_neg k3] at h
    by_cases k4 : bt s (e + 1) > 55
    · rw [if_pos k4] at h; omega
    rw [if_neg k4] at h
    have he : e = (s.size : Int) - 2 := by
      by_cases k5 : e + 2 < s.size
      · rw [if_pos k5] at h
        by_cases k6 : IN (bt s (e + 2)) = true
        · rw [if_pos k6] at h; omega
        · rw [if_neg k6] at h; omega
      · omega
    subst he
    rw [show (s.size : Int) - 2 + 1 = (s.size : Int) - 1 by omega] at k3 k4
    exact ⟨by omega, k2, by omega, by omega, by omega, r3, fun h => c3 ⟨by omega, h.2⟩⟩
  · rintro ⟨g1, g2, g3, g4, g5, g6, g7⟩
    have he : e = (s.size : Int) - 2 := by
      by_cases c : e < (s.size : Int) - 2
      · have a := r4 (by omega)
        rw [g6 e r1 c] at a
        cases a
      · by_cases c' : (s.size : Int) - 2 < e
        · have a := r3 ((s.size : Int) - 2) (by omega) c'
          rw [g2, dg46] at a
          cases a
        · omega
    subst he
    unfold endA endX
    rw [show (s.size : Int) - 2 + 1 = (s.size : Int) - 1 by omega]
    rw [if_neg (by omega), if_neg (by omega), if_neg (fun h => g7 ⟨by omega, h.2⟩), if_pos rfl, if_neg (by omega), if_pos g2, if_neg (by omega), if_neg (by omega), if_neg (by omega)]
    omega
theorem endN_iff {s : ByteArray} {e : Int} (r : Run s 3 e) (h3 : 3 ≤ (s.size : Int)) : endA s false e = (s.size : Int) ↔ goodN s := by
  obtain ⟨r1, r2, r3, r4⟩ := r
  constructor
  · intro h
    unfold endA at h
    by_cases c1 : e = 3
    · rw [if_pos c1] at h; omega
    rw [if_neg c1] at h
    by_cases c2 : e - 3 > 4
    · rw [if_pos c2] at h; omega
    rw [if_neg c2] at h
    by_cases c3 : e - 3 > 1 ∧ bt s 3 = 48
    · rw [if_pos c3] at h; omega
    rw [if_neg c3, if_neg (by simp)] at h
    unfold endN at h
    have he : e = (s.size : Int) := by
      by_cases k5 : e < s.size
      · rw [if_pos k5] at h
        by_cases k6 : IN (bt s e) = true
        · rw [if_pos k6] at h; omega
        · rw [if_neg k6] at h; omega
      · omega
    subst he
    exact ⟨by omega, by omega, r3, fun h => c3 ⟨by omega, h.2⟩⟩
  · rintro ⟨g1, g5, g6, g7⟩
    have he : e = (s.size : Int) := by
      by_cases c : e < (s.size : Int)
      · have a := r4 c
        rw [g6 e r1 c] at a
        cases a
      · omega
    subst he
    unfold endA endN
    rw [if_neg (by omega), if_neg (by omega), if_neg (fun h => g7 ⟨by omega, h.2⟩), if_neg (by simp), if_neg (by omega)]

/-! Bytes by their places. -/
theorem bt_list (s : ByteArray) (i : Nat) (h : i < s.size) : ∃ b, s.data.toList[i]? = some b ∧ bt s (i : Int) = (b.toNat : Int) := by
  have hl : i < s.data.toList.length := by rw [Array.length_toList]; exact h
  refine ⟨s.data.toList[i], List.getElem?_eq_getElem hl, ?_⟩
  unfold bt
  have h' : (i : Int).toNat < s.size := h
  rw [dif_pos h']
  rfl
theorem DG_dg (b : UInt8) : DG (b.toNat : Int) = dg b := by
  unfold DG dg
  exact decide_eq_decide.mpr (by omega)
theorem numeral_places (s : ByteArray) (m : Nat) (hm : m + 3 ≤ s.size) : numeral ((s.data.toList.drop 3).take m) = true ↔ 1 ≤ m ∧ (∀ j : Int, 3 ≤ j → j < 3 + m → DG (bt s j) = true) ∧ ¬ (m > 1 ∧ bt s 3 = 48) := by
  have hlen : ((s.data.toList.drop 3).take m).length = m := by
    rw [List.length_take, List.length_drop, Array.length_toList]
    have e : s.data.size = s.size := rfl
    omega
  have hat : ∀ i, i < m → ∃ b, ((s.data.toList.drop 3).take m)[i]? = some b ∧ bt s ((3 + i : Nat) : Int) = (b.toNat : Int) := by
    intro i hi
    obtain ⟨b, h1, h2⟩ := bt_list s (3 + i) (by omega)
    refine ⟨b, ?_, h2⟩
    rw [List.getElem?_take, if_pos hi, List.getElem?_drop]
    exact h1
  have hall : ((s.data.toList.drop 3).take m).all dg = true ↔ ∀ j : Int, 3 ≤ j → j < 3 + m → DG (bt s j) = true := by
    rw [List.all_eq_true]
    constructor
    · intro h j h1 h2
      obtain ⟨b, e1, e2⟩ := hat (j - 3).toNat (by omega)
      have := h b (List.mem_of_getElem? e1)
      rw [show ((3 + (j - 3).toNat : Nat) : Int) = j by omega] at e2
      rw [e2, DG_dg]
      exact this
    · intro h b hb
      obtain ⟨i, hi, e⟩ := List.getElem_of_mem hb
      obtain ⟨b', e1, e2⟩ := hat i (by omega)
      have : b' = b := by
        rw [List.getElem?_eq_getElem hi, e] at e1
        exact (Option.some.inj e1).symm
      subst this
      have k := h ((3 + i : Nat) : Int) (by omega) (by omega)
      rw [e2, DG_dg] at k
      exact k
  unfold numeral
  simp only [Bool.and_eq_true, Bool.or_eq_true, decide_eq_true_eq, bne_iff_ne, Bool.not_eq_true', List.isEmpty_eq_false_iff, hall, hlen]
  constructor
  · rintro ⟨⟨h1, h2⟩, h3⟩
    have hm1 : 1 ≤ m := by
      rcases Nat.eq_zero_or_pos m with h | h
      · subst h
        exact absurd (List.eq_nil_of_length_eq_zero hlen) h1
      · exact h
    refine ⟨hm1, h2, fun ⟨h4, h5⟩ => ?_⟩
    obtain ⟨b, e1, e2⟩ := hat 0 (by omega)
    rcases h3 with h3 | h3
    · omega
    · apply h3
      rw [List.head?_eq_getElem?, e1]
      rw [show ((3 + 0 : Nat) : Int) = 3 from rfl, h5] at e2
      congr 1
      apply UInt8.toNat_inj.mp
      have : (48 : UInt8).toNat = 48 := rfl
      omega
  · rintro ⟨h1, h2, h3⟩
    refine ⟨⟨fun h => ?_, h2⟩, ?_⟩
    · rw [h] at hlen
      simp at hlen
      omega
    · by_cases c : m ≤ 1
      · exact .inl c
      · refine .inr fun h => h3 ⟨by omega, ?_⟩
        obtain ⟨b, e1, e2⟩ := hat 0 (by omega)
        rw [List.head?_eq_getElem?, e1] at h
        rw [show ((3 + 0 : Nat) : Int) = 3 from rfl, Option.some.inj h] at e2
        exact e2
theorem addrT_eq (t : ByteArray) (b d : Int) : addrT t b d = if numeral t.data.toList = true ∧ t.size ≤ 4 then (b, d, true) else (0, 0, false) := by
  have hsz : t.data.toList.length = t.size := by rw [Array.length_toList]; rfl
  unfold addrT
  by_cases hc : numeral t.data.toList = true ∧ t.size ≤ 4
  · rw [if_pos hc]
    obtain ⟨v, h1, h2, h3⟩ := (atoi_itoa (l := t.data.toList) (by omega)).2 hc.1
    rw [h1]
    show (if v < 0 then _ else _) = _
    rw [if_neg (by omega), if_neg (by omega), if_pos (by rw [h3, toList_eq])]
  · rw [if_neg hc]
    cases hA : Lib.atoiAll t.data.toList with
    | ok v =>
      show (if v < 0 then _ else _) = _
      by_cases c1 : v < 0
      · rw [if_pos c1]
      by_cases c2 : 4 < t.size
      · rw [if_neg c1, if_pos c2]
      by_cases c3 : Lib.itoa v = t.toList
      · exact absurd ⟨(atoi_itoa (by omega)).1 ⟨v, hA, by omega, by rw [c3, toList_eq]⟩, by omega⟩ hc
      · rw [if_neg c1, if_neg c2, if_neg c3]
    | range => rfl
    | _ => rfl
end Go.Proofs.YtmdkbhbconnmmaaDoor.PureLex
