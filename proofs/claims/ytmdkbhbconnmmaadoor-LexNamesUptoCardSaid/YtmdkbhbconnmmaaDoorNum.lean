/- Numerals in plain Lean: which texts of at most four bytes are the numeral of a number that is not negative. No Go in it. -/
import Derived.Lib.AtoiTie
import Derived.Lib.AtoiAllCases
import Derived.Lib.ItoaMem
namespace Go.Proofs.YtmdkbhbconnmmaaDoor.Num
open Go.Lib

/-- A decimal digit. -/
def dg (b : UInt8) : Bool := decide (48 ≤ b.toNat ∧ b.toNat ≤ 57)
/-- One byte or more, digits all, no leading nought unless it stands alone. -/
def numeral (l : List UInt8) : Bool := !l.isEmpty && l.all dg && (decide (l.length ≤ 1) || l.head? != some 48)

theorem dg_of (d : Nat) (h : d < 10) : dg (UInt8.ofNat (48 + d)) = true := by
  have e : (UInt8.ofNat (48 + d)).toNat = 48 + d := by simp [UInt8.toNat_ofNat]; omega
  unfold dg
  rw [e]
  exact decide_eq_true (by omega)
theorem digits_numeral : ∀ (n u : Nat), u ≤ n → numeral (decDigits u) = true ∧ (1 ≤ u → (decDigits u).head? ≠ some 48)
  | 0, u, h => by
    obtain rfl : u = 0 := by omega
    rw [decDigits_one (by omega)]
    exact ⟨by rfl, fun h => by omega⟩
  | n + 1, u, h => by
    by_cases c : u < 10
    · rw [decDigits_one c]
      have e : (UInt8.ofNat (48 + u)).toNat = 48 + u := by simp [UInt8.toNat_ofNat]; omega
      refine ⟨?_, fun h1 h2 => ?_⟩
      · have hd := dg_of u c
        generalize UInt8.ofNat (48 + u) = x at hd ⊢
        simp [numeral, hd]
      · simp only [List.head?_cons, Option.some.injEq] at h2
        have := congrArg UInt8.toNat h2
        rw [e] at this
        have : (48 : UInt8).toNat = 48 := rfl
        omega
    · have ih := digits_numeral n (u / 10) (by omega)
      have e : decDigits u = decDigits (u / 10) ++ [UInt8.ofNat (48 + u % 10)] := by rw [decDigits, dif_neg c]
      obtain ⟨i1, i2⟩ := ih
      have i2 := i2 (by omega)
      simp only [numeral, Bool.and_eq_true, Bool.not_eq_true', List.isEmpty_eq_false_iff] at i1
      obtain ⟨⟨i3, i4⟩, _⟩ := i1
      obtain ⟨b, r, hb⟩ := List.exists_cons_of_ne_nil i3
      have hd : (decDigits u).head? ≠ some 48 := by
        rw [e, hb]
        rw [hb] at i2
        simpa using i2
      refine ⟨?_, fun _ => hd⟩
      simp only [numeral, Bool.and_eq_true, Bool.or_eq_true, bne_iff_ne]
      refine ⟨⟨by rw [e]; simp, ?_⟩, .inr hd⟩
      have hx := dg_of _ (Nat.mod_lt u (by omega : 10 > 0))
      rw [e, List.all_append, i4, List.all_cons, hx]
      rfl
/-- Digits put behind a number's numeral. -/
theorem digits_more : ∀ (r : List UInt8) (acc : Nat), 1 ≤ acc → r.all dg = true → ∃ v, decFrom acc r = some v ∧ decDigits v = decDigits acc ++ r
  | [], acc, _, _ => ⟨acc, rfl, by simp⟩
  | b :: r, acc, h, ha => by
    rw [List.all_cons, Bool.and_eq_true] at ha
    have hb := of_decide_eq_true ha.1
    obtain ⟨v, h1, h2⟩ := digits_more r (acc * 10 + (b.toNat - 48)) (by omega) ha.2
    refine ⟨v, ?_, ?_⟩
    · simp only [decFrom, digitVal, if_pos hb]
      exact h1
    · have e : decDigits (acc * 10 + (b.toNat - 48)) = decDigits acc ++ [b] := by
        rw [decDigits, dif_neg (by omega)]
        have e1 : (acc * 10 + (b.toNat - 48)) / 10 = acc := by omega
        have e2 : 48 + (acc * 10 + (b.toNat - 48)) % 10 = b.toNat := by omega
        rw [e1, e2]
        simp
      rw [h2, e]
      simp
theorem numeral_value {l : List UInt8} (h : numeral l = true) : ∃ v : Nat, decNat l = some v ∧ decDigits v = l := by
  simp only [numeral, Bool.and_eq_true, Bool.or_eq_true, bne_iff_ne, decide_eq_true_eq, Bool.not_eq_true', List.isEmpty_eq_false_iff] at h
  obtain ⟨⟨h1, h2⟩, h3⟩ := h
  obtain ⟨b, r, rfl⟩ := List.exists_cons_of_ne_nil h1
  rw [List.all_cons, Bool.and_eq_true] at h2
  have hb := of_decide_eq_true h2.1
  have eb : UInt8.ofNat (48 + (b.toNat - 48)) = b := by rw [show 48 + (b.toNat - 48) = b.toNat by omega]; simp
  by_cases hr : r = []
  · subst hr
    refine ⟨b.toNat - 48, ?_, ?_⟩
    · simp [decNat, decFrom, digitVal, if_pos hb]
    · rw [decDigits_one (by omega), eb]
  · have hl : 1 < (b :: r).length := by
      cases r with
      | nil => exact absurd rfl hr
      | cons => simp
    rcases h3 with h3 | h3
    · omega
    have hb48 : b.toNat ≠ 48 := by
      intro e
      apply h3
      have : b = 48 := UInt8.toNat_inj.mp e
      simp [this]
    obtain ⟨v, e1, e2⟩ := digits_more r (b.toNat - 48) (by omega) h2.2
    refine ⟨v, ?_, ?_⟩
    · simp only [decNat, List.isEmpty_cons, Bool.false_eq_true, if_false, decFrom, digitVal, if_pos hb, Nat.zero_mul, Nat.zero_add]
      exact e1
    · rw [e2, decDigits_one (by omega), eb]
      rfl
/-- What Atoi and Itoa tell of a short text together. -/
theorem atoi_itoa {l : List UInt8} (hl : l.length ≤ 18) : (∃ v, atoiAll l = .ok v ∧ 0 ≤ v ∧ itoa v = l) ↔ numeral l = true := by
  rw [atoiAll_short l hl]
  constructor
  · rintro ⟨v, _, h0, rfl⟩
    unfold itoa
    rw [if_neg (by omega)]
    exact (digits_numeral _ _ (Nat.le_refl _)).1
  · intro h
    obtain ⟨v, h1, h2⟩ := numeral_value h
    refine ⟨v, ?_, by omega, by rw [itoa_nonneg, h2]⟩
    have hc := h
    simp only [numeral, Bool.and_eq_true, Bool.not_eq_true', List.isEmpty_eq_false_iff] at hc
    obtain ⟨b, r, rfl⟩ := List.exists_cons_of_ne_nil hc.1.1
    have hb : dg b = true := by have := hc.1.2; rw [List.all_cons, Bool.and_eq_true] at this; exact this.1
    have hb' := of_decide_eq_true hb
    have n45 : (b == 45) = false := by
      rw [beq_eq_false_iff_ne]
      rintro rfl
      have : (45 : UInt8).toNat = 45 := rfl
      omega
    have n43 : (b == 43) = false := by
      rw [beq_eq_false_iff_ne]
      rintro rfl
      have : (43 : UInt8).toNat = 43 := rfl
      omega
    simp [atoi, n45, n43, h1, NumEnd.ofOption]
end Go.Proofs.YtmdkbhbconnmmaaDoor.Num
