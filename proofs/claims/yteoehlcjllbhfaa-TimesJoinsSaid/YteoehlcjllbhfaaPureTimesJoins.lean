/- TimesJoins: for all values and every kind the program's Join and Part tell what the document's Join and Part tell. No condition. (This text: of the Lean functions alone.) -/
import Derived.Test.YteoehlcjllbhfaaXTimesJoinsx4
namespace Go.Proofs.Yteoehlcjllbhfaa.Pure
open Go.RowKit Go.Proofs.Yteoehlcjllbhfaa.XTimesJoins Go.Proofs.YteoehlcjllbhfaaW.PrintWords Go.Proofs.YteoehlcjllbhfaaW.PrintLast

namespace TJ

/-- What may be, of a date. -/
def b15 (a : Int) (s : ByteArray) : Bool := decide (s.toList = []) && (decide (a < 7258118400000000000) && (Int.tmod a 86400000000000 == 0))
def b16 (a : Int) (s : ByteArray) : Bool := decide (s.toList = []) && decide (a < 86400000000000)
def b17 (a : Int) (s : ByteArray) : Bool := decide (s.toList = []) && decide (a < 7258118400000000000)

theorem may15 (k : Nat) (a : Int) (s : ByteArray) : value_May.f (k + 5) 15 a s = some (b15 a s) := by
  unfold value_May.f b15
  by_cases h : s.toList = []
  · by_cases h2 : a < 7258118400000000000 <;> simp [h, h2, value_known.f, value_fits.f, value_signed.f, value_unsigned.f, value_row.f, value_fits.j0]
  · simp [h]
theorem may16 (k : Nat) (a : Int) (s : ByteArray) : value_May.f (k + 5) 16 a s = some (b16 a s) := by
  unfold value_May.f b16
  by_cases h : s.toList = []
  · simp [h, value_known.f, value_fits.f, value_signed.f, value_unsigned.f, value_row.f, value_fits.j0]
  · simp [h]
theorem may17 (k : Nat) (a : Int) (s : ByteArray) : value_May.f (k + 5) 17 a s = some (b17 a s) := by
  unfold value_May.f b17
  by_cases h : s.toList = []
  · simp [h, value_known.f, value_fits.f, value_signed.f, value_unsigned.f, value_row.f, value_fits.j0]
  · simp [h]
theorem width0 (k : Nat) (a : Int) (h : 14 ≤ a) : relayref01_Width.f (k + 5) a = some 0 := by
  have e : ∀ n : Int, n < 14 → (a = n) = False := fun n hn => by simp; omega
  have e' : ∀ n : Int, n < 14 → (a == n) = false := fun n hn => by simp; omega
  unfold relayref01_Width.f
  rw [if_neg (by omega), if_neg (by omega), e' 10 (by omega)]
  simp only [relayref01_Width.j0]
  rw [if_neg (by simp), if_neg (by omega), if_neg (by omega), e' 11 (by omega)]
  simp only [relayref01_Width.j1]
  rw [if_neg (by simp), if_neg (by omega), if_neg (by omega), e' 12 (by omega)]
  simp only [relayref01_Width.j2]
  rw [if_neg (by simp), if_neg (by omega), if_neg (by omega), if_neg (by omega)]
theorem wrap_lo {a : Int} (h0 : 0 ≤ a) (h : a < 9223372036854775808) : wrap64 a = a := by unfold wrap64; omega
theorem wrap_hi {a : Int} (h : a < 18446744073709551616) (h1 : ¬ a < 9223372036854775808) : ¬ wrap64 a ≥ 0 := by unfold wrap64; omega
theorem ref15 (k : Nat) (a : Int) (s : ByteArray) (h0 : 0 ≤ a) (h1 : a < 18446744073709551616) : relayref01_May.f (k + 5) 15 a s = some (b15 a s) := by
  unfold relayref01_May.f b15
  by_cases h : s.toList = []
  · by_cases h2 : a < 9223372036854775808
    · by_cases h3 : a < 7258118400000000000 <;> simp [h, h3, h0, relayref01_may.f, width0, relayref01_Signed.f, wrap_lo h0 h2]
    · simp [h, relayref01_may.f, width0, relayref01_Signed.f, wrap_hi h1 h2]
      omega
  · simp [h]
theorem ref16 (k : Nat) (a : Int) (s : ByteArray) (h0 : 0 ≤ a) (h1 : a < 18446744073709551616) : relayref01_May.f (k + 5) 16 a s = some (b16 a s) := by
  unfold relayref01_May.f b16
  by_cases h : s.toList = []
  · by_cases h2 : a < 9223372036854775808
    · simp [h, h0, relayref01_may.f, width0, relayref01_Signed.f, wrap_lo h0 h2]
    · simp [h, relayref01_may.f, width0, relayref01_Signed.f, wrap_hi h1 h2]
      omega
  · simp [h]
theorem ref17 (k : Nat) (a : Int) (s : ByteArray) (h0 : 0 ≤ a) (h1 : a < 18446744073709551616) : relayref01_May.f (k + 5) 17 a s = some (b17 a s) := by
  unfold relayref01_May.f b17
  by_cases h : s.toList = []
  · by_cases h2 : a < 9223372036854775808
    · simp [h, h0, relayref01_may.f, width0, relayref01_Signed.f, wrap_lo h0 h2]
    · simp [h, relayref01_may.f, width0, relayref01_Signed.f, wrap_hi h1 h2]
      omega
  · simp [h]

theorem join (d0 d1 : Int) (d2 : ByteArray) (t0 t1 : Int) (t2 : ByteArray) (hd : 0 ≤ d1 ∧ d1 < 18446744073709551616) (ht : 0 ≤ t1 ∧ t1 < 18446744073709551616) :
    ∃ r, times_Join.f 6 d0 d1 d2 t0 t1 t2 = some r ∧ relayref02_Join.f 6 d0 d1 d2 t0 t1 t2 = some r := by
  unfold times_Join.f relayref02_Join.f
  by_cases h : d0 = 15
  · by_cases h2 : t0 = 16
    · subst h; subst h2
      rw [if_pos rfl, if_pos rfl, if_pos rfl, if_pos rfl, may15 1, may16 1, ref15 1 _ _ hd.1 hd.2, ref16 1 _ _ ht.1 ht.2]
      simp only [Option.bind_some]
      cases b15 d1 d2 <;> cases b16 t1 t2 <;> simp
    · rw [if_pos h, if_neg h2, if_pos h, if_neg h2]
      exact ⟨_, rfl, rfl⟩
  · rw [if_neg h, if_neg h]
    exact ⟨_, rfl, rfl⟩
theorem part (k v0 v1 : Int) (v2 : ByteArray) (hv : 0 ≤ v1 ∧ v1 < 18446744073709551616) :
    ∃ r, times_Part.f 6 k v0 v1 v2 = some r ∧ relayref02_Part.f 6 k v0 v1 v2 = some r := by
  unfold times_Part.f relayref02_Part.f
  by_cases h : v0 = 17
  · subst h
    rw [if_pos rfl, if_pos rfl, may17 1, ref17 1 _ _ hv.1 hv.2]
    simp only [Option.bind_some, times_Part.j0, relayref02_Part.j0]
    cases b17 v1 v2 with
    | false => simp
    | true =>
      by_cases h1 : k = 15
      · subst h1; simp
      · by_cases h2 : k = 16
        · subst h2; simp
        · simp [h1, h2]
  · rw [if_neg h, if_neg h]
    simp [times_Part.j0, relayref02_Part.j0]

end TJ

theorem TimesJoins (d0 d1 : Int) (d2 : ByteArray) (t0 t1 : Int) (t2 : ByteArray) (k : Int) (hd : 0 ≤ d1 ∧ d1 < 18446744073709551616) (ht : 0 ≤ t1 ∧ t1 < 18446744073709551616) :
    relaylaw02_TimesJoins.f 6 d0 d1 d2 t0 t1 t2 k = some true := by
  obtain ⟨r, h1, h2⟩ := TJ.join d0 d1 d2 t0 t1 t2 hd ht
  obtain ⟨q, h3, h4⟩ := TJ.part k d0 d1 d2 hd
  unfold relaylaw02_TimesJoins.f
  rw [h1, h2, h3, h4]
  simp

end Go.Proofs.Yteoehlcjllbhfaa.Pure
