/- What the document's May tells of a date, a time of day, both. (This text: of the Lean functions alone.) -/
import Derived.Test.YteoehlcjllbhfaaGreatDoorXTimesx15
namespace Go.Proofs.YteoehlcjllbhfaaGreatDoor.PureRef
open Go.RowKit Go.Proofs.YteoehlcjllbhfaaGreatDoor.XTimes Go.Proofs.YteoehlcjllbhfaaGreatDoorW.PrintWords Go.Proofs.YteoehlcjllbhfaaGreatDoorW.PrintLast
set_option linter.unusedVariables false
set_option linter.unusedSimpArgs false

/-- What may be, of a date. -/
def b15 (a : Int) (s : ByteArray) : Bool := decide (s.toList = []) && (decide (a < 7258118400000000000) && (Int.tmod a 86400000000000 == 0))
def b16 (a : Int) (s : ByteArray) : Bool := decide (s.toList = []) && decide (a < 86400000000000)
def b17 (a : Int) (s : ByteArray) : Bool := decide (s.toList = []) && decide (a < 7258118400000000000)

theorem width0 (k : Nat) (a : Int) (h : 14 ≤ a) : relayref01_Width.f (k + 5) a = some 0 := by
  have e : ∀ n : Int, n < 14 → (a = n) = False := fun n hn => by simp; omega
  have e' : ∀ n : Int, n < 14 → (a == n) = false := fun n hn => by simp; omega
  unfold relayref01_Width.f
  rw [if_neg (by omega), if_neg (by omega), e' 10 (by omega)]
  simp only [relayref01_Width.j0]
  rw [if_neg (by simp), if_neg (by omega), if_neg (by omega), e' 11 (by omega)]
  simp only [relayref01_Width.j1]
  rw [if_neg (by simp), if_neg (by omega), if_neg (by omega), e' 12 (by omega)]
  simp only [relayref01_Width.j2]
  rw [if_neg (by simp), if_neg (by omega), if_neg (by omega), if_neg (by omega)]
theorem wrap_lo {a : Int} (h0 : 0 ≤ a) (h : a < 9223372036854775808) : wrap64 a = a := by unfold wrap64; omega
theorem wrap_hi {a : Int} (h : a < 18446744073709551616) (h1 : ¬ a < 9223372036854775808) : ¬ wrap64 a ≥ 0 := by unfold wrap64; omega
theorem ref15 (k : Nat) (a : Int) (s : ByteArray) (h0 : 0 ≤ a) (h1 : a < 18446744073709551616) : relayref01_May.f (k + 5) 15 a s = some (b15 a s) := by
  unfold relayref01_May.f b15
  by_cases h : s.toList = []
  · by_cases h2 : a < 9223372036854775808
    · by_cases h3 : a < 7258118400000000000 <;> simp [h, h3, h0, relayref01_may.f, width0, relayref01_Signed.f, wrap_lo h0 h2]
    · simp [h, relayref01_may.f, width0, relayref01_Signed.f, wrap_hi h1 h2]
      omega
  · simp [h]
theorem ref16 (k : Nat) (a : Int) (s : ByteArray) (h0 : 0 ≤ a) (h1 : a < 18446744073709551616) : relayref01_May.f (k + 5) 16 a s = some (b16 a s) := by
  unfold relayref01_May.f b16
  by_cases h : s.toList = []
  · by_cases h2 : a < 9223372036854775808
    · simp [h, h0, relayref01_may.f, width0, relayref01_Signed.f, wrap_lo h0 h2]
    · simp [h, relayref01_may.f, width0, relayref01_Signed.f, wrap_hi h1 h2]
      omega
  · simp [h]
theorem ref17 (k : Nat) (a : Int) (s : ByteArray) (h0 : 0 ≤ a) (h1 : a < 18446744073709551616) : relayref01_May.f (k + 5) 17 a s = some (b17 a s) := by
  unfold relayref01_May.f b17
  by_cases h : s.toList = []
  · by_cases h2 : a < 9223372036854775808
    · simp [h, h0, relayref01_may.f, width0, relayref01_Signed.f, wrap_lo h0 h2]
    · simp [h, relayref01_may.f, width0, relayref01_Signed.f, wrap_hi h1 h2]
      omega
  · simp [h]

theorem nil_list : (⟨#[]⟩ : ByteArray).toList = [] := by kernel_rfl
end Go.Proofs.YteoehlcjllbhfaaGreatDoor.PureRef
