/- TimesApart: for every value, Join of both Parts is the value. (This text: of the Lean functions alone.) -/
import Derived.Test.YteoehlcjllbhfaaGreatDoorXTimesx17
import Derived.Test.YteoehlcjllbhfaaGreatDoorAwake
namespace Go.Proofs.YteoehlcjllbhfaaGreatDoor.PureApart
open Go.RowKit Go.Proofs.YteoehlcjllbhfaaGreatDoor.XTimes Go.Proofs.YteoehlcjllbhfaaGreatDoorW.PrintWords Go.Proofs.YteoehlcjllbhfaaGreatDoorW.PrintLast
set_option linter.unusedVariables false
set_option linter.unusedSimpArgs false

/-- What may be, of a date. -/
def b15 (a : Int) (s : ByteArray) : Bool := decide (s.toList = []) && (decide (a < 7258118400000000000) && (Int.tmod a 86400000000000 == 0))
def b16 (a : Int) (s : ByteArray) : Bool := decide (s.toList = []) && decide (a < 86400000000000)
def b17 (a : Int) (s : ByteArray) : Bool := decide (s.toList = []) && decide (a < 7258118400000000000)

theorem may15 (k : Nat) (a : Int) (s : ByteArray) : value_May.f (k + 5) 15 a s = some (b15 a s) := by
  unfold value_May.f b15
  by_cases h : s.toList = []
  · by_cases h2 : a < 7258118400000000000 <;> simp [h, h2, value_known.f, value_fits.f, value_signed.f, value_unsigned.f, value_row.f, value_fits.j0]
  · simp [h]
theorem may16 (k : Nat) (a : Int) (s : ByteArray) : value_May.f (k + 5) 16 a s = some (b16 a s) := by
  unfold value_May.f b16
  by_cases h : s.toList = []
  · simp [h, value_known.f, value_fits.f, value_signed.f, value_unsigned.f, value_row.f, value_fits.j0]
  · simp [h]
theorem may17 (k : Nat) (a : Int) (s : ByteArray) : value_May.f (k + 5) 17 a s = some (b17 a s) := by
  unfold value_May.f b17
  by_cases h : s.toList = []
  · simp [h, value_known.f, value_fits.f, value_signed.f, value_unsigned.f, value_row.f, value_fits.j0]
  · simp [h]
theorem width0 (k : Nat) (a : Int) (h : 14 ≤ a) : relayref01_Width.f (k + 5) a = some 0 := by
  have e : ∀ n : Int, n < 14 → (a = n) = False := fun n hn => by simp; omega
  have e' : ∀ n : Int, n < 14 → (a == n) = false := fun n hn => by simp; omega
  unfold relayref01_Width.f
  rw [if_neg (by omega), if_neg (by omega), e' 10 (by omega)]
  simp only [relayref01_Width.j0]
  rw [if_neg (by simp), if_neg (by omega), if_neg (by omega), e' 11 (by omega)]
  simp only [relayref01_Width.j1]
  rw [if_neg (by simp), if_neg (by omega), if_neg (by omega), e' 12 (by omega)]
  simp only [relayref01_Width.j2]
  rw [if_neg (by simp), if_neg (by omega), if_neg (by omega), if_neg (by omega)]
theorem wrap_lo {a : Int} (h0 : 0 ≤ a) (h : a < 9223372036854775808) : wrap64 a = a := by unfold wrap64; omega
theorem wrap_hi {a : Int} (h : a < 18446744073709551616) (h1 : ¬ a < 9223372036854775808) : ¬ wrap64 a ≥ 0 := by unfold wrap64; omega
theorem ref15 (k : Nat) (a : Int) (s : ByteArray) (h0 : 0 ≤ a) (h1 : a < 18446744073709551616) : relayref01_May.f (k + 5) 15 a s = some (b15 a s) := by
  unfold relayref01_May.f b15
  by_cases h : s.toList = []
  · by_cases h2 : a < 9223372036854775808
    · by_cases h3 : a < 7258118400000000000 <;> simp [h, h3, h0, relayref01_may.f, width0, relayref01_Signed.f, wrap_lo h0 h2]
    · simp [h, relayref01_may.f, width0, relayref01_Signed.f, wrap_hi h1 h2]
      omega
  · simp [h]
theorem ref16 (k : Nat) (a : Int) (s : ByteArray) (h0 : 0 ≤ a) (h1 : a < 18446744073709551616) : relayref01_May.f (k + 5) 16 a s = some (b16 a s) := by
  unfold relayref01_May.f b16
  by_cases h : s.toList = []
  · by_cases h2 : a < 9223372036854775808
    · simp [h, h0, relayref01_may.f, width0, relayref01_Signed.f, wrap_lo h0 h2]
    · simp [h, relayref01_may.f, width0, relayref01_Signed.f, wrap_hi h1 h2]
      omega
  · simp [h]
theorem ref17 (k : Nat) (a : Int) (s : ByteArray) (h0 : 0 ≤ a) (h1 : a < 18446744073709551616) : relayref01_May.f (k + 5) 17 a s = some (b17 a s) := by
  unfold relayref01_May.f b17
  by_cases h : s.toList = []
  · by_cases h2 : a < 9223372036854775808
    · simp [h, h0, relayref01_may.f, width0, relayref01_Signed.f, wrap_lo h0 h2]
    · simp [h, relayref01_may.f, width0, relayref01_Signed.f, wrap_hi h1 h2]
      omega
  · simp [h]

theorem nil_list : (⟨#[]⟩ : ByteArray).toList = [] := by kernel_rfl
theorem u64_wrap {a : Int} (h0 : 0 ≤ a) (h : a < 18446744073709551616) : IntKind.u64.wrap a = a := by
  simp [IntKind.wrap, IntKind.signed, IntKind.bits]
  omega
theorem part17 (k t v1 : Int) (v2 : ByteArray) (n : Nat) : times_Part.f (n + 6) t 17 v1 v2 = times_Part.j0 (n + 6) t (!b17 v1 v2) 17 v1 v2 := by
  unfold times_Part.f
  rw [if_pos rfl, may17 (n + 1)]
  rfl
theorem TimesApart (v0 v1 : Int) (v2 : ByteArray) (hv : 0 ≤ v1 ∧ v1 < 18446744073709551616) : ∃ k, relaylaw02_TimesApart.f k v0 v1 v2 = some true := by
  obtain ⟨n, ha⟩ := Awake.awake
  have ha' : relaylaw02_awake.f (n + 6) = some true := ha (n + 6) (by omega)
  refine ⟨n + 7, ?_⟩
  by_cases h : v0 = 17
  · subst h
    unfold relaylaw02_TimesApart.f
    rw [part17 0 15 v1 v2 (n + 1), part17 0 16 v1 v2 (n + 1)]
    have hr := ref17 (n + 2) v1 v2 hv.1 hv.2
    rw [show n + 2 + 5 = n + 7 by omega] at hr
    simp only [if_true, hr, Option.bind_some]
    cases hb : b17 v1 v2 with
    | false => simp [times_Part.j0, relaylaw02_TimesApart.j0, ha']
    | true =>
      simp only [b17, Bool.and_eq_true, decide_eq_true_eq] at hb
      obtain ⟨h2, h1⟩ := hb
      have t0 : Int.tmod v1 86400000000000 = v1 % 86400000000000 := Int.tmod_eq_emod_of_nonneg hv.1
      have w0 : IntKind.u64.wrap (v1 - v1 % 86400000000000) = v1 - v1 % 86400000000000 := u64_wrap (by omega) (by omega)
      have e15 : b15 (v1 - v1 % 86400000000000) ⟨#[]⟩ = true := by
        have : Int.tmod (v1 - v1 % 86400000000000) 86400000000000 = 0 := by rw [Int.tmod_eq_emod_of_nonneg (by omega)]; omega
        simp only [b15, this, Bool.and_eq_true, decide_eq_true_eq]
        exact ⟨nil_list, by omega, by rfl⟩
      have e16 : b16 (v1 % 86400000000000) ⟨#[]⟩ = true := by
        simp only [b16, Bool.and_eq_true, decide_eq_true_eq]
        exact ⟨nil_list, by omega⟩
      have hj : times_Join.f (n + 6) 15 (v1 - v1 % 86400000000000) ⟨#[]⟩ 16 (v1 % 86400000000000) ⟨#[]⟩ = some (17, v1, ⟨#[]⟩, true) := by
        unfold times_Join.f
        rw [if_pos rfl, if_pos rfl, may15 (n + 1), may16 (n + 1), e15, e16]
        simp only [Option.bind_some, if_true]
        rw [show v1 - v1 % 86400000000000 + v1 % 86400000000000 = v1 by omega, u64_wrap hv.1 hv.2]
      have r15 := ref15 (n + 1) (v1 - v1 % 86400000000000) ⟨#[]⟩ (by omega) (by omega)
      have r16 := ref16 (n + 1) (v1 % 86400000000000) ⟨#[]⟩ (by omega) (by omega)
      rw [e15] at r15
      rw [e16] at r16
      have el : (ByteArray.toList ⟨#[]⟩ == v2.toList) = true := by rw [h2, nil_list]; rfl
      have el' : (([] : List UInt8) == v2.toList) = true := by rw [h2]; rfl
      simp [times_Part.j0, relaylaw02_TimesApart.j0, t0, w0, hj, r15, r16, el, el', h2]
  · unfold relaylaw02_TimesApart.f times_Part.f
    simp only [if_neg h]
    simp [times_Part.j0, relaylaw02_TimesApart.j0, ha']
end Go.Proofs.YteoehlcjllbhfaaGreatDoor.PureApart
