/- TimesBack: what may be. (This text: of the Lean functions alone.) -/
import Derived.Test.YteoehlcjllbhfaaGreatDoorPureBack1
import Derived.Test.YteoehlcjllbhfaaGreatDoorXBackx15
import Derived.Test.YteoehlcjllbhfaaGreatDoorXBackx14
namespace Go.Proofs.YteoehlcjllbhfaaGreatDoor.PureBack
open Go.RowKit Go.Proofs.YteoehlcjllbhfaaGreatDoor.XBack Go.Proofs.YteoehlcjllbhfaaGreatDoorW.PrintWords Go.Proofs.YteoehlcjllbhfaaGreatDoorW.PrintLast Go.Proofs.YteoehlcjllbhfaaGreatDoorW.PrintMore
set_option linter.unusedVariables false
set_option linter.unusedSimpArgs false
def b15 (a : Int) (s : ByteArray) : Bool := decide (s.toList = []) && (decide (a < 7258118400000000000) && (Int.tmod a 86400000000000 == 0))
def b16 (a : Int) (s : ByteArray) : Bool := decide (s.toList = []) && decide (a < 86400000000000)
def b17 (a : Int) (s : ByteArray) : Bool := decide (s.toList = []) && decide (a < 7258118400000000000)
theorem may14 (k : Nat) (a : Int) (s : ByteArray) : value_May.f (k + 5) 14 a s = some (decide (s.toList = [])) := by
  unfold value_May.f
  by_cases h : s.toList = []
  · simp [h, value_known.f, value_fits.f, value_signed.f, value_unsigned.f, value_row.f, value_fits.j0]
  · simp [h]
theorem may15 (k : Nat) (a : Int) (s : ByteArray) : value_May.f (k + 5) 15 a s = some (b15 a s) := by
  unfold value_May.f b15
  by_cases h : s.toList = []
  · by_cases h2 : a < 7258118400000000000 <;> simp [h, h2, value_known.f, value_fits.f, value_signed.f, value_unsigned.f, value_row.f, value_fits.j0]
  · simp [h]
theorem may16 (k : Nat) (a : Int) (s : ByteArray) : value_May.f (k + 5) 16 a s = some (b16 a s) := by
  unfold value_May.f b16
  by_cases h : s.toList = []
  · simp [h, value_known.f, value_fits.f, value_signed.f, value_unsigned.f, value_row.f, value_fits.j0]
  · simp [h]
theorem may17 (k : Nat) (a : Int) (s : ByteArray) : value_May.f (k + 5) 17 a s = some (b17 a s) := by
  unfold value_May.f b17
  by_cases h : s.toList = []
  · simp [h, value_known.f, value_fits.f, value_signed.f, value_unsigned.f, value_row.f, value_fits.j0]
  · simp [h]
theorem width0 (k : Nat) (a : Int) (h : 14 ≤ a) : relayref01_Width.f (k + 5) a = some 0 := by
  have e : ∀ n : Int, n < 14 → (a = n) = False := fun n hn => by simp; omega
  have e' : ∀ n : Int, n < 14 → (a == n) = false := fun n hn => by simp; omega
  unfold relayref01_Width.f
  rw [if_neg (by omega), if_neg (by omega), e' 10 (by omega)]
  simp only [relayref01_Width.j0]
  rw [if_neg (by simp), if_neg (by omega), if_neg (by omega), e' 11 (by omega)]
  simp only [relayref01_Width.j1]
  rw [if_neg (by simp), if_neg (by omega), if_neg (by omega), e' 12 (by omega)]
  simp only [relayref01_Width.j2]
  rw [if_neg (by simp), if_neg (by omega), if_neg (by omega), if_neg (by omega)]
theorem wrap_lo {a : Int} (h0 : 0 ≤ a) (h : a < 9223372036854775808) : wrap64 a = a := by unfold wrap64; omega
theorem wrap_hi {a : Int} (h : a < 18446744073709551616) (h1 : ¬ a < 9223372036854775808) : ¬ wrap64 a ≥ 0 := by unfold wrap64; omega
theorem ref14 (k : Nat) (a : Int) (s : ByteArray) (h0 : 0 ≤ a) (h1 : a < 18446744073709551616) : relayref01_May.f (k + 5) 14 a s = some (decide (s.toList = [])) := by
  unfold relayref01_May.f
  by_cases h : s.toList = []
  · simp [h, relayref01_may.f, width0, relayref01_Signed.f]
  · simp [h]
theorem ref15 (k : Nat) (a : Int) (s : ByteArray) (h0 : 0 ≤ a) (h1 : a < 18446744073709551616) : relayref01_May.f (k + 5) 15 a s = some (b15 a s) := by
  unfold relayref01_May.f b15
  by_cases h : s.toList = []
  · by_cases h2 : a < 9223372036854775808
    · by_cases h3 : a < 7258118400000000000 <;> simp [h, h3, h0, relayref01_may.f, width0, relayref01_Signed.f, wrap_lo h0 h2]
    · simp [h, relayref01_may.f, width0, relayref01_Signed.f, wrap_hi h1 h2]
      omega
  · simp [h]
theorem ref16 (k : Nat) (a : Int) (s : ByteArray) (h0 : 0 ≤ a) (h1 : a < 18446744073709551616) : relayref01_May.f (k + 5) 16 a s = some (b16 a s) := by
  unfold relayref01_May.f b16
  by_cases h : s.toList = []
  · by_cases h2 : a < 9223372036854775808
    · simp [h, h0, relayref01_may.f, width0, relayref01_Signed.f, wrap_lo h0 h2]
    · simp [h, relayref01_may.f, width0, relayref01_Signed.f, wrap_hi h1 h2]
      omega
  · simp [h]
theorem ref17 (k : Nat) (a : Int) (s : ByteArray) (h0 : 0 ≤ a) (h1 : a < 18446744073709551616) : relayref01_May.f (k + 5) 17 a s = some (b17 a s) := by
  unfold relayref01_May.f b17
  by_cases h : s.toList = []
  · by_cases h2 : a < 9223372036854775808
    · simp [h, h0, relayref01_may.f, width0, relayref01_Signed.f, wrap_lo h0 h2]
    · simp [h, relayref01_may.f, width0, relayref01_Signed.f, wrap_hi h1 h2]
      omega
  · simp [h]
/-- Each of the program's widths. -/
theorem width_some (k : Nat) (c : Int) : ∃ w, value_width.f (k + 5) c = some w := by
  unfold value_width.f
  simp only [value_width.j0, value_width.j1]
  repeat' split
  all_goals exact ⟨_, rfl⟩
theorem u64_pos (a : Int) : 0 ≤ IntKind.u64.wrap a := by
  simp [IntKind.wrap, IntKind.signed, IntKind.bits]
  omega
theorem most_some (k : Nat) (c : Int) : ∃ w, value_most.f (k + 5) c = some w := by
  obtain ⟨w, hw⟩ := width_some k c
  unfold value_most.f
  rw [hw]
  simp only [Option.bind_some]
  rw [if_pos (u64_pos _)]
  exact ⟨_, rfl⟩
theorem fits_some (k : Nat) (c a : Int) : ∃ b, value_fits.f (k + 6) c a = some b := by
  obtain ⟨w, hw⟩ := width_some (k + 1) c
  obtain ⟨m, hm⟩ := most_some k c
  have hj : ∀ x, ∃ b, value_fits.j0 (k + 6) c a x = some b := by
    intro x
    show ∃ b, value_fits.j0 ((k + 5) + 1) c a x = some b
    simp only [value_fits.j0, hm, Option.bind_some]
    repeat' split
    all_goals exact ⟨_, rfl⟩
  unfold value_fits.f
  split
  · exact ⟨_, rfl⟩
  · have e1 : ∃ b, value_signed.f c = some b := by unfold value_signed.f; split <;> exact ⟨_, rfl⟩
    have e2 : ∃ b, value_unsigned.f c = some b := by unfold value_unsigned.f; split <;> exact ⟨_, rfl⟩
    have e3 : ∃ b, value_row.f c = some b := by unfold value_row.f; split <;> exact ⟨_, rfl⟩
    obtain ⟨b1, e1⟩ := e1
    obtain ⟨b2, e2⟩ := e2
    obtain ⟨b3, e3⟩ := e3
    have hw' : value_width.f (k + 6) c = some w := hw
    rw [e1, e2, e3, hw']
    simp only [Option.bind_some]
    rw [if_pos (u64_pos _)]
    cases b1
    · rw [if_neg (by simp)]
      cases b2
      · rw [if_neg (by simp)]
        exact hj b3
      · rw [if_pos rfl]
        exact hj true
    · rw [if_pos rfl]
      repeat' split
      all_goals exact ⟨_, rfl⟩
/-- Both tell something of every value. -/
theorem may_some (k : Nat) (c a : Int) (s : ByteArray) : ∃ b, value_May.f (k + 6) c a s = some b := by
  obtain ⟨b, hb⟩ := fits_some k c a
  have e : ∃ b, value_known.f c = some b := by unfold value_known.f; split <;> exact ⟨_, rfl⟩
  obtain ⟨b1, e⟩ := e
  unfold value_May.f
  rw [e, hb]
  simp only [Option.bind_some]
  repeat' split
  all_goals exact ⟨_, rfl⟩
theorem ite_w {P : Int → Prop} {c : Prop} [Decidable c] {x y : Option Int} (h1 : ∃ w, x = some w ∧ P w) (h2 : ∃ w, y = some w ∧ P w) : ∃ w, (if c then x else y) = some w ∧ P w := by
  split
  · exact h1
  · exact h2
theorem rwidth_some (k : Nat) (c : Int) : ∃ w : Int, relayref01_Width.f (k + 5) c = some w ∧ (0 ≤ w ∧ w ≤ 64) := by
  unfold relayref01_Width.f
  simp only [relayref01_Width.j0, relayref01_Width.j1, relayref01_Width.j2, beq_iff_eq]
  repeat' first
    | refine ite_w ?_ ?_
    | exact ⟨8, rfl, by decide⟩
    | exact ⟨16, rfl, by decide⟩
    | exact ⟨32, rfl, by decide⟩
    | exact ⟨64, rfl, by decide⟩
    | exact ⟨0, rfl, by decide⟩
theorem rwidth_signed (k : Nat) (c : Int) (h2 : 2 ≤ c) (h5 : c ≤ 5) : ∃ w : Int, relayref01_Width.f (k + 5) c = some w ∧ (8 ≤ w ∧ w ≤ 64) := by
  obtain rfl | rfl | rfl | rfl : c = 2 ∨ c = 3 ∨ c = 4 ∨ c = 5 := by omega
  · exact ⟨8, rfl, by decide⟩
  · exact ⟨16, rfl, by decide⟩
  · exact ⟨32, rfl, by decide⟩
  · exact ⟨64, rfl, by decide⟩
theorem rmay_some (k : Nat) (c a : Int) (s : ByteArray) : ∃ b, relayref01_May.f (k + 5) c a s = some b := by
  have hm : ∃ b, relayref01_may.f (k + 5) c a = some b := by
    obtain ⟨w, hw, w0, w1⟩ := rwidth_some k c
    have e2 : ∃ b, relayref01_isNan.f a = some b := by unfold relayref01_isNan.f; split <;> exact ⟨_, rfl⟩
    obtain ⟨b2, e2⟩ := e2
    unfold relayref01_may.f
    rw [hw, e2]
    simp only [Option.bind_some]
    split
    · exact ⟨_, rfl⟩
    · by_cases hs : 2 ≤ c ∧ c ≤ 5
      · have e1 : relayref01_Signed.f c = some true := by
          unfold relayref01_Signed.f
          rw [if_pos (by omega), decide_eq_true hs.2]
        have h8 : 8 ≤ w := by
          obtain ⟨w', e', h8, _⟩ := rwidth_signed k c hs.1 hs.2
          obtain rfl := Option.some.inj (hw.symm.trans e')
          exact h8
        rw [e1]
        simp only [Option.bind_some]
        have hz : 0 ≤ wrap64 (w - 1) := by unfold wrap64; omega
        simp only [hz, if_true]
        repeat' split
        all_goals exact ⟨_, rfl⟩
      · have e1 : relayref01_Signed.f c = some false := by
          unfold relayref01_Signed.f
          split
          · rw [decide_eq_false (by omega)]
          · rfl
        rw [e1]
        simp only [Option.bind_some, w0, if_true, Bool.false_eq_true, if_false]
        repeat' split
        all_goals exact ⟨_, rfl⟩
  obtain ⟨b, hm⟩ := hm
  unfold relayref01_May.f
  rw [hm]
  simp only [Option.bind_some]
  repeat' split
  all_goals exact ⟨_, rfl⟩
end Go.Proofs.YteoehlcjllbhfaaGreatDoor.PureBack
