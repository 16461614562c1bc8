/- TimesPrints: times of day, the program's. (This text: of the Lean functions alone.) -/
import Derived.Test.YteoehlcjllbhfaaDoorPureClock
namespace Go.Proofs.YteoehlcjllbhfaaDoor.PurePad
open Go.RowKit Go.Proofs.YteoehlcjllbhfaaDoor.XPrints Go.Proofs.YteoehlcjllbhfaaDoorW.PrintWords Go.Proofs.YteoehlcjllbhfaaDoorW.PrintLast Go.Proofs.YteoehlcjllbhfaaDoorW.PrintMore Go.Proofs.YteoehlcjllbhfaaDoor.Dec
set_option linter.unusedVariables false
set_option linter.unusedSimpArgs false
theorem trim_le (l : List UInt8) : (Lib.trimRightB l 48).length ≤ l.length := by
  unfold Lib.trimRightB
  rw [List.length_reverse]
  have := (List.dropWhile_sublist (p := (· == (48 : UInt8))) (l := l.reverse)).length_le
  rwa [List.length_reverse] at this
theorem clock_prog (n : Nat) (hn : n < 86400000000000) : times_clockText.f (n : Int) = some (mk (clockHead (n / 3600000000000) (n % 3600000000000 / 60000000000) (n % 60000000000 / 1000000000) ++ tail (padL (n % 1000000000) 9))) := by
  have e1 : wrap64 (Int.tdiv (n : Int) 3600000000000) = ((n / 3600000000000 : Nat) : Int) := by
    rw [Int.tdiv_eq_ediv_of_nonneg (by omega), wrap_eq (by omega) (by omega)]
    omega
  have e2 : wrap64 (Int.tdiv (Int.tmod (n : Int) 3600000000000) 60000000000) = ((n % 3600000000000 / 60000000000 : Nat) : Int) := by
    rw [Int.tmod_eq_emod_of_nonneg (by omega), Int.tdiv_eq_ediv_of_nonneg (by omega), wrap_eq (by omega) (by omega)]
    omega
  have e3 : wrap64 (Int.tdiv (Int.tmod (n : Int) 60000000000) 1000000000) = ((n % 60000000000 / 1000000000 : Nat) : Int) := by
    rw [Int.tmod_eq_emod_of_nonneg (by omega), Int.tdiv_eq_ediv_of_nonneg (by omega), wrap_eq (by omega) (by omega)]
    omega
  have e4 : Int.tmod (n : Int) 1000000000 = ((n % 1000000000 : Nat) : Int) := by
    rw [Int.tmod_eq_emod_of_nonneg (by omega)]
    omega
  have f1 := pad_eq (n / 3600000000000) 2 (by omega) (by omega)
  have f2 := pad_eq (n % 3600000000000 / 60000000000) 2 (by omega) (by omega)
  have f3 := pad_eq (n % 60000000000 / 1000000000) 2 (by omega) (by omega)
  have f4 := pad_eq (n % 1000000000) 9 (by omega) (by omega)
  have l1 := pad_length (n / 3600000000000) 2 1 (by show _ < 100; omega) (by omega)
  have l2 := pad_length (n % 3600000000000 / 60000000000) 2 1 (by show _ < 100; omega) (by omega)
  have l3 := pad_length (n % 60000000000 / 1000000000) 2 1 (by show _ < 100; omega) (by omega)
  have l4 := pad_length (n % 1000000000) 9 8 (by show _ < 1000000000; omega) (by omega)
  have lt := trim_le (padL (n % 1000000000) 9)
  unfold times_clockText.f
  rw [e1, e2, e3, e4]
  rw [show ((2 : Int)) = ((2 : Nat) : Int) from rfl, show ((9 : Int)) = ((9 : Nat) : Int) from rfl, f1]
  simp only [Option.bind_some]
  rw [mk_size, l1, if_pos (by omega), f2]
  simp only [Option.bind_some]
  rw [show (⟨#[58]⟩ : ByteArray) = mk [58] from rfl, mk_append, mk_append, mk_append, mk_size, mk_size, mk_size, if_pos (by simp only [List.length_append, List.length_singleton, l1, l2]; omega), if_pos (by simp only [List.length_append, List.length_singleton, l1, l2]; omega), f3]
  simp only [Option.bind_some]
  rw [mk_append, mk_size, mk_size, if_pos (by simp only [List.length_append, List.length_singleton, l1, l2, l3]; omega)]
  by_cases c : n % 1000000000 = 0
  · rw [c, if_neg (by omega), tail_zero, List.append_nil]
    rfl
  · have ht : strings_TrimRight.f (mk (padL (n % 1000000000) 9)) (⟨#[48]⟩ : ByteArray) = some (mk (Lib.trimRightB (padL (n % 1000000000) 9) 48)) := by
      unfold strings_TrimRight.f
      rw [if_pos rfl, if_pos (by rw [mk_size]; omega)]
      rfl
    rw [if_pos (by omega), f4]
    simp only [Option.bind_some]
    rw [ht]
    simp only [Option.bind_some]
    rw [mk_size, if_pos (by omega), show (⟨#[46]⟩ : ByteArray) = mk [46] from rfl, mk_append, mk_append, mk_size, mk_size, if_pos (by simp only [List.length_append, List.length_singleton, l1, l2, l3]; omega), tail_some _ (by omega)]
    rfl
end Go.Proofs.YteoehlcjllbhfaaDoor.PurePad
