/- Numerals with leading noughts, in plain Lean. -/
import Derived.Lib.ItoaNum
namespace Go.Proofs.YteoehlcjllbhfaaDoor.Dec
open Go.Lib
/-- A number in at least so many digits. -/
def padL (n least : Nat) : List UInt8 := List.replicate (least - (decDigits n).length) 48 ++ decDigits n
/-- A number's digits ahead of some; none for nought. -/
def body (n : Nat) : List UInt8 := if n = 0 then [] else decDigits n
theorem body_zero : body 0 = [] := rfl
theorem body_step (n : Nat) (h : 0 < n) : body n = body (n / 10) ++ [UInt8.ofNat (48 + n % 10)] := by
  unfold body
  rw [if_neg (by omega)]
  by_cases c : n < 10
  · rw [decDigits, dif_pos c, if_pos (by omega), show n % 10 = n by omega]
    rfl
  · rw [decDigits, dif_neg c, if_neg (by omega)]
theorem body_length : ∀ (k n : Nat), n < 10 ^ k → (body n).length ≤ k
  | 0, n, h => by
    obtain rfl : n = 0 := by simpa using h
    simp [body_zero]
  | k + 1, n, h => by
    rcases Nat.eq_zero_or_pos n with c | c
    · subst c
      simp [body_zero]
    · rw [body_step n c, List.length_append]
      have : n / 10 < 10 ^ k := by
        rw [Nat.div_lt_iff_lt_mul (by omega)]
        rw [Nat.pow_succ] at h
        exact h
      have := body_length k (n / 10) this
      simp
      omega
theorem dec_length (k n : Nat) (h : n < 10 ^ (k + 1)) : (decDigits n).length ≤ k + 1 := by
  rcases Nat.eq_zero_or_pos n with c | c
  · subst c
    rw [decDigits_one (by omega)]
    simp
  · have := body_length (k + 1) n h
    unfold body at this
    rwa [if_neg (by omega)] at this
theorem pad_body (n least : Nat) (h : 1 ≤ least) : padL n least = List.replicate (least - (body n).length) 48 ++ body n := by
  unfold padL body
  by_cases c : n = 0
  · subst c
    rw [if_pos rfl, decDigits_one (by omega)]
    show List.replicate (least - 1) 48 ++ [48] = List.replicate (least - 0) 48 ++ []
    rw [List.append_nil, show least - 0 = (least - 1) + 1 by omega, List.replicate_succ']
  · rw [if_neg c]
/-- Noughts ahead, a nought more behind them. -/
theorem rep_snoc (k : Nat) (s : List UInt8) : List.replicate k (48 : UInt8) ++ (48 :: s) = List.replicate (k + 1) 48 ++ s := by
  rw [List.replicate_succ', List.append_assoc]
  rfl
end Go.Proofs.YteoehlcjllbhfaaDoor.Dec
