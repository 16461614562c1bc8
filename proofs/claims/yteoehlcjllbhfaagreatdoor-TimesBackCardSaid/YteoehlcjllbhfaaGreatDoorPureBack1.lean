/- TimesBack: what Print tells, its clocks. (This text: of the Lean functions alone.) -/
import Derived.Test.YteoehlcjllbhfaaGreatDoorXBackx16
import Derived.Test.YteoehlcjllbhfaaGreatDoorXBackx17
import Derived.Lib.ItoaNum
import Derived.Lib.ItoaMem
namespace Go.Proofs.YteoehlcjllbhfaaGreatDoor.PureBack
open Go.RowKit Go.Proofs.YteoehlcjllbhfaaGreatDoor.XBack Go.Proofs.YteoehlcjllbhfaaGreatDoorW.PrintWords Go.Proofs.YteoehlcjllbhfaaGreatDoorW.PrintLast Go.Proofs.YteoehlcjllbhfaaGreatDoorW.PrintMore
open Go.Lib (decDigits decDigits_one)
set_option linter.unusedVariables false
set_option linter.unusedSimpArgs false
/-- A number in at least so many digits. -/
def padL (n least : Nat) : List UInt8 := List.replicate (least - (decDigits n).length) 48 ++ decDigits n
/-- A number's digits ahead of some; none for nought. -/
def body (n : Nat) : List UInt8 := if n = 0 then [] else decDigits n
theorem body_zero : body 0 = [] := rfl
theorem body_step (n : Nat) (h : 0 < n) : body n = body (n / 10) ++ [UInt8.ofNat (48 + n % 10)] := by
  unfold body
  rw [if_neg (by omega)]
  by_cases c : n < 10
  · rw [decDigits, dif_pos c, if_pos (by omega), show n % 10 = n by omega]
    rfl
  · rw [decDigits, dif_neg c, if_neg (by omega)]
theorem body_length : ∀ (k n : Nat), n < 10 ^ k → (body n).length ≤ k
  | 0, n, h => by
    obtain rfl : n = 0 := by simpa using h
    simp [body_zero]
  | k + 1, n, h => by
    rcases Nat.eq_zero_or_pos n with c | c
    · subst c
      simp [body_zero]
    · rw [body_step n c, List.length_append]
      have : n / 10 < 10 ^ k := by
        rw [Nat.div_lt_iff_lt_mul (by omega)]
        rw [Nat.pow_succ] at h
        exact h
      have := body_length k (n / 10) this
      simp
      omega
theorem dec_length (k n : Nat) (h : n < 10 ^ (k + 1)) : (decDigits n).length ≤ k + 1 := by
  rcases Nat.eq_zero_or_pos n with c | c
  · subst c
    rw [decDigits_one (by omega)]
    simp
  · have := body_length (k + 1) n h
    unfold body at this
    rwa [if_neg (by omega)] at this
theorem pad_body (n least : Nat) (h : 1 ≤ least) : padL n least = List.replicate (least - (body n).length) 48 ++ body n := by
  unfold padL body
  by_cases c : n = 0
  · subst c
    rw [if_pos rfl, decDigits_one (by omega)]
    show List.replicate (least - 1) 48 ++ [48] = List.replicate (least - 0) 48 ++ []
    rw [List.append_nil, show least - 0 = (least - 1) + 1 by omega, List.replicate_succ']
  · rw [if_neg c]
/-- Noughts ahead, a nought more behind them. -/
theorem rep_snoc (k : Nat) (s : List UInt8) : List.replicate k (48 : UInt8) ++ (48 :: s) = List.replicate (k + 1) 48 ++ s := by
  rw [List.replicate_succ', List.append_assoc]
  rfl
/-- A text by its bytes. -/
def mk (l : List UInt8) : ByteArray := ⟨l.toArray⟩
theorem mk_size (l : List UInt8) : (mk l).size = l.length := by
  show l.toArray.size = _
  rw [List.size_toArray]
theorem mk_data (s : ByteArray) : mk s.data.toList = s := by
  obtain ⟨⟨l⟩⟩ := s
  rfl
theorem mk_list (l : List UInt8) : (mk l).toList = l := ByteArray.toList_mk l
theorem mk_inj {a b : ByteArray} (h : a.data.toList = b.data.toList) : a = b := by rw [← mk_data a, ← mk_data b, h]
theorem mk_append (a b : List UInt8) : mk a ++ mk b = mk (a ++ b) := mk_inj (Go.Joins.data_append (mk a) (mk b))
theorem wrap_eq {a : Int} (h0 : -9223372036854775808 ≤ a) (h : a ≤ 9223372036854775807) : wrap64 a = a := by unfold wrap64; omega
theorem u64_eq {a : Int} (h0 : 0 ≤ a) (h : a < 18446744073709551616) : IntKind.u64.wrap a = a := by
  simp [IntKind.wrap, IntKind.signed, IntKind.bits]
  omega
theorem pow20 : (18446744073709551616 : Nat) ≤ 10 ^ 20 := by decide

/-- The program's pad. -/
theorem pad_eq (n : Nat) (least : Nat) (hn : n ≤ 9223372036854775807) (hl : least ≤ 100) : times_pad.f (n : Int) (least : Int) = some (mk (padL n least)) := by
  have hd : (Lib.decDigits n).length ≤ 20 := dec_length 19 n (by have := pow20; omega)
  have e1 : strconv_Itoa.f (n : Int) = some (mk (Lib.decDigits n)) := by
    unfold strconv_Itoa.f
    rw [if_pos ⟨by omega, by omega⟩, Lib.itoa_nonneg]
    rfl
  unfold times_pad.f
  rw [e1]
  simp only [Option.bind_some]
  rw [mk_size, wrap_eq (by omega) (by omega)]
  have e2 : strings_Repeat.f (⟨#[48]⟩ : ByteArray) (mx 0 ((least : Int) - ((Lib.decDigits n).length : Int))) = some (mk (List.replicate (least - (Lib.decDigits n).length) 48)) := by
    have em : mx 0 ((least : Int) - ((Lib.decDigits n).length : Int)) = ((least - (Lib.decDigits n).length : Nat) : Int) := by
      unfold mx
      split <;> omega
    rw [em]
    unfold strings_Repeat.f
    rw [if_pos ⟨rfl, by omega, by omega⟩]
    rfl
  rw [e2]
  simp only [Option.bind_some]
  rw [mk_size, List.length_replicate, if_pos (by omega), mk_append]
  rfl
theorem bt_mk (l : List UInt8) (i : Nat) (h : i < l.length) : bt (mk l) (i : Int) = ((l[i]).toNat : Int) := by
  unfold bt
  have h' : (i : Int).toNat < (mk l).size := by rw [mk_size]; exact h
  rw [dif_pos h']
  rfl
theorem take_mk (l : List UInt8) (e : Nat) : (mk l).extract 0 e = mk (l.take e) := by
  apply mk_inj
  rw [Lib.extract_data]
  rfl
/-- What stands behind the seconds. -/
def tail (l : List UInt8) : List UInt8 := if Lib.trimRightB l 48 = [] then [] else 46 :: Lib.trimRightB l 48
theorem pad_length (n least k : Nat) (h : n < 10 ^ (k + 1)) (hk : k + 1 ≤ least) : (padL n least).length = least := by
  have := dec_length k n h
  unfold padL
  rw [List.length_append, List.length_replicate]
  omega
/-- The head of a time of day. -/
def clockHead (h m c : Nat) : List UInt8 := padL h 2 ++ [58] ++ padL m 2 ++ [58] ++ padL c 2
theorem head_length (h m c : Nat) (hh : h < 100) (hm : m < 100) (hc : c < 100) : (clockHead h m c).length = 8 := by
  unfold clockHead
  simp only [List.length_append, List.length_singleton, pad_length h 2 1 hh (by omega), pad_length m 2 1 hm (by omega), pad_length c 2 1 hc (by omega)]
theorem drop_nil (p : UInt8 → Bool) : ∀ (l : List UInt8), l.dropWhile p = [] → ∀ b ∈ l, p b = true
  | [], _, b, hb => by cases hb
  | a :: l, h, b, hb => by
    rw [List.dropWhile_cons] at h
    by_cases c : p a = true
    · rw [if_pos c] at h
      rcases List.mem_cons.mp hb with rfl | hb
      · exact c
      · exact drop_nil p l h b hb
    · rw [if_neg c] at h
      cases h
theorem trim_nil {l : List UInt8} (h : Lib.trimRightB l 48 = []) : ∀ b ∈ l, b = 48 := by
  unfold Lib.trimRightB at h
  rw [List.reverse_eq_nil_iff] at h
  intro b hb
  have := drop_nil _ _ h b (List.mem_reverse.mpr hb)
  simpa using this
theorem dec_not_all : ∀ (t n : Nat), n ≤ t → 1 ≤ n → ∃ b ∈ Lib.decDigits n, b ≠ 48
  | 0, n, h, h1 => by omega
  | t + 1, n, h, h1 => by
    by_cases c : n < 10
    · rw [Lib.decDigits_one c]
      refine ⟨_, List.mem_singleton.mpr rfl, fun e => ?_⟩
      have := congrArg UInt8.toNat e
      rw [show (UInt8.ofNat (48 + n)).toNat = 48 + n by simp [UInt8.toNat_ofNat]; omega] at this
      have : (48 : UInt8).toNat = 48 := rfl
      omega
    · obtain ⟨b, hb, hn⟩ := dec_not_all t (n / 10) (by omega) (by omega)
      rw [Lib.decDigits, dif_neg c]
      exact ⟨b, List.mem_append_left _ hb, hn⟩
theorem tail_zero : tail (padL 0 9) = [] := by decide +kernel
theorem tail_some (n : Nat) (h : 1 ≤ n) : tail (padL n 9) = 46 :: Lib.trimRightB (padL n 9) 48 := by
  unfold tail
  rw [if_neg]
  intro e
  obtain ⟨b, hb, hn⟩ := dec_not_all n n (Nat.le_refl _) h
  exact hn (trim_nil e b (List.mem_append_right _ hb))
theorem trim_le (l : List UInt8) : (Lib.trimRightB l 48).length ≤ l.length := by
  unfold Lib.trimRightB
  rw [List.length_reverse]
  have := (List.dropWhile_sublist (p := (· == (48 : UInt8))) (l := l.reverse)).length_le
  rwa [List.length_reverse] at this
theorem clock_prog (n : Nat) (hn : n < 86400000000000) : times_clockText.f (n : Int) = some (mk (clockHead (n / 3600000000000) (n % 3600000000000 / 60000000000) (n % 60000000000 / 1000000000) ++ tail (padL (n % 1000000000) 9))) := by
  have e1 : wrap64 (Int.tdiv (n : Int) 3600000000000) = ((n / 3600000000000 : Nat) : Int) := by
    rw [Int.tdiv_eq_ediv_of_nonneg (by omega), wrap_eq (by omega) (by omega)]
    omega
  have e2 : wrap64 (Int.tdiv (Int.tmod (n : Int) 3600000000000) 60000000000) = ((n % 3600000000000 / 60000000000 : Nat) : Int) := by
    rw [Int.tmod_eq_emod_of_nonneg (by omega), Int.tdiv_eq_ediv_of_nonneg (by omega), wrap_eq (by omega) (by omega)]
    omega
  have e3 : wrap64 (Int.tdiv (Int.tmod (n : Int) 60000000000) 1000000000) = ((n % 60000000000 / 1000000000 : Nat) : Int) := by
    rw [Int.tmod_eq_emod_of_nonneg (by omega), Int.tdiv_eq_ediv_of_nonneg (by omega), wrap_eq (by omega) (by omega)]
    omega
  have e4 : Int.tmod (n : Int) 1000000000 = ((n % 1000000000 : Nat) : Int) := by
    rw [Int.tmod_eq_emod_of_nonneg (by omega)]
    omega
  have f1 := pad_eq (n / 3600000000000) 2 (by omega) (by omega)
  have f2 := pad_eq (n % 3600000000000 / 60000000000) 2 (by omega) (by omega)
  have f3 := pad_eq (n % 60000000000 / 1000000000) 2 (by omega) (by omega)
  have f4 := pad_eq (n % 1000000000) 9 (by omega) (by omega)
  have l1 := pad_length (n / 3600000000000) 2 1 (by show _ < 100; omega) (by omega)
  have l2 := pad_length (n % 3600000000000 / 60000000000) 2 1 (by show _ < 100; omega) (by omega)
  have l3 := pad_length (n % 60000000000 / 1000000000) 2 1 (by show _ < 100; omega) (by omega)
  have l4 := pad_length (n % 1000000000) 9 8 (by show _ < 1000000000; omega) (by omega)
  have lt := trim_le (padL (n % 1000000000) 9)
  unfold times_clockText.f
  rw [e1, e2, e3, e4]
  rw [show ((2 : Int)) = ((2 : Nat) : Int) from rfl, show ((9 : Int)) = ((9 : Nat) : Int) from rfl, f1]
  simp only [Option.bind_some]
  rw [mk_size, l1, if_pos (by omega), f2]
  simp only [Option.bind_some]
  rw [show (⟨#[58]⟩ : ByteArray) = mk [58] from rfl, mk_append, mk_append, mk_append, mk_size, mk_size, mk_size, if_pos (by simp only [List.length_append, List.length_singleton, l1, l2]; omega), if_pos (by simp only [List.length_append, List.length_singleton, l1, l2]; omega), f3]
  simp only [Option.bind_some]
  rw [mk_append, mk_size, mk_size, if_pos (by simp only [List.length_append, List.length_singleton, l1, l2, l3]; omega)]
  by_cases c : n % 1000000000 = 0
  · rw [c, if_neg (by omega), tail_zero, List.append_nil]
    rfl
  · have ht : strings_TrimRight.f (mk (padL (n % 1000000000) 9)) (⟨#[48]⟩ : ByteArray) = some (mk (Lib.trimRightB (padL (n % 1000000000) 9) 48)) := by
      unfold strings_TrimRight.f
      rw [if_pos rfl, if_pos (by rw [mk_size]; omega)]
      rfl
    rw [if_pos (by omega), f4]
    simp only [Option.bind_some]
    rw [ht]
    simp only [Option.bind_some]
    rw [mk_size, if_pos (by omega), show (⟨#[46]⟩ : ByteArray) = mk [46] from rfl, mk_append, mk_append, mk_size, mk_size, if_pos (by simp only [List.length_append, List.length_singleton, l1, l2, l3]; omega), tail_some _ (by omega)]
    rfl
theorem pad_le (n least : Nat) (h : n < 10 ^ 20) (hl : least ≤ 20) : (padL n least).length ≤ 20 := by
  have := dec_length 19 n h
  unfold padL
  rw [List.length_append, List.length_replicate]
  omega
end Go.Proofs.YteoehlcjllbhfaaGreatDoor.PureBack
