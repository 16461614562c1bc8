/- TimesPrints: Print, of every value. (This text: of the Lean functions alone.) -/
import Derived.Test.YteoehlcjllbhfaaDoorPureMay
import Derived.Test.YteoehlcjllbhfaaDoorPureSpan2
import Derived.Test.YteoehlcjllbhfaaDoorPureDate
import Derived.Test.YteoehlcjllbhfaaDoorPureClock2
import Derived.Test.YteoehlcjllbhfaaDoorXPrintsx12
namespace Go.Proofs.YteoehlcjllbhfaaDoor.PurePad
open Go.RowKit Go.Proofs.YteoehlcjllbhfaaDoor.XPrints Go.Proofs.YteoehlcjllbhfaaDoorW.PrintWords Go.Proofs.YteoehlcjllbhfaaDoorW.PrintLast Go.Proofs.YteoehlcjllbhfaaDoorW.PrintMore Go.Proofs.YteoehlcjllbhfaaDoor.Dec
set_option linter.unusedVariables false
set_option linter.unusedSimpArgs false
theorem clockL_le (n : Nat) (hn : n < 86400000000000) : (clockHead (n / 3600000000000) (n % 3600000000000 / 60000000000) (n % 60000000000 / 1000000000) ++ tail (padL (n % 1000000000) 9)).length ≤ 100 := by
  have h1 := head_length (n / 3600000000000) (n % 3600000000000 / 60000000000) (n % 60000000000 / 1000000000) (by omega) (by omega) (by omega)
  have h2 := trim_le (padL (n % 1000000000) 9)
  have h3 := pad_length (n % 1000000000) 9 8 (by show _ < 1000000000; omega) (by omega)
  rw [List.length_append, h1]
  unfold tail
  split <;> simp only [List.length_cons, List.length_nil] <;> omega
theorem mk_nil : (⟨#[]⟩ : ByteArray) = mk [] := rfl
theorem span_nought : mk (spanEnd (signL 0) (spanL units (magn 0))) = mk [84, 35, 48, 83] := by
  rw [show magn 0 = 0 by decide +kernel, show signL 0 = [] by decide +kernel, spanL_zero units (fun x h => (units_pos x h).1)]
  rfl
/-- Both Prints, of the kind 14. -/
theorem print_14 (b : Nat) (s : ByteArray) (hb : b < 18446744073709551616) : ∃ r, Ev (fun k => times_Print.f k 14 (b : Int) s) r ∧ Ev (fun k => relayref02_Print.f k 14 (b : Int) s) r ∧ ((14 : Int) = 14 → b = 0 → s.toList = [] → r = mk [84, 35, 48, 83]) := by
  by_cases hs : s.toList = []
  · refine ⟨mk (spanEnd (signL b) (spanL units (magn b))), ?_, ?_, fun _ h _ => by rw [h]; exact span_nought⟩
    · obtain ⟨K, h⟩ := span_prog_whole b hb
      refine ⟨K + 5, fun k hk => ?_⟩
      obtain ⟨m, rfl⟩ : ∃ m, k = m + 5 := ⟨k - 5, by omega⟩
      show times_Print.f (m + 5) 14 (b : Int) s = _
      unfold times_Print.f
      rw [may14]
      rw [Option.bind_some]
      rw [if_pos (decide_eq_true hs), if_pos (by trivial)]
      exact h (m + 5) (by omega)
    · obtain ⟨K, h⟩ := span_ref_whole b hb
      refine ⟨K + 5, fun k hk => ?_⟩
      obtain ⟨m, rfl⟩ : ∃ m, k = m + 5 := ⟨k - 5, by omega⟩
      have h1 : relayref02_spanText.f (m + 5) (b : Int) = _ := h (m + 5) (by omega)
      show relayref02_Print.f (m + 5) 14 (b : Int) s = _
      unfold relayref02_Print.f
      rw [ref14 _ _ _ (by omega) (by omega)]
      rw [Option.bind_some]
      rw [if_pos (decide_eq_true hs), if_pos (by trivial), h1]
      rfl
  · refine ⟨mk [], ⟨5, fun k hk => ?_⟩, ⟨5, fun k hk => ?_⟩, fun _ _ h => absurd h hs⟩
    · obtain ⟨m, rfl⟩ : ∃ m, k = m + 5 := ⟨k - 5, by omega⟩
      show times_Print.f (m + 5) 14 (b : Int) s = _
      unfold times_Print.f
      rw [may14]
      rw [Option.bind_some]
      rw [if_neg (by simp [hs])]
      rfl
    · obtain ⟨m, rfl⟩ : ∃ m, k = m + 5 := ⟨k - 5, by omega⟩
      show relayref02_Print.f (m + 5) 14 (b : Int) s = _
      unfold relayref02_Print.f
      rw [ref14 _ _ _ (by omega) (by omega)]
      rw [Option.bind_some]
      rw [if_neg (by simp [hs])]
      rfl
/-- Both Prints, of the kind 15. -/
theorem print_15 (b : Nat) (s : ByteArray) (hb : b < 18446744073709551616) : ∃ r, Ev (fun k => times_Print.f k 15 (b : Int) s) r ∧ Ev (fun k => relayref02_Print.f k 15 (b : Int) s) r ∧ ((15 : Int) = 14 → b = 0 → s.toList = [] → r = mk [84, 35, 48, 83]) := by
  cases hm : b15 (b : Int) s
  · refine ⟨mk [], ⟨5, fun k hk => ?_⟩, ⟨5, fun k hk => ?_⟩, fun h => absurd h (by decide)⟩
    · obtain ⟨m, rfl⟩ : ∃ m, k = m + 5 := ⟨k - 5, by omega⟩
      show times_Print.f (m + 5) 15 (b : Int) s = _
      unfold times_Print.f
      rw [may15, hm]
      rw [Option.bind_some]
      rw [if_neg (by simp)]
      rfl
    · obtain ⟨m, rfl⟩ : ∃ m, k = m + 5 := ⟨k - 5, by omega⟩
      show relayref02_Print.f (m + 5) 15 (b : Int) s = _
      unfold relayref02_Print.f
      rw [ref15 _ _ _ (by omega) (by omega), hm]
      rw [Option.bind_some]
      rw [if_neg (by simp)]
      rfl
  · obtain ⟨l, hl, ⟨K1, h1⟩, ⟨K2, h2⟩⟩ := date_both (wrap64 (b : Int)) _ rfl
    refine ⟨mk ([68, 35] ++ l), ⟨K1 + 5, fun k hk => ?_⟩, ⟨K2 + 5, fun k hk => ?_⟩, fun h => absurd h (by decide)⟩
    · obtain ⟨m, rfl⟩ : ∃ m, k = m + 5 := ⟨k - 5, by omega⟩
      have e : times_dateText.f (m + 5) (wrap64 (Int.tdiv (wrap64 (b : Int)) 86400000000000)) = _ := h1 (m + 5) (by omega)
      show times_Print.f (m + 5) 15 (b : Int) s = _
      unfold times_Print.f
      rw [may15, hm]
      rw [Option.bind_some]
      rw [if_pos (by trivial), if_neg (by omega), if_pos (by trivial), e]
      rw [Option.bind_some]
      rw [mk_size, if_pos (by omega), show (⟨#[68, 35]⟩ : ByteArray) = mk [68, 35] from rfl, mk_append]
    · obtain ⟨m, rfl⟩ : ∃ m, k = m + 5 := ⟨k - 5, by omega⟩
      have e : relayref02_dateText.f (m + 5) (wrap64 (b : Int)) = _ := h2 (m + 5) (by omega)
      show relayref02_Print.f (m + 5) 15 (b : Int) s = _
      unfold relayref02_Print.f
      rw [ref15 _ _ _ (by omega) (by omega), hm]
      rw [Option.bind_some]
      rw [if_pos (by trivial), if_neg (by omega), if_pos (by trivial), e]
      rw [Option.bind_some]
      rw [mk_size, if_pos (by omega), show (⟨#[68, 35]⟩ : ByteArray) = mk [68, 35] from rfl, mk_append]
/-- Both Prints, of the kind 16. -/
theorem print_16 (b : Nat) (s : ByteArray) (hb : b < 18446744073709551616) : ∃ r, Ev (fun k => times_Print.f k 16 (b : Int) s) r ∧ Ev (fun k => relayref02_Print.f k 16 (b : Int) s) r ∧ ((16 : Int) = 14 → b = 0 → s.toList = [] → r = mk [84, 35, 48, 83]) := by
  cases hm : b16 (b : Int) s
  · refine ⟨mk [], ⟨5, fun k hk => ?_⟩, ⟨5, fun k hk => ?_⟩, fun h => absurd h (by decide)⟩
    · obtain ⟨m, rfl⟩ : ∃ m, k = m + 5 := ⟨k - 5, by omega⟩
      show times_Print.f (m + 5) 16 (b : Int) s = _
      unfold times_Print.f
      rw [may16, hm]
      rw [Option.bind_some]
      rw [if_neg (by simp)]
      rfl
    · obtain ⟨m, rfl⟩ : ∃ m, k = m + 5 := ⟨k - 5, by omega⟩
      show relayref02_Print.f (m + 5) 16 (b : Int) s = _
      unfold relayref02_Print.f
      rw [ref16 _ _ _ (by omega) (by omega), hm]
      rw [Option.bind_some]
      rw [if_neg (by simp)]
      rfl
  · have hn : b < 86400000000000 := by
      have := (Bool.and_eq_true _ _ ▸ hm : decide (s.toList = []) = true ∧ decide ((b : Int) < 86400000000000) = true)
      have := of_decide_eq_true this.2
      omega
    have hw : wrap64 (b : Int) = (b : Int) := wrap_lo (by omega) (by omega)
    obtain ⟨K2, h2⟩ := clock_ref b hn
    have h1 := clock_prog b hn
    have hl := clockL_le b hn
    refine ⟨mk ([84, 79, 68, 35] ++ (clockHead (b / 3600000000000) (b % 3600000000000 / 60000000000) (b % 60000000000 / 1000000000) ++ tail (padL (b % 1000000000) 9))), ⟨5, fun k hk => ?_⟩, ⟨K2 + 5, fun k hk => ?_⟩, fun h => absurd h (by decide)⟩
    · obtain ⟨m, rfl⟩ : ∃ m, k = m + 5 := ⟨k - 5, by omega⟩
      show times_Print.f (m + 5) 16 (b : Int) s = _
      unfold times_Print.f
      rw [may16, hm]
      rw [Option.bind_some]
      rw [if_pos (by trivial), if_neg (by omega), if_neg (by omega), if_pos (by trivial), hw, h1]
      rw [Option.bind_some]
      rw [mk_size, if_pos (by omega), show (⟨#[84, 79, 68, 35]⟩ : ByteArray) = mk [84, 79, 68, 35] from rfl, mk_append]
    · obtain ⟨m, rfl⟩ : ∃ m, k = m + 5 := ⟨k - 5, by omega⟩
      have e : relayref02_clockText.f (m + 5) (b : Int) = _ := h2 (m + 5) (by omega)
      show relayref02_Print.f (m + 5) 16 (b : Int) s = _
      unfold relayref02_Print.f
      rw [ref16 _ _ _ (by omega) (by omega), hm]
      rw [Option.bind_some]
      rw [if_pos (by trivial), if_neg (by omega), if_neg (by omega), if_pos (by trivial), hw, e]
      rw [Option.bind_some]
      rw [mk_size, if_pos (by omega), show (⟨#[84, 79, 68, 35]⟩ : ByteArray) = mk [84, 79, 68, 35] from rfl, mk_append]
/-- Both Prints, of the kind 17. -/
theorem print_17 (b : Nat) (s : ByteArray) (hb : b < 18446744073709551616) : ∃ r, Ev (fun k => times_Print.f k 17 (b : Int) s) r ∧ Ev (fun k => relayref02_Print.f k 17 (b : Int) s) r ∧ ((17 : Int) = 14 → b = 0 → s.toList = [] → r = mk [84, 35, 48, 83]) := by
  cases hm : b17 (b : Int) s
  · refine ⟨mk [], ⟨5, fun k hk => ?_⟩, ⟨5, fun k hk => ?_⟩, fun h => absurd h (by decide)⟩
    · obtain ⟨m, rfl⟩ : ∃ m, k = m + 5 := ⟨k - 5, by omega⟩
      show times_Print.f (m + 5) 17 (b : Int) s = _
      unfold times_Print.f
      rw [may17, hm]
      rw [Option.bind_some]
      rw [if_neg (by simp)]
      rfl
    · obtain ⟨m, rfl⟩ : ∃ m, k = m + 5 := ⟨k - 5, by omega⟩
      show relayref02_Print.f (m + 5) 17 (b : Int) s = _
      unfold relayref02_Print.f
      rw [ref17 _ _ _ (by omega) (by omega), hm]
      rw [Option.bind_some]
      rw [if_neg (by simp)]
      rfl
  · have hn : b < 7258118400000000000 := by
      have := (Bool.and_eq_true _ _ ▸ hm : decide (s.toList = []) = true ∧ decide ((b : Int) < 7258118400000000000) = true)
      have := of_decide_eq_true this.2
      omega
    have hw : wrap64 (b : Int) = (b : Int) := wrap_lo (by omega) (by omega)
    have ht : Int.tmod (b : Int) 86400000000000 = ((b % 86400000000000 : Nat) : Int) := by
      rw [Int.tmod_eq_emod_of_nonneg (by omega)]
      omega
    have hn2 : b % 86400000000000 < 86400000000000 := Nat.mod_lt _ (by omega)
    obtain ⟨K2, h2⟩ := clock_ref (b % 86400000000000) hn2
    have h1 := clock_prog (b % 86400000000000) hn2
    have hl := clockL_le (b % 86400000000000) hn2
    obtain ⟨l, hl2, ⟨K3, h3⟩, ⟨K4, h4⟩⟩ := date_both (wrap64 (b : Int)) _ rfl
    generalize clockHead (b % 86400000000000 / 3600000000000) (b % 86400000000000 % 3600000000000 / 60000000000) (b % 86400000000000 % 60000000000 / 1000000000) ++ tail (padL (b % 86400000000000 % 1000000000) 9) = q at h1 h2 hl
    refine ⟨mk ([68, 84, 35] ++ l ++ [45] ++ q), ⟨K3 + 5, fun k hk => ?_⟩, ⟨K2 + K4 + 5, fun k hk => ?_⟩, fun h => absurd h (by decide)⟩
    · obtain ⟨m, rfl⟩ : ∃ m, k = m + 5 := ⟨k - 5, by omega⟩
      have e : times_dateText.f (m + 5) (wrap64 (Int.tdiv (wrap64 (b : Int)) 86400000000000)) = _ := h3 (m + 5) (by omega)
      show times_Print.f (m + 5) 17 (b : Int) s = _
      unfold times_Print.f
      rw [may17, hm]
      rw [Option.bind_some]
      rw [if_pos (by trivial), if_neg (by omega), if_neg (by omega), if_neg (by omega), if_pos (by trivial), e]
      rw [Option.bind_some]
      rw [hw, ht, h1, mk_size, if_pos (by omega), show (⟨#[68, 84, 35]⟩ : ByteArray) = mk [68, 84, 35] from rfl, show (⟨#[45]⟩ : ByteArray) = mk [45] from rfl, mk_append, mk_append, mk_size, if_pos (by simp only [List.length_append, List.length_cons, List.length_nil]; omega)]
      rw [Option.bind_some]
      rw [mk_size, mk_size, if_pos (by simp only [List.length_append, List.length_cons, List.length_nil]; omega), mk_append]
    · obtain ⟨m, rfl⟩ : ∃ m, k = m + 5 := ⟨k - 5, by omega⟩
      have e : relayref02_dateText.f (m + 5) (wrap64 (b : Int)) = _ := h4 (m + 5) (by omega)
      have e2 : relayref02_clockText.f (m + 5) ((b % 86400000000000 : Nat) : Int) = _ := h2 (m + 5) (by omega)
      show relayref02_Print.f (m + 5) 17 (b : Int) s = _
      unfold relayref02_Print.f
      rw [ref17 _ _ _ (by omega) (by omega), hm]
      rw [Option.bind_some]
      rw [if_pos (by trivial), if_neg (by omega), if_neg (by omega), if_neg (by omega), if_pos (by trivial), e]
      rw [Option.bind_some]
      rw [hw, ht, e2, mk_size, if_pos (by omega), show (⟨#[68, 84, 35]⟩ : ByteArray) = mk [68, 84, 35] from rfl, show (⟨#[45]⟩ : ByteArray) = mk [45] from rfl, mk_append, mk_append, mk_size, if_pos (by simp only [List.length_append, List.length_cons, List.length_nil]; omega)]
      rw [Option.bind_some]
      rw [mk_size, mk_size, if_pos (by simp only [List.length_append, List.length_cons, List.length_nil]; omega), mk_append]
/-- Both Prints, of every value. -/
theorem print_both (c : Int) (b : Nat) (s : ByteArray) (hb : b < 18446744073709551616) : ∃ r, Ev (fun k => times_Print.f k c (b : Int) s) r ∧ Ev (fun k => relayref02_Print.f k c (b : Int) s) r ∧ (c = 14 → b = 0 → s.toList = [] → r = mk [84, 35, 48, 83]) := by
  by_cases c14 : c = 14
  · rw [c14]; exact print_14 b s hb
  by_cases c15 : c = 15
  · rw [c15]; exact print_15 b s hb
  by_cases c16 : c = 16
  · rw [c16]; exact print_16 b s hb
  by_cases c17 : c = 17
  · rw [c17]; exact print_17 b s hb
  · refine ⟨mk [], ⟨6, fun k hk => ?_⟩, ⟨5, fun k hk => ?_⟩, fun h => absurd h c14⟩
    · obtain ⟨m, rfl⟩ : ∃ m, k = m + 6 := ⟨k - 6, by omega⟩
      obtain ⟨x, hx⟩ := may_some m c (b : Int) s
      show times_Print.f (m + 6) c (b : Int) s = _
      unfold times_Print.f
      rw [hx]
      rw [Option.bind_some]
      cases x
      · rw [if_neg (by simp)]
        rfl
      · rw [if_pos (by trivial), if_neg c14, if_neg c15, if_neg c16, if_neg c17]
        rfl
    · obtain ⟨m, rfl⟩ : ∃ m, k = m + 5 := ⟨k - 5, by omega⟩
      obtain ⟨x, hx⟩ := rmay_some m c (b : Int) s
      show relayref02_Print.f (m + 5) c (b : Int) s = _
      unfold relayref02_Print.f
      rw [hx]
      rw [Option.bind_some]
      cases x
      · rw [if_neg (by simp)]
        rfl
      · rw [if_pos (by trivial), if_neg c14, if_neg c15, if_neg c16, if_neg c17]
        rfl
/-- TimesPrints, of every value. -/
theorem TimesPrints (c b : Int) (s : ByteArray) (h0 : 0 ≤ b) (hb : b < 18446744073709551616) : ∃ k, relaylaw02_TimesPrints.f k c b s = some true := by
  obtain ⟨b, rfl⟩ : ∃ t : Nat, b = t := ⟨b.toNat, by omega⟩
  obtain ⟨r, ⟨K1, h1⟩, ⟨K2, h2⟩, _⟩ := print_both c b s (by omega)
  obtain ⟨q, ⟨K3, h3⟩, _, hq⟩ := print_both 14 0 (mk []) (by omega)
  have hq := hq rfl rfl (mk_list [])
  refine ⟨K1 + K2 + K3, ?_⟩
  have e1 : times_Print.f (K1 + K2 + K3) c (b : Int) s = _ := h1 _ (by omega)
  have e2 : relayref02_Print.f (K1 + K2 + K3) c (b : Int) s = _ := h2 _ (by omega)
  have e3 : times_Print.f (K1 + K2 + K3) 14 0 (⟨#[]⟩ : ByteArray) = some q := h3 _ (by omega)
  unfold relaylaw02_TimesPrints.f
  rw [e1, e2, Option.bind_some, Option.bind_some, if_pos (rfl : r.toList = r.toList), e3, hq]
  show some ((mk [84, 35, 48, 83]).toList == ([84, 35, 48, 83] : List UInt8)) = some true
  rw [mk_list]
  rfl
end Go.Proofs.YteoehlcjllbhfaaDoor.PurePad
