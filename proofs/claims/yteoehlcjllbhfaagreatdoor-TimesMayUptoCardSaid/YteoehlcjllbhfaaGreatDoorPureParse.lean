/- Parse tells something, whatever the text (of a length that the machine's contracts bear). (This text: of the Lean functions alone.) -/
import Derived.Test.YteoehlcjllbhfaaGreatDoorCalX
import Derived.Lib.AtoiAll
namespace Go.Proofs.YteoehlcjllbhfaaGreatDoor.PureParse
open Go.RowKit Go.Proofs.YteoehlcjllbhfaaGreatDoor.XTimes Go.Proofs.YteoehlcjllbhfaaGreatDoorW.PrintWords Go.Proofs.YteoehlcjllbhfaaGreatDoorW.PrintLast Go.Proofs.YteoehlcjllbhfaaGreatDoorW.PrintMore
set_option linter.unusedVariables false
set_option linter.unusedSimpArgs false

theorem wrap_eq {a : Int} (h0 : -9223372036854775808 ≤ a) (h : a ≤ 9223372036854775807) : wrap64 a = a := by unfold wrap64; omega
/-- A length that all contracts bear. -/
abbrev lim : Nat := 1099511627776

theorem prefix_total (a b : ByteArray) : ∃ t, strings_HasPrefix.f a b = some t ∧ (t = true → b.size ≤ a.size) := by
  unfold strings_HasPrefix.f stringslite_HasPrefix.f
  by_cases c : (a.size : Int) ≥ (b.size : Int)
  · rw [if_pos c, if_pos (by omega), if_pos (by omega)]
    exact ⟨_, rfl, fun _ => by omega⟩
  · rw [if_neg c]
    exact ⟨false, rfl, fun h => by cases h⟩
theorem lite_total (a b : ByteArray) : ∃ t, stringslite_HasPrefix.f a b = some t ∧ (t = true → b.size ≤ a.size) := by
  obtain ⟨t, h1, h2⟩ := prefix_total a b
  refine ⟨t, ?_, h2⟩
  unfold strings_HasPrefix.f at h1
  cases h : stringslite_HasPrefix.f a b with
  | none => rw [h] at h1; cases h1
  | some x => rw [h] at h1; exact h1
theorem size_drop (a : ByteArray) (n m : Nat) : (a.extract n m).size ≤ a.size := by rw [ByteArray.size_extract]; omega
theorem cut_total (a b : ByteArray) : ∃ r t, strings_CutPrefix.f a b = some (r, t) ∧ r.size ≤ a.size := by
  obtain ⟨t, h1, h2⟩ := lite_total a b
  unfold strings_CutPrefix.f stringslite_CutPrefix.f
  rw [h1]
  cases t with
  | true =>
    have := h2 rfl
    simp only [Option.bind_some, if_true]
    rw [if_pos (by omega), if_pos (by omega)]
    exact ⟨_, _, rfl, size_drop _ _ _⟩
  | false => exact ⟨a, false, rfl, Nat.le_refl _⟩
theorem trim_total (a b : ByteArray) : ∃ r, strings_TrimPrefix.f a b = some r ∧ r.size ≤ a.size := by
  obtain ⟨t, h1, h2⟩ := lite_total a b
  unfold strings_TrimPrefix.f stringslite_TrimPrefix.f
  rw [h1]
  cases t with
  | true =>
    have := h2 rfl
    simp only [Option.bind_some, if_true]
    rw [if_pos (by omega), if_pos (by omega)]
    exact ⟨_, rfl, size_drop _ _ _⟩
  | false => exact ⟨a, rfl, Nat.le_refl _⟩
/-- digits: the head's digits, and the rest. -/
theorem digits_loop (s : ByteArray) (hs : s.size ≤ lim) : ∀ (n : Nat) (i : Int), (s.size : Int) - i = n → 0 ≤ i → ∃ j : Nat, j ≤ s.size ∧ Ev (fun k => times_digits.l0 k s i) (s.extract 0 j, s.extract j s.size)
  | 0, i, h, h0 => ⟨i.toNat, by omega, Ev.step (f := fun _ => some (s.extract 0 i.toNat, s.extract i.toNat s.size)) (fun k => by simp only [times_digits.l0]; rw [if_neg (by omega), if_pos h0, if_pos (by omega)]) (Ev.now _)⟩
  | n + 1, i, h, h0 => by
    have hz : s.size ≤ 1099511627776 := hs
    by_cases c : bt s i ≥ 48 ∧ bt s i ≤ 57
    · obtain ⟨j, hj, he⟩ := digits_loop s hs n (i + 1) (by omega) (by omega)
      exact ⟨j, hj, Ev.step (fun k => by simp only [times_digits.l0]; rw [if_pos (by omega), if_pos h0, if_pos c.1, if_pos c.2, wrap_eq (by omega) (by omega)]) he⟩
    · refine ⟨i.toNat, by omega, Ev.step (f := fun _ => some (s.extract 0 i.toNat, s.extract i.toNat s.size)) (fun k => ?_) (Ev.now _)⟩
      simp only [times_digits.l0]
      rw [if_pos (by omega), if_pos h0]
      by_cases c1 : bt s i ≥ 48
      · rw [if_pos c1, if_neg (fun h => c ⟨c1, h⟩), if_pos (by omega)]
      · rw [if_neg c1, if_pos (by omega)]
theorem digits_total (s : ByteArray) (hs : s.size ≤ lim) : ∃ p q, Ev (fun k => times_digits.f k s) (p, q) ∧ p.size + q.size = s.size := by
  obtain ⟨j, hj, he⟩ := digits_loop s hs s.size 0 (by omega) (by omega)
  refine ⟨_, _, he, ?_⟩
  rw [ByteArray.size_extract, ByteArray.size_extract]
  omega
theorem whole_total (s : ByteArray) (hs : s.size ≤ lim) : ∃ n ok, times_whole.f s = some (n, ok) ∧ (ok = true → 1 ≤ s.size) := by
  have hz : s.size ≤ 1099511627776 := hs
  unfold times_whole.f
  rw [if_pos (by omega)]
  by_cases h0 : s.size = 0
  · have e : s.data.toList = [] := List.eq_nil_of_length_eq_zero (by rw [Array.length_toList]; exact h0)
    rw [e]
    exact ⟨0, false, rfl, fun h => by cases h⟩
  · cases Lib.atoiAll s.data.toList with
    | ok v => exact ⟨v, true, rfl, fun _ => by omega⟩
    | range => exact ⟨_, false, rfl, fun h => by cases h⟩
    | _ => exact ⟨0, false, rfl, fun h => by cases h⟩
abbrev scales : List Int := [86400000000000, 3600000000000, 60000000000, 1000000000, 1000000, 1000, 1]
abbrev unitNames : List ByteArray := [(⟨#[109, 115]⟩ : ByteArray), (⟨#[117, 115]⟩ : ByteArray), (⟨#[110, 115]⟩ : ByteArray), (⟨#[100]⟩ : ByteArray), (⟨#[104]⟩ : ByteArray), (⟨#[109]⟩ : ByteArray), (⟨#[115]⟩ : ByteArray)]
/-- unit's loop: a name that stands at the head, or none. -/
theorem unit_loop (s : ByteArray) : ∀ (n : Nat) (i : Int), 7 - i = n → 0 ≤ i → ∃ (u sc : Int) (r : ByteArray) (ok : Bool), Ev (fun k => times_unit.l0 k s scales unitNames 7 i) (u, sc, r, ok) ∧ (ok = true → r.size ≤ s.size ∧ 1 ≤ sc ∧ sc ≤ 86400000000000)
  | 0, i, h, h0 => ⟨0, 0, ⟨#[]⟩, false, Ev.step (f := fun _ => some (0, 0, (⟨#[]⟩ : ByteArray), false)) (fun k => by simp only [times_unit.l0]; rw [if_neg (by omega)]) (Ev.now _), fun h => by cases h⟩
  | n + 1, i, h, h0 => by
    have hl : (unitNames.length : Int) = 7 := rfl
    have hl2 : (scales.length : Int) = 7 := rfl
    obtain ⟨t, h1, h2⟩ := prefix_total s (rdOf ByteArray.empty unitNames i)
    cases t with
    | false =>
      obtain ⟨u, sc, r, ok, he, hr⟩ := unit_loop s n (i + 1) (by omega) (by omega)
      refine ⟨u, sc, r, ok, Ev.step (fun k => ?_) he, hr⟩
      simp only [times_unit.l0]
      rw [if_pos (by omega), if_pos h0, if_pos (by omega), h1]
      simp only [Option.bind_some]
      rw [if_neg (by simp), wrap_eq (by omega) (by omega)]
    | true =>
      have hz := h2 rfl
      generalize hnm : rdOf ByteArray.empty unitNames i = nm at h1 hz
      have fin : ∀ (u sc : Int), 1 ≤ sc → sc ≤ 86400000000000 → (∀ k, times_unit.l0 (k + 1) s scales unitNames 7 i = some (u, sc, s.extract ((nm.size : Int)).toNat s.size, true)) →
          ∃ (u sc : Int) (r : ByteArray) (ok : Bool), Ev (fun k => times_unit.l0 k s scales unitNames 7 i) (u, sc, r, ok) ∧ (ok = true → r.size ≤ s.size ∧ 1 ≤ sc ∧ sc ≤ 86400000000000) :=
        fun u sc a b hk => ⟨u, sc, _, true, Ev.step (f := fun _ => some (u, sc, s.extract ((nm.size : Int)).toNat s.size, true)) hk (Ev.now _), fun _ => ⟨size_drop _ _ _, a, b⟩⟩
      by_cases c6 : nm.toList = [110, 115]
      · refine fin 6 (rd scales 6) (by decide) (by decide) (fun k => ?_)
        simp only [times_unit.l0, hnm]
        rw [if_pos (by omega), if_pos h0, if_pos (by omega), h1]
        simp only [Option.bind_some, if_true]
        rw [if_pos c6, if_pos (by omega), if_pos (by omega), if_pos (by omega)]
      by_cases c5 : nm.toList = [117, 115]
      · refine fin 5 (rd scales 5) (by decide) (by decide) (fun k => ?_)
        simp only [times_unit.l0, hnm]
        rw [if_pos (by omega), if_pos h0, if_pos (by omega), h1]
        simp only [Option.bind_some, if_true]
        rw [if_neg c6, if_pos c5, if_pos (by omega), if_pos (by omega), if_pos (by omega)]
      by_cases c4 : nm.toList = [109, 115]
      · refine fin 4 (rd scales 4) (by decide) (by decide) (fun k => ?_)
        simp only [times_unit.l0, hnm]
        rw [if_pos (by omega), if_pos h0, if_pos (by omega), h1]
        simp only [Option.bind_some, if_true]
        rw [if_neg c6, if_neg c5, if_pos c4, if_pos (by omega), if_pos (by omega), if_pos (by omega)]
      by_cases c3 : nm.toList = [115]
      · refine fin 3 (rd scales 3) (by decide) (by decide) (fun k => ?_)
        simp only [times_unit.l0, hnm]
        rw [if_pos (by omega), if_pos h0, if_pos (by omega), h1]
        simp only [Option.bind_some, if_true]
        rw [if_neg c6, if_neg c5, if_neg c4, if_pos c3, if_pos (by omega), if_pos (by omega), if_pos (by omega)]
      by_cases c2 : nm.toList = [109]
      · refine fin 2 (rd scales 2) (by decide) (by decide) (fun k => ?_)
        simp only [times_unit.l0, hnm]
        rw [if_pos (by omega), if_pos h0, if_pos (by omega), h1]
        simp only [Option.bind_some, if_true]
        rw [if_neg c6, if_neg c5, if_neg c4, if_neg c3, if_pos c2, if_pos (by omega), if_pos (by omega), if_pos (by omega)]
      by_cases c1 : nm.toList = [104]
      · refine fin 1 (rd scales 1) (by decide) (by decide) (fun k => ?_)
        simp only [times_unit.l0, hnm]
        rw [if_pos (by omega), if_pos h0, if_pos (by omega), h1]
        simp only [Option.bind_some, if_true]
        rw [if_neg c6, if_neg c5, if_neg c4, if_neg c3, if_neg c2, if_pos c1, if_pos (by omega), if_pos (by omega), if_pos (by omega)]
      · refine fin 0 (rd scales 0) (by decide) (by decide) (fun k => ?_)
        simp only [times_unit.l0, hnm]
        rw [if_pos (by omega), if_pos h0, if_pos (by omega), h1]
        simp only [Option.bind_some, if_true]
        rw [if_neg c6, if_neg c5, if_neg c4, if_neg c3, if_neg c2, if_neg c1, if_pos (by omega), if_pos (by omega), if_pos (by omega)]
theorem unit_total (s : ByteArray) : ∃ (u sc : Int) (r : ByteArray) (ok : Bool), Ev (fun k => times_unit.f k s) (u, sc, r, ok) ∧ (ok = true → r.size ≤ s.size ∧ 1 ≤ sc ∧ sc ≤ 86400000000000) := by
  obtain ⟨u, sc, r, ok, he, hr⟩ := unit_loop s 7 0 (by omega) (by omega)
  exact ⟨u, sc, r, ok, he, hr⟩
end Go.Proofs.YteoehlcjllbhfaaGreatDoor.PureParse
