/- TimesBack: Parse of what Print tells of spans. (This text: of the Lean functions alone.) -/
import Derived.Test.YteoehlcjllbhfaaGreatDoorPureBack4
import Derived.Test.YteoehlcjllbhfaaGreatDoorPureBack2
import Derived.Test.YteoehlcjllbhfaaGreatDoorXBackx5
import Derived.Shelf.Strings.CaseAny
namespace Go.Proofs.YteoehlcjllbhfaaGreatDoor.PureBack
open Go.RowKit Go.Proofs.YteoehlcjllbhfaaGreatDoor.XBack Go.Proofs.YteoehlcjllbhfaaGreatDoorW.PrintWords Go.Proofs.YteoehlcjllbhfaaGreatDoorW.PrintLast Go.Proofs.YteoehlcjllbhfaaGreatDoorW.PrintMore
open Go.Lib (decDigits decDigits_one)
set_option linter.unusedVariables false
set_option linter.unusedSimpArgs false
theorem ev_some {α : Type} {g : Nat → Option α} {r : α} (K : Nat) (h : ∀ k, g (k + K) = some r) : Ev g r := ⟨K, fun n hn => by
  obtain ⟨m, rfl⟩ : ∃ m, n = m + K := ⟨n - K, by omega⟩
  exact h m⟩
/-- A text at the head of another. -/
theorem pre_mk (a b : List UInt8) (ha : a.length ≤ 1099511627776) : stringslite_HasPrefix.f (mk a) (mk b) = some (decide (a.take b.length = b)) := by
  unfold stringslite_HasPrefix.f
  rw [mk_size, mk_size]
  by_cases c : (a.length : Int) ≥ (b.length : Int)
  · rw [if_pos c, if_pos (by omega), if_pos (by omega), show ((b.length : Int)).toNat = b.length from rfl, take_mk, mk_list, mk_list]
    exact congrArg some (by rw [Bool.eq_iff_iff]; simp)
  · rw [if_neg c]
    have hl : ¬ a.take b.length = b := by
      intro e
      have := congrArg List.length e
      rw [List.length_take] at this
      omega
    rw [decide_eq_false hl]
theorem pre_mk2 (a b : List UInt8) (ha : a.length ≤ 1099511627776) : strings_HasPrefix.f (mk a) (mk b) = some (decide (a.take b.length = b)) := by
  unfold strings_HasPrefix.f
  rw [pre_mk a b ha]
  rfl
/-- What is cut off a head. -/
theorem cut_mk (a b : List UInt8) (ha : a.length ≤ 1099511627776) : strings_CutPrefix.f (mk a) (mk b) = some (if a.take b.length = b then (mk (a.drop b.length), true) else (mk a, false)) := by
  unfold strings_CutPrefix.f stringslite_CutPrefix.f
  rw [pre_mk a b ha]
  by_cases c : a.take b.length = b
  · have hl : b.length ≤ a.length := by
      have := congrArg List.length c
      rw [List.length_take] at this
      omega
    rw [decide_eq_true c, if_pos c, Option.bind_some, if_pos rfl, mk_size, mk_size, if_pos (by omega), if_pos (by omega), show ((b.length : Int)).toNat = b.length from rfl, ← mk_size a, drop_mk]
    rfl
  · rw [decide_eq_false c, if_neg c, Option.bind_some, if_neg (by simp)]
    rfl
theorem trimp_mk (a b : List UInt8) (ha : a.length ≤ 1099511627776) (c : ¬ a.take b.length = b) : strings_TrimPrefix.f (mk a) (mk b) = some (mk a) := by
  unfold strings_TrimPrefix.f stringslite_TrimPrefix.f
  rw [pre_mk a b ha, decide_eq_false c, Option.bind_some, if_neg (by simp)]
  rfl
def scales : List Int := [86400000000000, 3600000000000, 60000000000, 1000000000, 1000000, 1000, 1]
def unitNames : List ByteArray := [mk [109, 115], mk [117, 115], mk [110, 115], mk [100], mk [104], mk [109], mk [115]]
/-- One round of unit's loop, its tables by name. -/
def unitRound (Z : List Int) (nm : ByteArray) (k : Nat) (x0 : ByteArray) (x11 : List ByteArray) (x13 : Int) : Option (Int × Int × ByteArray × Bool) :=
  (strings_HasPrefix.f x0 nm).bind fun t114 => (if t114 = true then (if nm.toList = ([110, 115] : List UInt8) then (if 6 < (Z.length : Int) then (if 0 ≤ (nm.size : Int) then (if (nm.size : Int) ≤ (x0.size : Int) then (some (6, rd Z 6, x0.extract ((nm.size : Int) : Int).toNat x0.size, true)) else (none)) else (none)) else (none)) else (if nm.toList = ([117, 115] : List UInt8) then (if 5 < (Z.length : Int) then (if 0 ≤ (nm.size : Int) then (if (nm.size : Int) ≤ (x0.size : Int) then (some (5, rd Z 5, x0.extract ((nm.size : Int) : Int).toNat x0.size, true)) else (none)) else (none)) else (none)) else (if nm.toList = ([109, 115] : List UInt8) then (if 4 < (Z.length : Int) then (if 0 ≤ (nm.size : Int) then (if (nm.size : Int) ≤ (x0.size : Int) then (some (4, rd Z 4, x0.extract ((nm.size : Int) : Int).toNat x0.size, true)) else (none)) else (none)) else (none)) else (if nm.toList = ([115] : List UInt8) then (if 3 < (Z.length : Int) then (if 0 ≤ (nm.size : Int) then (if (nm.size : Int) ≤ (x0.size : Int) then (some (3, rd Z 3, x0.extract ((nm.size : Int) : Int).toNat x0.size, true)) else (none)) else (none)) else (none)) else (if nm.toList = ([109] : List UInt8) then (if 2 < (Z.length : Int) then (if 0 ≤ (nm.size : Int) then (if (nm.size : Int) ≤ (x0.size : Int) then (some (2, rd Z 2, x0.extract ((nm.size : Int) : Int).toNat x0.size, true)) else (none)) else (none)) else (none)) else (if nm.toList = ([104] : List UInt8) then (if 1 < (Z.length : Int) then (if 0 ≤ (nm.size : Int) then (if (nm.size : Int) ≤ (x0.size : Int) then (some (1, rd Z 1, x0.extract ((nm.size : Int) : Int).toNat x0.size, true)) else (none)) else (none)) else (none)) else (if 0 < (Z.length : Int) then (if 0 ≤ (nm.size : Int) then (if (nm.size : Int) ≤ (x0.size : Int) then (some (0, rd Z 0, x0.extract ((nm.size : Int) : Int).toNat x0.size, true)) else (none)) else (none)) else (none)))))))) else (times_unit.l0 k x0 Z x11 7 (wrap64 (x13 + 1))))
theorem unit_round (k : Nat) (x0 : ByteArray) (i : Nat) (h : i < 7) : times_unit.l0 (k + 1) x0 scales unitNames 7 (i : Int) = unitRound scales (rdOf ByteArray.empty unitNames (i : Int)) k x0 unitNames (i : Int) := by
  simp only [times_unit.l0]
  rw [if_pos (by omega), if_pos (by omega), if_pos (by show (i : Int) < 7; omega)]
  rfl
def rankOf (l : List UInt8) : Int := if l = [110, 115] then 6 else if l = [117, 115] then 5 else if l = [109, 115] then 4 else if l = [115] then 3 else if l = [109] then 2 else if l = [104] then 1 else 0
theorem unit_hit (Z : List Int) (hZ : (Z.length : Int) = 7) (nm s : List UInt8) (k : Nat) (N : List ByteArray) (i : Int) (hs : s.length ≤ 1099511627776) (h : s.take nm.length = nm) :
    unitRound Z (mk nm) k (mk s) N i = some (rankOf nm, rd Z (rankOf nm), mk (s.drop nm.length), true) := by
  have hl : nm.length ≤ s.length := by
    have := congrArg List.length h
    rw [List.length_take] at this
    omega
  have e : (mk s).extract ((nm.length : Int)).toNat (mk s).size = mk (s.drop nm.length) := by
    rw [show ((nm.length : Int)).toNat = nm.length from rfl, drop_mk]
  unfold unitRound
  rw [pre_mk2 s nm hs, decide_eq_true h, Option.bind_some, if_pos rfl, mk_list, mk_size, e, mk_size, hZ]
  unfold rankOf
  have p0 : (0 : Int) ≤ (nm.length : Int) := Int.natCast_nonneg _
  have p1 : (nm.length : Int) ≤ (s.length : Int) := Int.ofNat_le.mpr hl
  rw [if_pos p0, if_pos p1]
  simp only [show (6 : Int) < 7 by decide, show (5 : Int) < 7 by decide, show (4 : Int) < 7 by decide, show (3 : Int) < 7 by decide, show (2 : Int) < 7 by decide, show (1 : Int) < 7 by decide, show (0 : Int) < 7 by decide, if_true]
  repeat' split
  all_goals rfl
theorem unit_skip (Z : List Int) (nm s : List UInt8) (k : Nat) (N : List ByteArray) (i : Nat) (hi : i < 7) (hs : s.length ≤ 1099511627776) (h : ¬ s.take nm.length = nm) :
    unitRound Z (mk nm) k (mk s) N (i : Int) = times_unit.l0 k (mk s) Z N 7 ((i + 1 : Nat) : Int) := by
  have hw : wrap64 ((i : Int) + 1) = ((i + 1 : Nat) : Int) := (wrap_eq (by omega) (by omega)).trans rfl
  unfold unitRound
  rw [pre_mk2 s nm hs, decide_eq_false h, Option.bind_some, if_neg (by simp), hw]
/-- The units' names in small letters, as Parse's rank has them. -/
def lnames : List (List UInt8) := [[109, 115], [117, 115], [110, 115], [100], [104], [109], [115]]
theorem names_at (i : Nat) (h : i < 7) : rdOf ByteArray.empty unitNames (i : Int) = mk (lnames.getD i []) := by
  obtain rfl | rfl | rfl | rfl | rfl | rfl | rfl : i = 0 ∨ i = 1 ∨ i = 2 ∨ i = 3 ∨ i = 4 ∨ i = 5 ∨ i = 6 := by omega
  all_goals rfl
theorem unit_from (s : List UInt8) (hs : s.length ≤ 1099511627776) (i : Nat) (hi : i < 7) (h : s.take (lnames.getD i []).length = lnames.getD i []) : ∀ (t j : Nat), i - j = t → j ≤ i → (∀ m, j ≤ m → m < i → ¬ s.take (lnames.getD m []).length = lnames.getD m []) →
    Ev (fun k => times_unit.l0 k (mk s) scales unitNames 7 (j : Int)) (rankOf (lnames.getD i []), rd scales (rankOf (lnames.getD i [])), mk (s.drop (lnames.getD i []).length), true)
  | 0, j, ht, hj, hm => by
    obtain rfl : j = i := by omega
    exact Ev.step (f := fun _ => some _) (fun k => by rw [unit_round k _ j hi, names_at j hi, unit_hit scales rfl _ s k unitNames _ hs h]) (Ev.now _)
  | t + 1, j, ht, hj, hm => by
    have hj7 : j < 7 := by omega
    have ih := unit_from s hs i hi h t (j + 1) (by omega) (by omega) (fun m h1 h2 => hm m (by omega) h2)
    exact Ev.step (fun k => by rw [unit_round k _ j hj7, names_at j hj7, unit_skip scales _ s k unitNames j hj7 hs (hm j (Nat.le_refl _) (by omega))]) ih
theorem unit_spec (s : List UInt8) (hs : s.length ≤ 1099511627776) (i : Nat) (hi : i < 7) (h : s.take (lnames.getD i []).length = lnames.getD i []) (hm : ∀ m, m < i → ¬ s.take (lnames.getD m []).length = lnames.getD m []) :
    Ev (fun k => times_unit.f k (mk s)) (rankOf (lnames.getD i []), rd scales (rankOf (lnames.getD i [])), mk (s.drop (lnames.getD i []).length), true) := by
  have e := unit_from s hs i hi h i 0 (by omega) (by omega) (fun m _ h2 => hm m h2)
  exact e
/-- The units, their names in small letters. -/
def lunits : List (Nat × List UInt8) := [(86400000000000, [100]), (3600000000000, [104]), (60000000000, [109]), (1000000000, [115]), (1000000, [109, 115]), (1000, [117, 115]), (1, [110, 115])]
/-- A unit behind digits, ahead of digits or nothing. -/
theorem unit_at_head (j : Nat) (hj : j < 7) (r : List UInt8) (hr : ∀ b, r.head? = some b → dg b = true) (hl : r.length ≤ 1000000) :
    ∃ sz nm, lunits.drop j = (sz, nm) :: lunits.drop (j + 1) ∧ Ev (fun k => times_unit.f k (mk (nm ++ r))) ((j : Int), (sz : Int), mk r, true) ∧ 1 ≤ sz ∧ sz ≤ 86400000000000 ∧ nm.length ≤ 2 ∧ (∀ b, nm.head? = some b → dg b = false ∧ b ≠ 46) ∧ nm ≠ [] := by
  have h115 : ¬ r.take 1 = [115] := by
    intro e
    cases r with
    | nil => cases e
    | cons b r =>
      obtain rfl : b = 115 := by simpa using e
      exact absurd (hr 115 rfl) (by decide)
  have key : ∀ (i : Nat) (nm : List UInt8), i < 7 → lnames.getD i [] = nm → nm.length ≤ 2 → (∀ m, m < i → ¬ (nm ++ r).take (lnames.getD m []).length = lnames.getD m []) → Ev (fun k => times_unit.f k (mk (nm ++ r))) (rankOf nm, rd scales (rankOf nm), mk r, true) := by
    intro i nm hi he hle hm
    have e := unit_spec (nm ++ r) (by rw [List.length_append]; omega) i hi (by rw [he, List.take_left]) hm
    rw [he, List.drop_left] at e
    exact e
  obtain rfl | rfl | rfl | rfl | rfl | rfl | rfl : j = 0 ∨ j = 1 ∨ j = 2 ∨ j = 3 ∨ j = 4 ∨ j = 5 ∨ j = 6 := by omega
  · refine ⟨_, _, rfl, key 3 [100] (by decide) rfl (by decide) (fun m hm => ?_), by decide, by decide, by decide, fun b hb => by cases hb; decide, by decide⟩
    obtain rfl | rfl | rfl : m = 0 ∨ m = 1 ∨ m = 2 := by omega
    all_goals (exact fun e => absurd (List.cons.inj (show _ :: _ = _ :: _ from e)).1 (by decide))
  · refine ⟨_, _, rfl, key 4 [104] (by decide) rfl (by decide) (fun m hm => ?_), by decide, by decide, by decide, fun b hb => by cases hb; decide, by decide⟩
    obtain rfl | rfl | rfl | rfl : m = 0 ∨ m = 1 ∨ m = 2 ∨ m = 3 := by omega
    · exact fun e => absurd (List.cons.inj (show _ :: _ = _ :: _ from e)).1 (by decide)
    · exact fun e => absurd (List.cons.inj (show _ :: _ = _ :: _ from e)).1 (by decide)
    · exact fun e => absurd (List.cons.inj (show _ :: _ = _ :: _ from e)).1 (by decide)
    · exact fun e => absurd (List.cons.inj (show _ :: _ = _ :: _ from e)).1 (by decide)
  · refine ⟨_, _, rfl, key 5 [109] (by decide) rfl (by decide) (fun m hm => ?_), by decide, by decide, by decide, fun b hb => by cases hb; decide, by decide⟩
    obtain rfl | rfl | rfl | rfl | rfl : m = 0 ∨ m = 1 ∨ m = 2 ∨ m = 3 ∨ m = 4 := by omega
    · show ¬ (109 : UInt8) :: r.take 1 = [109, 115]
      intro e
      injection e with e1 e2
      exact h115 e2
    · exact fun e => absurd (List.cons.inj (show _ :: _ = _ :: _ from e)).1 (by decide)
    · exact fun e => absurd (List.cons.inj (show _ :: _ = _ :: _ from e)).1 (by decide)
    · exact fun e => absurd (List.cons.inj (show _ :: _ = _ :: _ from e)).1 (by decide)
    · exact fun e => absurd (List.cons.inj (show _ :: _ = _ :: _ from e)).1 (by decide)
  · refine ⟨_, _, rfl, key 6 [115] (by decide) rfl (by decide) (fun m hm => ?_), by decide, by decide, by decide, fun b hb => by cases hb; decide, by decide⟩
    obtain rfl | rfl | rfl | rfl | rfl | rfl : m = 0 ∨ m = 1 ∨ m = 2 ∨ m = 3 ∨ m = 4 ∨ m = 5 := by omega
    · exact fun e => absurd (List.cons.inj (show _ :: _ = _ :: _ from e)).1 (by decide)
    · exact fun e => absurd (List.cons.inj (show _ :: _ = _ :: _ from e)).1 (by decide)
    · exact fun e => absurd (List.cons.inj (show _ :: _ = _ :: _ from e)).1 (by decide)
    · exact fun e => absurd (List.cons.inj (show _ :: _ = _ :: _ from e)).1 (by decide)
    · exact fun e => absurd (List.cons.inj (show _ :: _ = _ :: _ from e)).1 (by decide)
    · exact fun e => absurd (List.cons.inj (show _ :: _ = _ :: _ from e)).1 (by decide)
  · refine ⟨_, _, rfl, key 0 [109, 115] (by decide) rfl (by decide) (fun m hm => absurd hm (by omega)), by decide, by decide, by decide, fun b hb => by cases hb; decide, by decide⟩
  · refine ⟨_, _, rfl, key 1 [117, 115] (by decide) rfl (by decide) (fun m hm => ?_), by decide, by decide, by decide, fun b hb => by cases hb; decide, by decide⟩
    obtain rfl : m = 0 := by omega
    exact fun e => absurd (List.cons.inj (show _ :: _ = _ :: _ from e)).1 (by decide)
  · refine ⟨_, _, rfl, key 2 [110, 115] (by decide) rfl (by decide) (fun m hm => ?_), by decide, by decide, by decide, fun b hb => by cases hb; decide, by decide⟩
    obtain rfl | rfl : m = 0 ∨ m = 1 := by omega
    all_goals (exact fun e => absurd (List.cons.inj (show _ :: _ = _ :: _ from e)).1 (by decide))
/-- No part behind a dot. -/
theorem exact_none (sz : Nat) (h1 : 1 ≤ sz) (h2 : sz ≤ 86400000000000) : Ev (fun k => times_exact.f k (mk []) (sz : Int)) (0, true) := by
  have hc : ∀ k, times_common.f (k + 2) (sz : Int) 1 = some 1 := by
    intro k
    show times_common.l0 (k + 2) (sz : Int) 1 = some 1
    simp only [times_common.l0]
    rw [if_pos (by decide), if_neg (by decide), if_neg (by rw [Int.tmod_one]; decide)]
  have ht : strings_TrimRight.f (mk []) (⟨#[48]⟩ : ByteArray) = some (mk []) := by
    unfold strings_TrimRight.f
    rw [if_pos rfl, mk_size, if_pos (by simp)]
    rfl
  refine ev_some 2 (fun k => ?_)
  show times_exact.f (k + 2) (mk []) (sz : Int) = _
  unfold times_exact.f
  rw [ht, Option.bind_some, mk_size, if_neg (by simp)]
  show times_over.f (k + 2) 0 (sz : Int) 1 = _
  unfold times_over.f
  rw [hc k, Option.bind_some, if_neg (by decide), show wrap64 (Int.tdiv 1 1) = 1 by decide +kernel, if_neg (by decide), if_pos (by decide), show wrap64 (Int.tdiv 0 1) = 0 by decide +kernel, Int.zero_mul, show wrap64 0 = 0 by decide +kernel]
end Go.Proofs.YteoehlcjllbhfaaGreatDoor.PureBack
