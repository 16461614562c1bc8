/- TimesBack: what Print tells, its spans. (This text: of the Lean functions alone.) -/
import Derived.Test.YteoehlcjllbhfaaGreatDoorPureBack1
import Derived.Test.YteoehlcjllbhfaaGreatDoorXBackx15
namespace Go.Proofs.YteoehlcjllbhfaaGreatDoor.PureBack
open Go.RowKit Go.Proofs.YteoehlcjllbhfaaGreatDoor.XBack Go.Proofs.YteoehlcjllbhfaaGreatDoorW.PrintWords Go.Proofs.YteoehlcjllbhfaaGreatDoorW.PrintLast Go.Proofs.YteoehlcjllbhfaaGreatDoorW.PrintMore
set_option linter.unusedVariables false
set_option linter.unusedSimpArgs false
/-- The units, from the greatest on: their size and their name. -/
def units : List (Nat × List UInt8) := [(86400000000000, [68]), (3600000000000, [72]), (60000000000, [77]), (1000000000, [83]), (1000000, [77, 83]), (1000, [85, 83]), (1, [78, 83])]
/-- A span's text. -/
def spanL : List (Nat × List UInt8) → Nat → List UInt8
  | [], _ => []
  | x :: r, u => (if x.1 ≤ u then Lib.decDigits (u / x.1) ++ x.2 else []) ++ spanL r (u % x.1)
theorem spanL_le : ∀ (l : List (Nat × List UInt8)) (u : Nat), u < 10 ^ 20 → (∀ x ∈ l, x.2.length ≤ 2) → (spanL l u).length ≤ 22 * l.length
  | [], u, h, h2 => by simp [spanL]
  | x :: r, u, h, h2 => by
    have ih := spanL_le r (u % x.1) (Nat.lt_of_le_of_lt (Nat.mod_le _ _) h) (fun y hy => h2 y (List.mem_cons_of_mem _ hy))
    have hd := dec_length 19 (u / x.1) (Nat.lt_of_le_of_lt (Nat.div_le_self _ _) h)
    have hx := h2 x (List.mem_cons_self ..)
    unfold spanL
    rw [List.length_append, List.length_cons]
    split
    · rw [List.length_append]; omega
    · simp only [List.length_nil]; omega
theorem spanL_some : ∀ (l : List (Nat × List UInt8)) (u : Nat), 1 ≤ u → (∃ nm, nm ≠ [] ∧ (1, nm) ∈ l) → (∀ x ∈ l, 1 ≤ x.1 ∧ x.2 ≠ []) → spanL l u ≠ []
  | [], u, h, ⟨nm, _, hm⟩, h2 => by cases hm
  | x :: r, u, h, ⟨nm, hne, hm⟩, h2 => by
    obtain ⟨x1, x2⟩ := h2 x (List.mem_cons_self ..)
    unfold spanL
    by_cases c : x.1 ≤ u
    · rw [if_pos c]
      simp [x2]
    · rw [if_neg c, List.nil_append, Nat.mod_eq_of_lt (by omega)]
      rcases List.mem_cons.mp hm with e | hm
      · rw [← e] at c
        omega
      · exact spanL_some r u h ⟨nm, hne, hm⟩ (fun y hy => h2 y (List.mem_cons_of_mem _ hy))
def names : List ByteArray := [(⟨#[68]⟩ : ByteArray), (⟨#[72]⟩ : ByteArray), (⟨#[77]⟩ : ByteArray), (⟨#[83]⟩ : ByteArray), (⟨#[77, 83]⟩ : ByteArray), (⟨#[85, 83]⟩ : ByteArray), (⟨#[78, 83]⟩ : ByteArray)]
def sizes : List Int := [86400000000000, 3600000000000, 60000000000, 1000000000, 1000000, 1000, 1]
theorem names_len : (names.length : Int) = 7 := rfl
theorem sizes_len : (sizes.length : Int) = 7 := rfl
/-- What stands at a round. -/
theorem unit_at (i : Nat) (h : i < 7) : ∃ sz nm, units.drop i = (sz, nm) :: units.drop (i + 1) ∧ rd sizes (i : Int) = (sz : Int) ∧ rdOf ByteArray.empty names (i : Int) = mk nm ∧ 1 ≤ sz ∧ sz ≤ 86400000000000 ∧ nm.length ≤ 2 := by
  obtain rfl | rfl | rfl | rfl | rfl | rfl | rfl : i = 0 ∨ i = 1 ∨ i = 2 ∨ i = 3 ∨ i = 4 ∨ i = 5 ∨ i = 6 := by omega
  all_goals exact ⟨_, _, rfl, rfl, rfl, by decide, by decide, by decide⟩
theorem formatUint_eq (u : Nat) (h : u < 18446744073709551616) : strconv_FormatUint.f (u : Int) 10 = some (mk (Lib.decDigits u)) := by
  unfold strconv_FormatUint.f
  rw [if_pos ⟨rfl, Int.natCast_nonneg u, by omega⟩]
  rfl
/-- One round of the program's loop, its tables by name. -/
def progRound (Z : List Int) (k : Nat) (x3 : ByteArray) (x4 : Int) (x16 : List ByteArray) (x17 x18 : Int) : Option ByteArray :=
  if x18 < x17 then (if 0 ≤ x18 then (if x18 < (x16.length : Int) then (if x18 < (Z.length : Int) then (if x4 ≥ (IntKind.u64.wrap (rd Z x18)) then (if (IntKind.u64.wrap (rd Z x18)) = 0 then (none) else ((strconv_FormatUint.f (IntKind.u64.wrap (Int.tdiv x4 (IntKind.u64.wrap (rd Z x18)))) 10).bind fun t117 => (if t117.size + (rdOf ByteArray.empty x16 x18).size ≤ 9223372036854775807 then (if x3.size + (t117 ++ (rdOf ByteArray.empty x16 x18)).size ≤ 9223372036854775807 then (times_spanText.l0 k (x3 ++ (t117 ++ (rdOf ByteArray.empty x16 x18))) (Int.tmod x4 (IntKind.u64.wrap (rd Z x18))) x16 x17 (wrap64 (x18 + 1))) else (none)) else (none)))) else (times_spanText.l0 k x3 x4 x16 x17 (wrap64 (x18 + 1)))) else (none)) else (none)) else (none)) else (some x3)
theorem l0_round (k : Nat) (x3 : ByteArray) (x4 : Int) (x16 : List ByteArray) (x17 x18 : Int) : times_spanText.l0 (k + 1) x3 x4 x16 x17 x18 = progRound sizes k x3 x4 x16 x17 x18 := rfl
theorem round_yes (Z : List Int) (N : List ByteArray) (hZ : (Z.length : Int) = 7) (hN : (N.length : Int) = 7) (k i u q r sz : Nat) (s nm : List UInt8) (hi : i < 7) (hu : u < 18446744073709551616) (c : sz ≤ u) (h5 : 1 ≤ sz) (h6 : sz ≤ 86400000000000) (hq : q = u / sz) (hr : r = u % sz) (hs : s.length ≤ 1000) (hnm : nm.length ≤ 2)
    (h2 : rd Z (i : Int) = (sz : Int)) (h3 : rdOf ByteArray.empty N (i : Int) = mk nm) :
    progRound Z k (mk s) (u : Int) N 7 (i : Int) = times_spanText.l0 k (mk (s ++ (Lib.decDigits q ++ nm))) (r : Int) N 7 ((i + 1 : Nat) : Int) := by
  have hq1 : q ≤ u := by rw [hq]; exact Nat.div_le_self u sz
  have p9 : q < 18446744073709551616 := Nat.lt_of_le_of_lt hq1 hu
  have hd : (Lib.decDigits q).length ≤ 20 := dec_length 19 q (Nat.lt_of_lt_of_le p9 pow20)
  have p1 : (i : Int) < 7 := by clear h2 h3 hq hr; omega
  have p3 : (i : Int) < (N.length : Int) := by rw [hN]; exact p1
  have p4 : (i : Int) < (Z.length : Int) := by rw [hZ]; exact p1
  have p5 : (u : Int) ≥ (sz : Int) := Int.ofNat_le.mpr c
  have p6 : ¬ (sz : Int) = 0 := by clear h2 h3 hq hr; omega
  have p7 : (Lib.decDigits q).length + nm.length ≤ 9223372036854775807 := by clear h2 h3 hq hr; omega
  have p8 : s.length + (Lib.decDigits q ++ nm).length ≤ 9223372036854775807 := by clear h2 h3 hq hr; rw [List.length_append]; omega
  have p10 : (sz : Int) < 18446744073709551616 := by clear h2 h3 hq hr; omega
  have p11 : (q : Int) < 18446744073709551616 := by clear h2 h3 hq hr; omega
  have p12 : (i : Int) + 1 ≤ 9223372036854775807 := by clear h2 h3 hq hr; omega
  have p13 : -9223372036854775808 ≤ (i : Int) + 1 := by clear h2 h3 hq hr; omega
  have hw : IntKind.u64.wrap (sz : Int) = (sz : Int) := u64_eq (Int.natCast_nonneg sz) p10
  have hdv : IntKind.u64.wrap (Int.tdiv (u : Int) (sz : Int)) = (q : Int) := by
    rw [Int.tdiv_eq_ediv_of_nonneg (Int.natCast_nonneg u), ← Int.natCast_ediv, ← hq]
    exact u64_eq (Int.natCast_nonneg q) p11
  have hmd : Int.tmod (u : Int) (sz : Int) = (r : Int) := by
    rw [Int.tmod_eq_emod_of_nonneg (Int.natCast_nonneg u), ← Int.natCast_emod, ← hr]
  have hi1 : wrap64 ((i : Int) + 1) = ((i + 1 : Nat) : Int) := (wrap_eq p13 p12).trans rfl
  unfold progRound
  rw [if_pos p1, if_pos (Int.natCast_nonneg i), if_pos p3, if_pos p4, h2, hw, if_pos p5, if_neg p6, hdv, formatUint_eq q p9]
  simp only [Option.bind_some]
  rw [h3, mk_append, mk_append, mk_size, mk_size, mk_size, mk_size, if_pos p7, if_pos p8, hmd, hi1]
theorem round_no (Z : List Int) (N : List ByteArray) (hZ : (Z.length : Int) = 7) (hN : (N.length : Int) = 7) (k i u sz : Nat) (s : List UInt8) (hi : i < 7) (c : ¬ sz ≤ u) (h5 : 1 ≤ sz) (h6 : sz ≤ 86400000000000)
    (h2 : rd Z (i : Int) = (sz : Int)) :
    progRound Z k (mk s) (u : Int) N 7 (i : Int) = times_spanText.l0 k (mk s) (u : Int) N 7 ((i + 1 : Nat) : Int) := by
  have p1 : (i : Int) < 7 := by clear h2; omega
  have p3 : (i : Int) < (N.length : Int) := by rw [hN]; exact p1
  have p4 : (i : Int) < (Z.length : Int) := by rw [hZ]; exact p1
  have p5 : ¬ (u : Int) ≥ (sz : Int) := by clear h2; omega
  have p10 : (sz : Int) < 18446744073709551616 := by clear h2; omega
  have p12 : (i : Int) + 1 ≤ 9223372036854775807 := by clear h2; omega
  have p13 : -9223372036854775808 ≤ (i : Int) + 1 := by clear h2; omega
  have hw : IntKind.u64.wrap (sz : Int) = (sz : Int) := u64_eq (Int.natCast_nonneg sz) p10
  have hi1 : wrap64 ((i : Int) + 1) = ((i + 1 : Nat) : Int) := (wrap_eq p13 p12).trans rfl
  unfold progRound
  rw [if_pos p1, if_pos (Int.natCast_nonneg i), if_pos p3, if_pos p4, h2, hw, if_neg p5, hi1]
/-- The program's loop over the units. -/
theorem span_prog : ∀ (t i u : Nat) (s : List UInt8), 7 - i = t → i ≤ 7 → u < 18446744073709551616 → s.length ≤ 1 + 22 * i →
    Ev (fun k => times_spanText.l0 k (mk s) (u : Int) names 7 (i : Int)) (mk (s ++ spanL (units.drop i) u))
  | 0, i, u, s, h, hi, hu, hs => by
    obtain rfl : i = 7 := by omega
    have e : s ++ spanL (units.drop 7) u = s := by simp [units, spanL]
    rw [e]
    refine Ev.step (f := fun _ => some (mk s)) (fun k => ?_) (Ev.now _)
    rw [l0_round]
    unfold progRound
    rw [if_neg (by decide)]
  | t + 1, i, u, s, h, hi, hu, hs => by
    obtain ⟨sz, nm, h1, h2, h3, h4, h5, h6⟩ := unit_at i (by omega)
    have hi6 : i < 7 := by clear h2 h3; omega
    have hs2 : s.length ≤ 1000 := by clear h2 h3; omega
    have ht : 7 - (i + 1) = t := by clear h2 h3; omega
    have hi7 : i + 1 ≤ 7 := hi6
    rw [h1]
    by_cases c : sz ≤ u
    · have e : s ++ spanL ((sz, nm) :: units.drop (i + 1)) u = s ++ (Lib.decDigits (u / sz) ++ nm) ++ spanL (units.drop (i + 1)) (u % sz) := by
        simp only [spanL, if_pos c, List.append_assoc]
      have hd : (Lib.decDigits (u / sz)).length ≤ 20 := dec_length 19 (u / sz) (Nat.lt_of_lt_of_le (Nat.lt_of_le_of_lt (Nat.div_le_self u sz) hu) pow20)
      have hlen : (s ++ (Lib.decDigits (u / sz) ++ nm)).length ≤ 1 + 22 * (i + 1) := by clear h2 h3; simp only [List.length_append]; omega
      have ih := span_prog t (i + 1) (u % sz) (s ++ (Lib.decDigits (u / sz) ++ nm)) ht hi7 (Nat.lt_of_le_of_lt (Nat.mod_le u sz) hu) hlen
      rw [e]
      exact Ev.step (fun k => (l0_round _ _ _ _ _ _).trans (round_yes sizes names sizes_len names_len k i u (u / sz) (u % sz) sz s nm hi6 hu c h4 h5 rfl rfl hs2 h6 h2 h3)) ih
    · have e : s ++ spanL ((sz, nm) :: units.drop (i + 1)) u = s ++ spanL (units.drop (i + 1)) u := by
        simp only [spanL, if_neg c, List.nil_append, Nat.mod_eq_of_lt (Nat.lt_of_not_le c)]
      have ih := span_prog t (i + 1) u s ht hi7 hu (by clear h2 h3; omega)
      rw [e]
      exact Ev.step (fun k => (l0_round _ _ _ _ _ _).trans (round_no sizes names sizes_len names_len k i u sz s hi6 c h4 h5 h2)) ih
theorem padL_one (n : Nat) : padL n 1 = Lib.decDigits n := by
  by_cases c : n = 0
  · subst c
    decide +kernel
  · have hb := body_step n (by omega)
    have hl : 1 ≤ (body n).length := by rw [hb]; simp
    rw [pad_body n 1 (by omega), show 1 - (body n).length = 0 by omega]
    unfold body
    rw [if_neg c]
    rfl
theorem spanL_zero : ∀ l : List (Nat × List UInt8), (∀ x ∈ l, 1 ≤ x.1) → spanL l 0 = []
  | [], _ => rfl
  | x :: r, h => by
    have h1 := h x (List.mem_cons_self ..)
    unfold spanL
    rw [if_neg (by omega), List.nil_append, Nat.zero_mod]
    exact spanL_zero r (fun y hy => h y (List.mem_cons_of_mem _ hy))
theorem units_pos : ∀ x ∈ units, 1 ≤ x.1 ∧ x.2 ≠ [] := by decide
theorem spanL_ne (u : Nat) (h : 1 ≤ u) : spanL units u ≠ [] := spanL_some units u h ⟨[78, 83], by decide, by decide⟩ units_pos
/-- The magnitude and the sign of a span's bits. -/
def magn (b : Nat) : Nat := if 9223372036854775808 ≤ b then 18446744073709551616 - b else b
def signL (b : Nat) : List UInt8 := if 9223372036854775808 ≤ b then [45] else []
theorem sign_le (b : Nat) : (signL b).length ≤ 1 := by
  unfold signL
  split <;> simp
/-- How the document ends a span's text. -/
def spanEnd (sign l : List UInt8) : List UInt8 := [84, 35] ++ sign ++ (if l = [] then [48, 83] else l)
theorem span_prog_whole (b : Nat) (hb : b < 18446744073709551616) : Ev (fun k => (times_spanText.f k (wrap64 (b : Int))).bind fun t => if 2 + t.size ≤ 9223372036854775807 then some ((⟨#[84, 35]⟩ : ByteArray) ++ t) else none) (mk (spanEnd (signL b) (spanL units (magn b)))) := by
  by_cases c0 : b = 0
  · subst c0
    refine ⟨0, fun k _ => ?_⟩
    have e : times_spanText.f k (wrap64 ((0 : Nat) : Int)) = some (mk [48, 83]) := by
      unfold times_spanText.f
      rw [if_pos (by decide +kernel)]
      rfl
    simp only [e, Option.bind_some]
    rw [mk_size, if_pos (by simp), show (⟨#[84, 35]⟩ : ByteArray) = mk [84, 35] from rfl, mk_append]
    rfl
  · have hm : 1 ≤ magn b ∧ magn b < 18446744073709551616 := by unfold magn; split <;> omega
    have hne := spanL_ne (magn b) hm.1
    have hle := spanL_le units (magn b) (by have := pow20; omega) (by decide)
    have hl : units.length = 7 := rfl
    have h := span_prog 7 0 (magn b) (signL b) rfl (by omega) hm.2 (by have := sign_le b; omega)
    rw [List.drop_zero] at h
    have hsg := sign_le b
    have e : ∀ k, times_spanText.f k (wrap64 (b : Int)) = times_spanText.j0 k (mk (signL b)) (magn b : Int) := by
      intro k
      unfold times_spanText.f
      by_cases c : 9223372036854775808 ≤ b
      · have hw : wrap64 (b : Int) = (b : Int) - 18446744073709551616 := by unfold wrap64; omega
        have hw2 : IntKind.u64.wrap (-(IntKind.u64.wrap ((b : Int) - 18446744073709551616))) = ((18446744073709551616 - b : Nat) : Int) := by
          simp [IntKind.wrap, IntKind.signed, IntKind.bits]
          omega
        rw [hw, if_neg (by omega), if_pos (by omega), hw2]
        unfold signL magn
        rw [if_pos c, if_pos c]
        rfl
      · have hw : wrap64 (b : Int) = (b : Int) := by rw [wrap_eq (by omega) (by omega)]
        rw [hw, if_neg (by omega), if_neg (by omega), u64_eq (by omega) (by omega)]
        unfold signL magn
        rw [if_neg c, if_neg c]
        rfl
    have h2 : Ev (fun k => times_spanText.f k (wrap64 (b : Int))) (mk (signL b ++ spanL units (magn b))) := by
      refine Ev.congr e (Ev.step (fun k => ?_) h)
      simp only [times_spanText.j0, Option.bind_some]
      rfl
    refine Ev.bind h2 ⟨0, fun k _ => ?_⟩
    show (if 2 + (mk (signL b ++ spanL units (magn b))).size ≤ 9223372036854775807 then some ((⟨#[84, 35]⟩ : ByteArray) ++ mk (signL b ++ spanL units (magn b))) else none) = _
    rw [mk_size, if_pos (by simp only [List.length_append]; omega), show (⟨#[84, 35]⟩ : ByteArray) = mk [84, 35] from rfl, mk_append]
    unfold spanEnd
    rw [if_neg hne, List.append_assoc]
end Go.Proofs.YteoehlcjllbhfaaGreatDoor.PureBack
