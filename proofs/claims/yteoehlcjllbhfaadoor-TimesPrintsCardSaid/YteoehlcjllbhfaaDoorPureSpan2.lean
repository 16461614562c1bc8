/- TimesPrints: spans' texts, the document's and the program's whole. (This text: of the Lean functions alone.) -/
import Derived.Test.YteoehlcjllbhfaaDoorPureSpan
namespace Go.Proofs.YteoehlcjllbhfaaDoor.PurePad
open Go.RowKit Go.Proofs.YteoehlcjllbhfaaDoor.XPrints Go.Proofs.YteoehlcjllbhfaaDoorW.PrintWords Go.Proofs.YteoehlcjllbhfaaDoorW.PrintLast Go.Proofs.YteoehlcjllbhfaaDoorW.PrintMore Go.Proofs.YteoehlcjllbhfaaDoor.Dec
set_option linter.unusedVariables false
set_option linter.unusedSimpArgs false
/-- How the document ends a span's text. -/
def spanEnd (sign l : List UInt8) : List UInt8 := [84, 35] ++ sign ++ (if l = [] then [48, 83] else l)
/-- What stands at a round, as the document's table tells it. -/
theorem unit_ref (i : Nat) (h : i < 7) : ∃ (sz : Nat) (nm : List UInt8) (b : ByteArray) (t : Int), units.drop i = (sz, nm) :: units.drop (i + 1) ∧ relayref02_unit.f (i : Int) = some (b, (sz : Int), t) ∧ rdOf ByteArray.empty names (i : Int) = mk nm ∧ 1 ≤ sz ∧ sz ≤ 86400000000000 ∧ nm.length ≤ 2 ∧ nm ≠ [] := by
  obtain rfl | rfl | rfl | rfl | rfl | rfl | rfl : i = 0 ∨ i = 1 ∨ i = 2 ∨ i = 3 ∨ i = 4 ∨ i = 5 ∨ i = 6 := by omega
  all_goals exact ⟨_, _, _, _, rfl, rfl, rfl, by decide, by decide, by decide, by decide⟩
theorem padL_one (n : Nat) : padL n 1 = Lib.decDigits n := by
  by_cases c : n = 0
  · subst c
    decide +kernel
  · have hb := body_step n (by omega)
    have hl : 1 ≤ (body n).length := by rw [hb]; simp
    rw [pad_body n 1 (by omega), show 1 - (body n).length = 0 by omega]
    unfold body
    rw [if_neg c]
    rfl
/-- How the document's loop ends. -/
def refDone (x3 x5 : ByteArray) : Option ByteArray := if x5.toList = ([] : List UInt8) then (if 2 + x3.size ≤ 9223372036854775807 then (if ((⟨#[84, 35]⟩ : ByteArray) ++ x3).size + 2 ≤ 9223372036854775807 then (some (((⟨#[84, 35]⟩ : ByteArray) ++ x3) ++ (⟨#[48, 83]⟩ : ByteArray))) else (none)) else (none)) else (if 2 + x3.size ≤ 9223372036854775807 then (if ((⟨#[84, 35]⟩ : ByteArray) ++ x3).size + x5.size ≤ 9223372036854775807 then (some (((⟨#[84, 35]⟩ : ByteArray) ++ x3) ++ x5)) else (none)) else (none))
/-- One round of the document's loop. -/
def refRound (k : Nat) (x3 : ByteArray) (x4 : Int) (x5 : ByteArray) (x6 : List ByteArray) (x7 : Int) : Option ByteArray :=
  if x7 < 7 then ((relayref02_unit.f x7).bind fun bt159 => (if (IntKind.u64.wrap (bt159.2.1)) = 0 then (none) else (if (IntKind.u64.wrap (Int.tdiv x4 (IntKind.u64.wrap (bt159.2.1)))) > 0 then ((relayref02_digits.f k (IntKind.u64.wrap (Int.tdiv x4 (IntKind.u64.wrap (bt159.2.1)))) 1).bind fun t162 => (if x5.size + t162.size ≤ 9223372036854775807 then (if 0 ≤ x7 then (if x7 < (x6.length : Int) then (if (x5 ++ t162).size + (rdOf ByteArray.empty x6 x7).size ≤ 9223372036854775807 then (relayref02_spanText.l0 k x3 (Int.tmod x4 (IntKind.u64.wrap (bt159.2.1))) ((x5 ++ t162) ++ (rdOf ByteArray.empty x6 x7)) x6 (wrap64 (x7 + 1))) else (none)) else (none)) else (none)) else (none))) else (relayref02_spanText.l0 k x3 (Int.tmod x4 (IntKind.u64.wrap (bt159.2.1))) x5 x6 (wrap64 (x7 + 1)))))) else refDone x3 x5
theorem ref_round (k : Nat) (x3 : ByteArray) (x4 : Int) (x5 : ByteArray) (x6 : List ByteArray) (x7 : Int) : relayref02_spanText.l0 (k + 1) x3 x4 x5 x6 x7 = refRound k x3 x4 x5 x6 x7 := rfl
theorem ref_yes (N : List ByteArray) (hN : (N.length : Int) = 7) (k i u q r sz : Nat) (b : ByteArray) (bd : Int) (x3 : ByteArray) (s nm : List UInt8) (hi : i < 7) (hu : u < 18446744073709551616) (c : sz ≤ u) (h5 : 1 ≤ sz) (h6 : sz ≤ 86400000000000) (hq : q = u / sz) (hr : r = u % sz) (hs : s.length ≤ 1000) (hnm : nm.length ≤ 2)
    (h2 : relayref02_unit.f (i : Int) = some (b, (sz : Int), bd)) (h3 : rdOf ByteArray.empty N (i : Int) = mk nm) (hg : relayref02_digits.f k (q : Int) 1 = some (mk (padL q 1))) :
    refRound k x3 (u : Int) (mk s) N (i : Int) = relayref02_spanText.l0 k x3 (r : Int) (mk (s ++ (Lib.decDigits q ++ nm))) N ((i + 1 : Nat) : Int) := by
  have hq1 : q ≤ u := by rw [hq]; exact Nat.div_le_self u sz
  have hq0 : 0 < q := by rw [hq]; exact Nat.div_pos c h5
  have p9 : q < 18446744073709551616 := Nat.lt_of_le_of_lt hq1 hu
  have hd : (Lib.decDigits q).length ≤ 20 := dec_length 19 q (Nat.lt_of_lt_of_le p9 pow20)
  rw [padL_one] at hg
  have p1 : (i : Int) < 7 := by clear h2 h3 hq hr hg; omega
  have p3 : (i : Int) < (N.length : Int) := by rw [hN]; exact p1
  have p6 : ¬ (sz : Int) = 0 := by clear h2 h3 hq hr hg; omega
  have p7 : s.length + (Lib.decDigits q).length ≤ 9223372036854775807 := by clear h2 h3 hq hr hg; omega
  have p8 : (s ++ Lib.decDigits q).length + nm.length ≤ 9223372036854775807 := by clear h2 h3 hq hr hg; rw [List.length_append]; omega
  have p10 : (sz : Int) < 18446744073709551616 := by clear h2 h3 hq hr hg; omega
  have p11 : (q : Int) < 18446744073709551616 := by clear h2 h3 hq hr hg; omega
  have p12 : (i : Int) + 1 ≤ 9223372036854775807 := by clear h2 h3 hq hr hg; omega
  have p13 : -9223372036854775808 ≤ (i : Int) + 1 := by clear h2 h3 hq hr hg; omega
  have p14 : (q : Int) > 0 := by clear h2 h3 hq hr hg; omega
  have hw : IntKind.u64.wrap (sz : Int) = (sz : Int) := u64_eq (Int.natCast_nonneg sz) p10
  have hdv : IntKind.u64.wrap (Int.tdiv (u : Int) (sz : Int)) = (q : Int) := by
    rw [Int.tdiv_eq_ediv_of_nonneg (Int.natCast_nonneg u), ← Int.natCast_ediv, ← hq]
    exact u64_eq (Int.natCast_nonneg q) p11
  have hmd : Int.tmod (u : Int) (sz : Int) = (r : Int) := by
    rw [Int.tmod_eq_emod_of_nonneg (Int.natCast_nonneg u), ← Int.natCast_emod, ← hr]
  have hi1 : wrap64 ((i : Int) + 1) = ((i + 1 : Nat) : Int) := (wrap_eq p13 p12).trans rfl
  unfold refRound
  rw [if_pos p1, h2]
  simp only [Option.bind_some]
  rw [hw, if_neg p6, hdv, if_pos p14, hg]
  simp only [Option.bind_some]
  rw [mk_size, mk_size, if_pos p7, if_pos (Int.natCast_nonneg i), if_pos p3, h3, mk_append, mk_append, mk_size, mk_size, if_pos p8, hmd, hi1, List.append_assoc]
theorem ref_no (N : List ByteArray) (hN : (N.length : Int) = 7) (k i u sz : Nat) (b : ByteArray) (bd : Int) (x3 : ByteArray) (s : List UInt8) (hi : i < 7) (c : ¬ sz ≤ u) (h5 : 1 ≤ sz) (h6 : sz ≤ 86400000000000)
    (h2 : relayref02_unit.f (i : Int) = some (b, (sz : Int), bd)) :
    refRound k x3 (u : Int) (mk s) N (i : Int) = relayref02_spanText.l0 k x3 (u : Int) (mk s) N ((i + 1 : Nat) : Int) := by
  have hz : u / sz = 0 := Nat.div_eq_of_lt (Nat.lt_of_not_le c)
  have hm2 : u % sz = u := Nat.mod_eq_of_lt (Nat.lt_of_not_le c)
  have p1 : (i : Int) < 7 := by clear h2 hz hm2; omega
  have p6 : ¬ (sz : Int) = 0 := by clear h2 hz hm2; omega
  have p10 : (sz : Int) < 18446744073709551616 := by clear h2 hz hm2; omega
  have p12 : (i : Int) + 1 ≤ 9223372036854775807 := by clear h2 hz hm2; omega
  have p13 : -9223372036854775808 ≤ (i : Int) + 1 := by clear h2 hz hm2; omega
  have hw : IntKind.u64.wrap (sz : Int) = (sz : Int) := u64_eq (Int.natCast_nonneg sz) p10
  have hdv : IntKind.u64.wrap (Int.tdiv (u : Int) (sz : Int)) = 0 := by
    rw [Int.tdiv_eq_ediv_of_nonneg (Int.natCast_nonneg u), ← Int.natCast_ediv, hz]
    rfl
  have hmd : Int.tmod (u : Int) (sz : Int) = (u : Int) := by
    rw [Int.tmod_eq_emod_of_nonneg (Int.natCast_nonneg u), ← Int.natCast_emod, hm2]
  have hi1 : wrap64 ((i : Int) + 1) = ((i + 1 : Nat) : Int) := (wrap_eq p13 p12).trans rfl
  unfold refRound
  rw [if_pos p1, h2]
  simp only [Option.bind_some]
  rw [hw, if_neg p6, hdv, if_neg (by decide), hmd, hi1]
/-- The document's loop over the units. -/
theorem span_ref (sign : List UInt8) (hsg : sign.length ≤ 1) : ∀ (t i u : Nat) (s : List UInt8), 7 - i = t → i ≤ 7 → u < 18446744073709551616 → s.length ≤ 22 * i →
    Ev (fun k => relayref02_spanText.l0 k (mk sign) (u : Int) (mk s) names (i : Int)) (mk (spanEnd sign (s ++ spanL (units.drop i) u)))
  | 0, i, u, s, h, hi, hu, hs => by
    obtain rfl : i = 7 := by omega
    have e : s ++ spanL (units.drop 7) u = s := by simp [units, spanL]
    rw [e]
    refine Ev.step (f := fun _ => some (mk (spanEnd sign s))) (fun k => ?_) (Ev.now _)
    rw [ref_round]
    unfold refRound
    rw [if_neg (by decide)]
    unfold refDone
    rw [mk_list, show (⟨#[84, 35]⟩ : ByteArray) = mk [84, 35] from rfl, show (⟨#[48, 83]⟩ : ByteArray) = mk [48, 83] from rfl, mk_append, mk_size, mk_size, mk_size, mk_append, mk_append]
    by_cases c : s = []
    · subst c
      rw [if_pos rfl, if_pos (by omega), if_pos (by simp only [List.length_append, List.length_cons, List.length_nil]; omega)]
      rfl
    · rw [if_neg c, if_pos (by omega), if_pos (by simp only [List.length_append, List.length_cons, List.length_nil]; omega)]
      unfold spanEnd
      rw [if_neg c]
  | t + 1, i, u, s, h, hi, hu, hs => by
    obtain ⟨sz, nm, b, bd, h1, h2, h3, h4, h5, h6, h7⟩ := unit_ref i (by omega)
    have hi6 : i < 7 := by clear h2 h3; omega
    have hs2 : s.length ≤ 1000 := by clear h2 h3; omega
    have ht : 7 - (i + 1) = t := by clear h2 h3; omega
    have hi7 : i + 1 ≤ 7 := hi6
    rw [h1]
    by_cases c : sz ≤ u
    · have e : s ++ spanL ((sz, nm) :: units.drop (i + 1)) u = s ++ (Lib.decDigits (u / sz) ++ nm) ++ spanL (units.drop (i + 1)) (u % sz) := by
        simp only [spanL, if_pos c, List.append_assoc]
      have hq9 : u / sz < 18446744073709551616 := Nat.lt_of_le_of_lt (Nat.div_le_self u sz) hu
      have hd : (Lib.decDigits (u / sz)).length ≤ 20 := dec_length 19 (u / sz) (Nat.lt_of_lt_of_le hq9 pow20)
      have hlen : (s ++ (Lib.decDigits (u / sz) ++ nm)).length ≤ 22 * (i + 1) := by clear h2 h3; simp only [List.length_append]; omega
      obtain ⟨K, ih⟩ := span_ref sign hsg t (i + 1) (u % sz) (s ++ (Lib.decDigits (u / sz) ++ nm)) ht hi7 (Nat.lt_of_le_of_lt (Nat.mod_le u sz) hu) hlen
      obtain ⟨K2, hg⟩ := digits_eq (u / sz) 1 hq9 (by decide) (by decide)
      rw [e]
      refine ⟨K + K2 + 1, fun n hn => ?_⟩
      obtain ⟨m, rfl⟩ : ∃ m, n = m + 1 := ⟨n - 1, by clear h2 h3; omega⟩
      have hg1 : relayref02_digits.f m ((u / sz : Nat) : Int) 1 = some (mk (padL (u / sz) 1)) := hg m (by clear h2 h3; omega)
      have ih1 := ih m (by clear h2 h3; omega)
      exact ((ref_round _ _ _ _ _ _).trans (ref_yes names names_len m i u (u / sz) (u % sz) sz b bd (mk sign) s nm hi6 hu c h4 h5 rfl rfl hs2 h6 h2 h3 hg1)).trans ih1
    · have e : s ++ spanL ((sz, nm) :: units.drop (i + 1)) u = s ++ spanL (units.drop (i + 1)) u := by
        simp only [spanL, if_neg c, List.nil_append, Nat.mod_eq_of_lt (Nat.lt_of_not_le c)]
      have ih := span_ref sign hsg t (i + 1) u s ht hi7 hu (by clear h2 h3; omega)
      rw [e]
      exact Ev.step (fun k => (ref_round _ _ _ _ _ _).trans (ref_no names names_len k i u sz b bd (mk sign) s hi6 c h4 h5 h2)) ih
theorem spanL_zero : ∀ l : List (Nat × List UInt8), (∀ x ∈ l, 1 ≤ x.1) → spanL l 0 = []
  | [], _ => rfl
  | x :: r, h => by
    have h1 := h x (List.mem_cons_self ..)
    unfold spanL
    rw [if_neg (by omega), List.nil_append, Nat.zero_mod]
    exact spanL_zero r (fun y hy => h y (List.mem_cons_of_mem _ hy))
theorem units_pos : ∀ x ∈ units, 1 ≤ x.1 ∧ x.2 ≠ [] := by decide
theorem spanL_ne (u : Nat) (h : 1 ≤ u) : spanL units u ≠ [] := spanL_some units u h ⟨[78, 83], by decide, by decide⟩ units_pos
/-- The magnitude and the sign of a span's bits. -/
def magn (b : Nat) : Nat := if 9223372036854775808 ≤ b then 18446744073709551616 - b else b
def signL (b : Nat) : List UInt8 := if 9223372036854775808 ≤ b then [45] else []
theorem sign_le (b : Nat) : (signL b).length ≤ 1 := by
  unfold signL
  split <;> simp
theorem span_ref_whole (b : Nat) (hb : b < 18446744073709551616) : Ev (fun k => relayref02_spanText.f k (b : Int)) (mk (spanEnd (signL b) (spanL units (magn b)))) := by
  have h := span_ref (signL b) (sign_le b) 7 0 (magn b) [] rfl (by omega) (by unfold magn; split <;> omega) (by simp)
  rw [List.nil_append, List.drop_zero] at h
  have e : ∀ k, relayref02_spanText.f k (b : Int) = relayref02_spanText.j0 k (mk (signL b)) (magn b : Int) := by
    intro k
    unfold relayref02_spanText.f
    by_cases c : 9223372036854775808 ≤ b
    · have hw : IntKind.u64.wrap (-(b : Int)) = ((18446744073709551616 - b : Nat) : Int) := by
        simp [IntKind.wrap, IntKind.signed, IntKind.bits]
        omega
      rw [if_pos (by omega), hw]
      unfold signL magn
      rw [if_pos c, if_pos c]
      rfl
    · rw [if_neg (by omega)]
      unfold signL magn
      rw [if_neg c, if_neg c]
      rfl
  refine Ev.congr e (Ev.step (fun k => ?_) h)
  simp only [relayref02_spanText.j0]
  rfl
theorem span_prog_whole (b : Nat) (hb : b < 18446744073709551616) : Ev (fun k => (times_spanText.f k (wrap64 (b : Int))).bind fun t => if 2 + t.size ≤ 9223372036854775807 then some ((⟨#[84, 35]⟩ : ByteArray) ++ t) else none) (mk (spanEnd (signL b) (spanL units (magn b)))) := by
  by_cases c0 : b = 0
  · subst c0
    refine ⟨0, fun k _ => ?_⟩
    have e : times_spanText.f k (wrap64 ((0 : Nat) : Int)) = some (mk [48, 83]) := by
      unfold times_spanText.f
      rw [if_pos (by decide +kernel)]
      rfl
    simp only [e, Option.bind_some]
    rw [mk_size, if_pos (by simp), show (⟨#[84, 35]⟩ : ByteArray) = mk [84, 35] from rfl, mk_append]
    rfl
  · have hm : 1 ≤ magn b ∧ magn b < 18446744073709551616 := by unfold magn; split <;> omega
    have hne := spanL_ne (magn b) hm.1
    have hle := spanL_le units (magn b) (by have := pow20; omega) (by decide)
    have hl : units.length = 7 := rfl
    have h := span_prog 7 0 (magn b) (signL b) rfl (by omega) hm.2 (by have := sign_le b; omega)
    rw [List.drop_zero] at h
    have hsg := sign_le b
    have e : ∀ k, times_spanText.f k (wrap64 (b : Int)) = times_spanText.j0 k (mk (signL b)) (magn b : Int) := by
      intro k
      unfold times_spanText.f
      by_cases c : 9223372036854775808 ≤ b
      · have hw : wrap64 (b : Int) = (b : Int) - 18446744073709551616 := by unfold wrap64; omega
        have hw2 : IntKind.u64.wrap (-(IntKind.u64.wrap ((b : Int) - 18446744073709551616))) = ((18446744073709551616 - b : Nat) : Int) := by
          simp [IntKind.wrap, IntKind.signed, IntKind.bits]
          omega
        rw [hw, if_neg (by omega), if_pos (by omega), hw2]
        unfold signL magn
        rw [if_pos c, if_pos c]
        rfl
      · have hw : wrap64 (b : Int) = (b : Int) := by rw [wrap_eq (by omega) (by omega)]
        rw [hw, if_neg (by omega), if_neg (by omega), u64_eq (by omega) (by omega)]
        unfold signL magn
        rw [if_neg c, if_neg c]
        rfl
    have h2 : Ev (fun k => times_spanText.f k (wrap64 (b : Int))) (mk (signL b ++ spanL units (magn b))) := by
      refine Ev.congr e (Ev.step (fun k => ?_) h)
      simp only [times_spanText.j0, Option.bind_some]
      rfl
    refine Ev.bind h2 ⟨0, fun k _ => ?_⟩
    show (if 2 + (mk (signL b ++ spanL units (magn b))).size ≤ 9223372036854775807 then some ((⟨#[84, 35]⟩ : ByteArray) ++ mk (signL b ++ spanL units (magn b))) else none) = _
    rw [mk_size, if_pos (by simp only [List.length_append]; omega), show (⟨#[84, 35]⟩ : ByteArray) = mk [84, 35] from rfl, mk_append]
    unfold spanEnd
    rw [if_neg hne, List.append_assoc]
end Go.Proofs.YteoehlcjllbhfaaDoor.PurePad
