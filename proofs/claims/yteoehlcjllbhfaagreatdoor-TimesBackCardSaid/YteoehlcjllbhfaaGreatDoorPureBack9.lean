/- TimesBack, of every value. (This text: of the Lean functions alone.) -/
import Derived.Test.YteoehlcjllbhfaaGreatDoorPureBack8
import Derived.Test.YteoehlcjllbhfaaGreatDoorXBackx18
namespace Go.Proofs.YteoehlcjllbhfaaGreatDoor.PureBack
open Go.RowKit Go.Proofs.YteoehlcjllbhfaaGreatDoor.XBack Go.Proofs.YteoehlcjllbhfaaGreatDoorW.PrintWords Go.Proofs.YteoehlcjllbhfaaGreatDoorW.PrintLast Go.Proofs.YteoehlcjllbhfaaGreatDoorW.PrintMore
open Go.Lib (decDigits)
open Go.Proofs.YteoehlcjllbhfaaGreatDoor.Cal (ok no)
set_option linter.unusedVariables false
set_option linter.unusedSimpArgs false
theorem nil_of {s : ByteArray} (h : s.toList = []) : s = mk [] := by
  apply mk_inj
  have e := mk_list s.data.toList
  rw [mk_data] at e
  rw [← e, h]
  rfl
/-- Where the law holds for want of a value. -/
theorem law_none (c : Int) (b : Nat) (s : ByteArray) (hpr : Ev (fun k => times_Print.f k c (b : Int) s) (mk [])) (t : Bool) (hm : ∀ k, relayref01_May.f (k + 5) c (b : Int) s = some t) (hk : t = false ∨ c < 14 ∨ 17 < c) :
    Ev (fun k => relaylaw02_TimesBack.f k c (b : Int) s) true := by
  obtain ⟨K1, k1⟩ := hpr
  obtain ⟨K2, k2⟩ := CalB.awake
  refine ⟨K1 + K2 + 5, fun n hn => ?_⟩
  obtain ⟨m, rfl⟩ : ∃ m, n = m + 5 := ⟨n - 5, by omega⟩
  have g1 : times_Print.f (m + 5) c (b : Int) s = _ := k1 (m + 5) (by omega)
  have g2 : relaylaw02_awake.f (m + 4) = _ := k2 (m + 4) (by omega)
  have hj : relaylaw02_TimesBack.j0 (m + 4 + 1) (mk []) true c (b : Int) s = some true := by
    rw [relaylaw02_TimesBack.j0, if_pos rfl, mk_list, if_pos rfl, g2, Option.bind_some]
  show relaylaw02_TimesBack.f (m + 5) c (b : Int) s = _
  unfold relaylaw02_TimesBack.f
  rw [g1, Option.bind_some, hm, Option.bind_some]
  cases t with
  | false => rw [if_neg (by decide)]; exact hj
  | true =>
    rw [if_pos rfl]
    by_cases c1 : c < 14
    · rw [if_pos c1]; exact hj
    · rw [if_neg c1, decide_eq_true (hk.elim (fun h => by cases h) (fun h => h.elim (fun h => absurd h c1) id))]
      exact hj
/-- Where there is a value: what is printed is cut and read. -/
theorem law_some (c : Int) (b : Nat) (s : ByteArray) (hs : s.toList = []) (hc : 14 ≤ c ∧ c ≤ 17) (p r : List UInt8) (w : Int × Int × ByteArray × Bool) (hi : Lib.indexByte (p ++ 35 :: r) 35 = (p.length : Int)) (hl : (p ++ 35 :: r).length ≤ 1000000)
    (hm : ∀ k, relayref01_May.f (k + 5) c (b : Int) s = some true) (hpr : Ev (fun k => times_Print.f k c (b : Int) s) (mk (p ++ 35 :: r))) (hpa : Ev (fun k => times_Parse.f k c (mk r)) w)
    (hw : (c = 14 ∧ b = 9223372036854775808 ∧ w.2.2.2 = false) ∨ (¬ (c = 14 ∧ b = 9223372036854775808) ∧ w = (c, (b : Int), mk [], true))) :
    Ev (fun k => relaylaw02_TimesBack.f k c (b : Int) s) true := by
  obtain ⟨K1, k1⟩ := hpr
  obtain ⟨K2, k2⟩ := hpa
  refine ⟨K1 + K2 + 5, fun n hn => ?_⟩
  obtain ⟨m, rfl⟩ : ∃ m, n = m + 5 := ⟨n - 5, by omega⟩
  have g1 : times_Print.f (m + 5) c (b : Int) s = _ := k1 (m + 5) (by omega)
  have g2 : times_Parse.f (m + 4) c (mk r) = _ := k2 (m + 4) (by omega)
  show relaylaw02_TimesBack.f (m + 5) c (b : Int) s = _
  unfold relaylaw02_TimesBack.f
  rw [g1, Option.bind_some, hm, Option.bind_some, if_pos rfl, if_neg (by omega), decide_eq_false (by omega)]
  show relaylaw02_TimesBack.j0 (m + 4 + 1) (mk (p ++ 35 :: r)) false c (b : Int) s = some true
  rw [relaylaw02_TimesBack.j0, if_neg (by decide), cut_at p r hi hl, Option.bind_some]
  dsimp only
  rw [if_pos rfl, g2, Option.bind_some]
  rcases hw with ⟨h1, h2, h3⟩ | ⟨h1, h2⟩
  · rw [if_pos h1, if_pos (by rw [h2]; rfl), h3]
    rfl
  · have hfin : (if w.2.2.2 = true then some (w.1 == c && (w.2.1 == (b : Int) && (w.2.2.1.toList == s.toList))) else some false) = some true := by
      rw [h2]
      dsimp only
      rw [if_pos rfl, mk_list, hs]
      simp
    by_cases c1 : c = 14
    · have hb : ¬ (b : Int) = 9223372036854775808 := fun e => h1 ⟨c1, by omega⟩
      rw [if_pos c1, if_neg hb]
      exact hfin
    · rw [if_neg c1]
      exact hfin
theorem wrap_of {n : Int} {b : Nat} (h : n = (b : Int) ∨ n = (b : Int) - 18446744073709551616) (hb : b < 18446744073709551616) : IntKind.u64.wrap n = (b : Int) := by
  simp [IntKind.wrap, IntKind.signed, IntKind.bits]
  omega
/-- A value made of a number. -/
theorem int_made (c n : Int) (b : Nat) (hc : 14 ≤ c ∧ c ≤ 17) (h : fitsB c n = true) (hw : IntKind.u64.wrap n = (b : Int)) (j : Nat) : ((value_Int.f (j + 9) c n).bind fun x => some (x.1, x.2.1, x.2.2.1, (x.2.2.2 == 0))) = some (c, (b : Int), mk [], true) := by
  rw [int_total j c n hc, if_pos h, hw, Option.bind_some]
  rfl
/-- Spans, but for the least one and the span 0. -/
theorem back_span (b : Nat) (s : ByteArray) (hb : b < 18446744073709551616) (hs : s.toList = []) (h0 : b ≠ 0) (hmin : b ≠ 9223372036854775808) : Ev (fun k => relaylaw02_TimesBack.f k 14 (b : Int) s) true := by
  have hm1 : 1 ≤ magn b ∧ magn b ≤ 9223372036854775807 := by unfold magn; split <;> omega
  have hne := spanL_ne (magn b) hm1.1
  have hle : (spanL units (magn b)).length ≤ 154 := spanL_le units (magn b) (Nat.lt_of_lt_of_le (Nat.lt_of_le_of_lt hm1.2 (by decide)) pow20) (by decide)
  have hsg := sign_le b
  have ht : mk (spanEnd (signL b) (spanL units (magn b))) = mk ([84] ++ 35 :: (signL b ++ spanL units (magn b))) := by
    unfold spanEnd
    rw [if_neg hne]
    simp
  obtain ⟨K, h⟩ := span_prog_whole b hb
  rw [ht] at h
  have hpr : Ev (fun k => times_Print.f k 14 (b : Int) s) (mk ([84] ++ 35 :: (signL b ++ spanL units (magn b)))) := by
    refine ⟨K + 5, fun k hk => ?_⟩
    obtain ⟨m, rfl⟩ : ∃ m, k = m + 5 := ⟨k - 5, by omega⟩
    show times_Print.f (m + 5) 14 (b : Int) s = _
    unfold times_Print.f
    rw [may14, Option.bind_some, if_pos (decide_eq_true hs), if_pos rfl]
    exact h (m + 5) (by omega)
  obtain ⟨K2, h2⟩ := span_back b hm1.1 hm1.2
  have hpa : Ev (fun k => times_Parse.f k 14 (mk (signL b ++ spanL units (magn b)))) (14, (b : Int), mk [], true) := by
    refine ⟨K2 + 9, fun k hk => ?_⟩
    obtain ⟨m, rfl⟩ : ∃ m, k = m + 9 := ⟨k - 9, by omega⟩
    have g : times_span.f (m + 9) (mk (signL b ++ spanL units (magn b))) = _ := h2 (m + 9) (by omega)
    have hw : IntKind.u64.wrap (if 9223372036854775808 ≤ b then -((magn b : Nat) : Int) else ((magn b : Nat) : Int)) = (b : Int) := by
      refine wrap_of ?_ hb
      unfold magn
      by_cases c : 9223372036854775808 ≤ b
      · rw [if_pos c, if_pos c]; right; omega
      · rw [if_neg c, if_neg c]; left; rfl
    show times_Parse.f (m + 9) 14 (mk (signL b ++ spanL units (magn b))) = _
    unfold times_Parse.f
    rw [if_pos rfl, g, Option.bind_some]
    dsimp only
    rw [if_pos rfl]
    exact int_made 14 _ b (by decide) (by unfold fitsB; rfl) hw m
  exact law_some 14 b s hs (by decide) [84] _ _ (by rfl) (by simp only [List.length_append, List.length_cons, List.length_nil]; omega) (fun k => by rw [ref14 _ _ _ (by omega) (by omega), decide_eq_true hs]) hpr hpa (Or.inr ⟨fun h => hmin h.2, rfl⟩)
theorem back_nought (s : ByteArray) (hs : s.toList = []) : Ev (fun k => relaylaw02_TimesBack.f k 14 ((0 : Nat) : Int) s) true := by
  obtain ⟨K, h⟩ := span_prog_whole 0 (by decide)
  have ht : mk (spanEnd (signL 0) (spanL units (magn 0))) = mk ([84] ++ 35 :: [48, 83]) := by
    rw [show magn 0 = 0 by decide +kernel, show signL 0 = [] by decide +kernel, spanL_zero units (fun x h => (units_pos x h).1)]
    rfl
  rw [ht] at h
  have hpr : Ev (fun k => times_Print.f k 14 ((0 : Nat) : Int) s) (mk ([84] ++ 35 :: [48, 83])) := by
    refine ⟨K + 5, fun k hk => ?_⟩
    obtain ⟨m, rfl⟩ : ∃ m, k = m + 5 := ⟨k - 5, by omega⟩
    show times_Print.f (m + 5) 14 ((0 : Nat) : Int) s = _
    unfold times_Print.f
    rw [may14, Option.bind_some, if_pos (decide_eq_true hs), if_pos rfl]
    exact h (m + 5) (by omega)
  have hpa : Ev (fun k => times_Parse.f k 14 (mk [48, 83])) (14, ((0 : Nat) : Int), mk [], true) := Ev.of (fun k => times_Parse.mono _ _ k) (k := 60) (by kernel_rfl)
  exact law_some 14 0 s hs (by decide) [84] _ _ (by rfl) (by decide) (fun k => by rw [ref14 _ _ _ (by omega) (by omega), decide_eq_true hs]) hpr hpa (Or.inr ⟨fun h => absurd h.2 (by decide), rfl⟩)
theorem dec_split (n : Nat) (h : ¬ n < 10) : decDigits n = decDigits (n / 10) ++ [UInt8.ofNat (48 + n % 10)] := by rw [Lib.decDigits, dif_neg h]
theorem dec_one (n : Nat) (h : n < 10) : decDigits n = [UInt8.ofNat (48 + n)] := by rw [Lib.decDigits, dif_pos h]
theorem dec3 (a b c : Nat) (ha : a < 10) (hb : b < 10) (hc : c < 10) (h1 : 1 ≤ a) : decDigits ((a * 10 + b) * 10 + c) = [UInt8.ofNat (48 + a), UInt8.ofNat (48 + b), UInt8.ofNat (48 + c)] := by
  rw [dec_split _ (by omega), show ((a * 10 + b) * 10 + c) / 10 = a * 10 + b by omega, show ((a * 10 + b) * 10 + c) % 10 = c by omega, dec_split _ (by omega), show (a * 10 + b) / 10 = a by omega, show (a * 10 + b) % 10 = b by omega, dec_one a ha]
  rfl
theorem dec2 (a b : Nat) (ha : a < 10) (hb : b < 10) (h1 : 1 ≤ a) : decDigits (a * 10 + b) = [UInt8.ofNat (48 + a), UInt8.ofNat (48 + b)] := by
  rw [dec_split _ (by omega), show (a * 10 + b) / 10 = a by omega, show (a * 10 + b) % 10 = b by omega, dec_one a ha]
  rfl
theorem dec_days : decDigits 106751 = [49, 48, 54, 55, 53, 49] := by
  rw [dec_split _ (by decide), dec_split _ (by decide), dec_split _ (by decide), show 106751 / 10 / 10 / 10 = ((1 * 10 + 0) * 10 + 6) by decide, dec3 1 0 6 (by decide) (by decide) (by decide) (by decide)]
  decide +kernel
theorem spanL_cons (x : Nat × List UInt8) (r : List (Nat × List UInt8)) (u q v : Nat) (h : u = q * x.1 + v) (hv : v < x.1) (hq : 1 ≤ q) : spanL (x :: r) u = decDigits q ++ x.2 ++ spanL r v := by
  have hx : 0 < x.1 := by omega
  have e1 : u / x.1 = q := by rw [h, Nat.mul_comm, Nat.mul_add_div hx, Nat.div_eq_of_lt hv, Nat.add_zero]
  have e2 : u % x.1 = v := by rw [h, Nat.mul_comm, Nat.mul_add_mod, Nat.mod_eq_of_lt hv]
  have e3 : x.1 ≤ u := by
    have : 1 * x.1 ≤ q * x.1 := Nat.mul_le_mul_right _ hq
    omega
  show (if x.1 ≤ u then decDigits (u / x.1) ++ x.2 else []) ++ spanL r (u % x.1) = _
  rw [if_pos e3, e1, e2]
/-- The least span's text. -/
def leastL : List UInt8 := [49, 48, 54, 55, 53, 49, 68, 50, 51, 72, 52, 55, 77, 49, 54, 83, 56, 53, 52, 77, 83, 55, 55, 53, 85, 83, 56, 48, 56, 78, 83]
theorem least_text : spanL units 9223372036854775808 = leastL := by
  unfold units
  rw [spanL_cons _ _ _ 106751 85636854775808 (by decide) (by decide) (by decide), spanL_cons _ _ _ 23 2836854775808 (by decide) (by decide) (by decide), spanL_cons _ _ _ 47 16854775808 (by decide) (by decide) (by decide), spanL_cons _ _ _ 16 854775808 (by decide) (by decide) (by decide), spanL_cons _ _ _ 854 775808 (by decide) (by decide) (by decide), spanL_cons _ _ _ 775 808 (by decide) (by decide) (by decide), spanL_cons _ _ _ 808 0 (by decide) (by decide) (by decide),
    dec_days, show 23 = 2 * 10 + 3 from rfl, show 47 = 4 * 10 + 7 from rfl, show 16 = 1 * 10 + 6 from rfl, show 854 = (8 * 10 + 5) * 10 + 4 from rfl, show 775 = (7 * 10 + 7) * 10 + 5 from rfl, show 808 = (8 * 10 + 0) * 10 + 8 from rfl, dec2 2 3 (by decide) (by decide) (by decide), dec2 4 7 (by decide) (by decide) (by decide), dec2 1 6 (by decide) (by decide) (by decide), dec3 8 5 4 (by decide) (by decide) (by decide) (by decide), dec3 7 7 5 (by decide) (by decide) (by decide) (by decide), dec3 8 0 8 (by decide) (by decide) (by decide) (by decide)]
  decide +kernel
theorem back_least (s : ByteArray) (hs : s.toList = []) : Ev (fun k => relaylaw02_TimesBack.f k 14 ((9223372036854775808 : Nat) : Int) s) true := by
  obtain ⟨K, h⟩ := span_prog_whole 9223372036854775808 (by decide)
  have ht : mk (spanEnd (signL 9223372036854775808) (spanL units (magn 9223372036854775808))) = mk ([84] ++ 35 :: (45 :: leastL)) := by
    rw [show magn 9223372036854775808 = 9223372036854775808 by decide +kernel, show signL 9223372036854775808 = [45] by decide +kernel, least_text]
    decide +kernel
  rw [ht] at h
  have hpr : Ev (fun k => times_Print.f k 14 ((9223372036854775808 : Nat) : Int) s) (mk ([84] ++ 35 :: (45 :: leastL))) := by
    refine ⟨K + 5, fun k hk => ?_⟩
    obtain ⟨m, rfl⟩ : ∃ m, k = m + 5 := ⟨k - 5, by omega⟩
    show times_Print.f (m + 5) 14 ((9223372036854775808 : Nat) : Int) s = _
    unfold times_Print.f
    rw [may14, Option.bind_some, if_pos (decide_eq_true hs), if_pos rfl]
    exact h (m + 5) (by omega)
  have hpa : Ev (fun k => times_Parse.f k 14 (mk (45 :: leastL))) (0, 0, mk [], false) := Ev.of (fun k => times_Parse.mono _ _ k) (k := 200) (by kernel_rfl)
  exact law_some 14 9223372036854775808 s hs (by decide) [84] _ _ (by rfl) (by decide) (fun k => by rw [ref14 _ _ _ (by omega) (by omega), decide_eq_true hs]) hpr hpa (Or.inl ⟨rfl, rfl, rfl⟩)
/-- A date's parts. -/
theorem back_date (b : Nat) (s : ByteArray) (hb : b < 18446744073709551616) (hm : b15 (b : Int) s = true) : Ev (fun k => relaylaw02_TimesBack.f k 15 (b : Int) s) true := by
  obtain ⟨hs0, hm2⟩ := (Bool.and_eq_true _ _).mp hm
  obtain ⟨hm3, hm4⟩ := (Bool.and_eq_true _ _).mp hm2
  have hs := of_decide_eq_true hs0
  have hlt : b < 7258118400000000000 := by have := of_decide_eq_true hm3; omega
  have hmod : b % 86400000000000 = 0 := by
    have h : Int.tmod (b : Int) 86400000000000 = 0 := by simpa using hm4
    rw [Int.tmod_eq_emod_of_nonneg (by omega)] at h
    omega
  have hday : b / 86400000000000 < 84006 := by omega
  have hw : wrap64 (b : Int) = (b : Int) := wrap_lo (by omega) (by omega)
  have hd : wrap64 (Int.tdiv (b : Int) 86400000000000) = ((b / 86400000000000 : Nat) : Int) := by
    rw [Int.tdiv_eq_ediv_of_nonneg (by omega), ← show ((b / 86400000000000 : Nat) : Int) = (b : Int) / 86400000000000 by omega]
    exact wrap_lo (by omega) (by omega)
  obtain ⟨y, m, d, ho, hn, ⟨K1, h1⟩, hl⟩ := date_told ((b / 86400000000000 : Nat) : Int) (Int.natCast_nonneg _) (by omega)
  have hpr : Ev (fun k => times_Print.f k 15 (b : Int) s) (mk ([68] ++ 35 :: dateL y m d)) := by
    refine ⟨K1 + 5, fun k hk => ?_⟩
    obtain ⟨j, rfl⟩ : ∃ j, k = j + 5 := ⟨k - 5, by omega⟩
    have e : times_dateText.f (j + 5) ((b / 86400000000000 : Nat) : Int) = _ := h1 (j + 5) (by omega)
    show times_Print.f (j + 5) 15 (b : Int) s = _
    unfold times_Print.f
    rw [may15, hm, Option.bind_some, if_pos rfl, if_neg (by decide), if_pos rfl, hw, hd, e, Option.bind_some, mk_size, if_pos (by omega), show (⟨#[68, 35]⟩ : ByteArray) = mk [68, 35] from rfl, mk_append]
    rfl
  obtain ⟨K2, h2⟩ := date_back y m d ho [] (by decide)
  rw [List.append_nil, hn] at h2
  have hmul : wrap64 (((b / 86400000000000 : Nat) : Int) * 86400000000000) = (b : Int) := by
    rw [show ((b / 86400000000000 : Nat) : Int) * 86400000000000 = (b : Int) by omega]
    exact hw
  have hbb : b15 (b : Int) ⟨#[]⟩ = true := by
    unfold b15 at hm ⊢
    rw [nil_list]
    rw [hs] at hm
    exact hm
  have hu : IntKind.u64.wrap (b : Int) = (b : Int) := wrap_of (Or.inl rfl) hb
  have hpa : Ev (fun k => times_Parse.f k 15 (mk (dateL y m d))) (15, (b : Int), mk [], true) := by
    refine ⟨K2 + 9, fun k hk => ?_⟩
    obtain ⟨j, rfl⟩ : ∃ j, k = j + 9 := ⟨k - 9, by omega⟩
    have g : times_date.f (j + 9) (mk (dateL y m d)) = _ := h2 (j + 9) (by omega)
    show times_Parse.f (j + 9) 15 (mk (dateL y m d)) = _
    unfold times_Parse.f
    rw [if_neg (by decide), if_pos rfl, g, Option.bind_some]
    dsimp only
    rw [if_pos rfl, mk_list, if_pos rfl, hmul]
    exact int_made 15 _ b (by decide) (by
      unfold fitsB
      rw [if_neg (by decide), if_neg (by omega), if_pos rfl, hu]
      exact hbb) hu j
  exact law_some 15 b s hs (by decide) [68] _ _ (by rfl) (by simp only [List.length_append, List.length_cons, List.length_nil]; omega) (fun k => by rw [ref15 _ _ _ (by omega) (by omega), hm]) hpr hpa (Or.inr ⟨fun h => absurd h.1 (by decide), rfl⟩)
theorem clockL_le (n : Nat) (hn : n < 86400000000000) : (clockHead (n / 3600000000000) (n % 3600000000000 / 60000000000) (n % 60000000000 / 1000000000) ++ tail (padL (n % 1000000000) 9)).length ≤ 100 := by
  have h1 := head_length (n / 3600000000000) (n % 3600000000000 / 60000000000) (n % 60000000000 / 1000000000) (by omega) (by omega) (by omega)
  have h2 := trim_le (padL (n % 1000000000) 9)
  have h3 := pad_length (n % 1000000000) 9 8 (by show _ < 1000000000; omega) (by omega)
  rw [List.length_append, h1]
  unfold tail
  split <;> simp only [List.length_cons, List.length_nil] <;> omega
theorem back_clock (b : Nat) (s : ByteArray) (hb : b < 18446744073709551616) (hm : b16 (b : Int) s = true) : Ev (fun k => relaylaw02_TimesBack.f k 16 (b : Int) s) true := by
  obtain ⟨hs0, hm2⟩ := (Bool.and_eq_true _ _).mp hm
  have hs := of_decide_eq_true hs0
  have hlt : b < 86400000000000 := by have := of_decide_eq_true hm2; omega
  have hw : wrap64 (b : Int) = (b : Int) := wrap_lo (by omega) (by omega)
  have h1 := clock_prog b hlt
  have hl := clockL_le b hlt
  obtain ⟨K2, h2⟩ := clock_back b hlt
  generalize clockHead (b / 3600000000000) (b % 3600000000000 / 60000000000) (b % 60000000000 / 1000000000) ++ tail (padL (b % 1000000000) 9) = q at h1 h2 hl
  have hpr : Ev (fun k => times_Print.f k 16 (b : Int) s) (mk ([84, 79, 68] ++ 35 :: q)) := by
    refine ⟨5, fun k hk => ?_⟩
    obtain ⟨j, rfl⟩ : ∃ j, k = j + 5 := ⟨k - 5, by omega⟩
    show times_Print.f (j + 5) 16 (b : Int) s = _
    unfold times_Print.f
    rw [may16, hm, Option.bind_some, if_pos rfl, if_neg (by decide), if_neg (by decide), if_pos rfl, hw, h1, Option.bind_some, mk_size, if_pos (by omega), show (⟨#[84, 79, 68, 35]⟩ : ByteArray) = mk [84, 79, 68, 35] from rfl, mk_append]
    rfl
  have hbb : b16 (b : Int) ⟨#[]⟩ = true := by
    unfold b16 at hm ⊢
    rw [nil_list]
    rw [hs] at hm
    exact hm
  have hu : IntKind.u64.wrap (b : Int) = (b : Int) := wrap_of (Or.inl rfl) hb
  have hpa : Ev (fun k => times_Parse.f k 16 (mk q)) (16, (b : Int), mk [], true) := by
    refine ⟨K2 + 9, fun k hk => ?_⟩
    obtain ⟨j, rfl⟩ : ∃ j, k = j + 9 := ⟨k - 9, by omega⟩
    have g : times_clock.f (j + 9) (mk q) = _ := h2 (j + 9) (by omega)
    show times_Parse.f (j + 9) 16 (mk q) = _
    unfold times_Parse.f
    rw [if_neg (by decide), if_neg (by decide), if_pos rfl, g, Option.bind_some]
    dsimp only
    rw [if_pos rfl]
    exact int_made 16 _ b (by decide) (by
      unfold fitsB
      rw [if_neg (by decide), if_neg (by omega), if_neg (by decide), if_pos rfl, hu]
      exact hbb) hu j
  exact law_some 16 b s hs (by decide) [84, 79, 68] _ _ (by rfl) (by simp only [List.length_append, List.length_cons, List.length_nil]; omega) (fun k => by rw [ref16 _ _ _ (by omega) (by omega), hm]) hpr hpa (Or.inr ⟨fun h => absurd h.1 (by decide), rfl⟩)
theorem back_both (b : Nat) (s : ByteArray) (hb : b < 18446744073709551616) (hm : b17 (b : Int) s = true) : Ev (fun k => relaylaw02_TimesBack.f k 17 (b : Int) s) true := by
  obtain ⟨hs0, hm2⟩ := (Bool.and_eq_true _ _).mp hm
  have hs := of_decide_eq_true hs0
  have hlt : b < 7258118400000000000 := by have := of_decide_eq_true hm2; omega
  have hw : wrap64 (b : Int) = (b : Int) := wrap_lo (by omega) (by omega)
  have hr : b % 86400000000000 < 86400000000000 := Nat.mod_lt _ (by decide)
  have h1 := clock_prog (b % 86400000000000) hr
  have hl := clockL_le (b % 86400000000000) hr
  obtain ⟨K2, h2⟩ := clock_back (b % 86400000000000) hr
  have ht : Int.tmod (b : Int) 86400000000000 = ((b % 86400000000000 : Nat) : Int) := by
    rw [Int.tmod_eq_emod_of_nonneg (by omega)]
    omega
  generalize clockHead (b % 86400000000000 / 3600000000000) (b % 86400000000000 % 3600000000000 / 60000000000) (b % 86400000000000 % 60000000000 / 1000000000) ++ tail (padL (b % 86400000000000 % 1000000000) 9) = q at h1 h2 hl
  have hd : wrap64 (Int.tdiv (b : Int) 86400000000000) = ((b / 86400000000000 : Nat) : Int) := by
    rw [Int.tdiv_eq_ediv_of_nonneg (by omega), ← show ((b / 86400000000000 : Nat) : Int) = (b : Int) / 86400000000000 by omega]
    exact wrap_lo (by omega) (by omega)
  obtain ⟨y, m, d, ho, hn, ⟨K1, h3⟩, hdl⟩ := date_told ((b / 86400000000000 : Nat) : Int) (Int.natCast_nonneg _) (by omega)
  have hpr : Ev (fun k => times_Print.f k 17 (b : Int) s) (mk ([68, 84] ++ 35 :: (dateL y m d ++ (45 :: q)))) := by
    refine ⟨K1 + 5, fun k hk => ?_⟩
    obtain ⟨j, rfl⟩ : ∃ j, k = j + 5 := ⟨k - 5, by omega⟩
    have e : times_dateText.f (j + 5) ((b / 86400000000000 : Nat) : Int) = _ := h3 (j + 5) (by omega)
    show times_Print.f (j + 5) 17 (b : Int) s = _
    unfold times_Print.f
    rw [may17, hm, Option.bind_some, if_pos rfl, if_neg (by decide), if_neg (by decide), if_neg (by decide), if_pos rfl, hw, hd, e, Option.bind_some, mk_size, if_pos (by omega), show (⟨#[68, 84, 35]⟩ : ByteArray) = mk [68, 84, 35] from rfl, show (⟨#[45]⟩ : ByteArray) = mk [45] from rfl, mk_append, mk_append, mk_size, if_pos (by simp only [List.length_append, List.length_cons, List.length_nil]; omega), ht, h1, Option.bind_some, mk_size, mk_size, if_pos (by simp only [List.length_append, List.length_cons, List.length_nil]; omega), mk_append]
    rw [show ([68, 84, 35] : List UInt8) ++ dateL y m d ++ [45] ++ q = [68, 84] ++ 35 :: (dateL y m d ++ (45 :: q)) by simp]
  obtain ⟨K3, h4⟩ := date_back y m d ho (45 :: q) (by simp only [List.length_cons]; omega)
  rw [hn] at h4
  have hmul : wrap64 ((wrap64 (((b / 86400000000000 : Nat) : Int) * 86400000000000)) + ((b % 86400000000000 : Nat) : Int)) = (b : Int) := by
    rw [wrap_lo (a := ((b / 86400000000000 : Nat) : Int) * 86400000000000) (by omega) (by omega), show ((b / 86400000000000 : Nat) : Int) * 86400000000000 + ((b % 86400000000000 : Nat) : Int) = (b : Int) by omega]
    exact hw
  have hbb : b17 (b : Int) ⟨#[]⟩ = true := by
    unfold b17 at hm ⊢
    rw [nil_list]
    rw [hs] at hm
    exact hm
  have hu : IntKind.u64.wrap (b : Int) = (b : Int) := wrap_of (Or.inl rfl) hb
  have hx : (mk (45 :: q)).extract 1 (mk (45 :: q)).size = mk q := drop_mk (45 :: q) 1
  have hp := pre_mk2 (45 :: q) [45] (by simp only [List.length_cons]; omega)
  rw [decide_eq_true (show (45 :: q).take [(45 : UInt8)].length = [45] from rfl)] at hp
  have hpa : Ev (fun k => times_Parse.f k 17 (mk (dateL y m d ++ (45 :: q)))) (17, (b : Int), mk [], true) := by
    refine ⟨K2 + K3 + 10, fun k hk => ?_⟩
    obtain ⟨j, rfl⟩ : ∃ j, k = j + 10 := ⟨k - 10, by omega⟩
    have g : times_date.f (j + 10) (mk (dateL y m d ++ (45 :: q))) = _ := h4 (j + 10) (by omega)
    have g2 : times_clock.f (j + 9) (mk q) = _ := h2 (j + 9) (by omega)
    have hsz : ((mk (45 :: q)).size : Int) = (q.length : Int) + 1 := by rw [mk_size]; rfl
    have z1 : (1 : Int) ≤ (q.length : Int) + 1 := by omega
    show times_Parse.f (j + 10) 17 (mk (dateL y m d ++ (45 :: q))) = _
    unfold times_Parse.f
    rw [if_neg (by decide), if_neg (by decide), if_neg (by decide), if_pos rfl, g, Option.bind_some]
    dsimp only
    rw [if_pos rfl, show (⟨#[45]⟩ : ByteArray) = mk [45] from rfl, hp, Option.bind_some]
    show times_Parse.j0 (j + 9 + 1) 17 0 false _ (mk (45 :: q)) true = _
    rw [times_Parse.j0, if_pos rfl, hx, hsz, if_pos z1, g2, Option.bind_some]
    dsimp only
    rw [if_pos rfl, hmul]
    exact int_made 17 _ b (by decide) (by
      unfold fitsB
      rw [if_neg (by decide), if_neg (by omega), if_neg (by decide), if_neg (by decide), hu]
      exact hbb) hu j
  exact law_some 17 b s hs (by decide) [68, 84] _ _ (by rfl) (by simp only [List.length_append, List.length_cons, List.length_nil]; omega) (fun k => by rw [ref17 _ _ _ (by omega) (by omega), hm]) hpr hpa (Or.inr ⟨fun h => absurd h.1 (by decide), rfl⟩)
/-- What is not may be prints as nothing. -/
theorem print_no (c : Int) (b : Nat) (s : ByteArray) (hm : ∀ k, value_May.f (k + 5) c (b : Int) s = some false) : Ev (fun k => times_Print.f k c (b : Int) s) (mk []) := by
  refine ev_some 5 (fun k => ?_)
  show times_Print.f (k + 5) c (b : Int) s = _
  unfold times_Print.f
  rw [hm, Option.bind_some, if_neg (by decide)]
  rfl
theorem TimesBack (c b : Int) (s : ByteArray) (h0 : 0 ≤ b) (hb : b < 18446744073709551616) : ∃ k, relaylaw02_TimesBack.f k c b s = some true := by
  obtain ⟨b, rfl⟩ : ∃ t : Nat, b = t := ⟨b.toNat, by omega⟩
  have hb' : b < 18446744073709551616 := by omega
  refine Ev.rounds ?_
  by_cases c14 : c = 14
  · rw [c14]
    by_cases hs : s.toList = []
    · by_cases e0 : b = 0
      · rw [e0]; exact back_nought s hs
      by_cases e1 : b = 9223372036854775808
      · rw [e1]; exact back_least s hs
      exact back_span b s hb' hs e0 e1
    · exact law_none 14 b s (print_no 14 b s (fun k => by rw [may14, decide_eq_false hs])) false (fun k => by rw [ref14 _ _ _ (by omega) (by omega), decide_eq_false hs]) (Or.inl rfl)
  by_cases c15 : c = 15
  · rw [c15]
    cases hm : b15 (b : Int) s
    · exact law_none 15 b s (print_no 15 b s (fun k => by rw [may15, hm])) false (fun k => by rw [ref15 _ _ _ (by omega) (by omega), hm]) (Or.inl rfl)
    · exact back_date b s hb' hm
  by_cases c16 : c = 16
  · rw [c16]
    cases hm : b16 (b : Int) s
    · exact law_none 16 b s (print_no 16 b s (fun k => by rw [may16, hm])) false (fun k => by rw [ref16 _ _ _ (by omega) (by omega), hm]) (Or.inl rfl)
    · exact back_clock b s hb' hm
  by_cases c17 : c = 17
  · rw [c17]
    cases hm : b17 (b : Int) s
    · exact law_none 17 b s (print_no 17 b s (fun k => by rw [may17, hm])) false (fun k => by rw [ref17 _ _ _ (by omega) (by omega), hm]) (Or.inl rfl)
    · exact back_both b s hb' hm
  · have hpr : Ev (fun k => times_Print.f k c (b : Int) s) (mk []) := by
      refine ev_some 6 (fun k => ?_)
      obtain ⟨x, hx⟩ := may_some k c (b : Int) s
      show times_Print.f (k + 6) c (b : Int) s = _
      unfold times_Print.f
      rw [hx, Option.bind_some]
      cases x
      · rw [if_neg (by decide)]
        rfl
      · rw [if_pos rfl, if_neg c14, if_neg c15, if_neg c16, if_neg c17]
        rfl
    obtain ⟨t, ht⟩ := rmay_some 0 c (b : Int) s
    have ht' : ∀ k, relayref01_May.f (k + 5) c (b : Int) s = some t := fun k => at_rounds (fun k => relayref01_May.mono _ _ _ k) (show 0 + 5 ≤ k + 5 by omega) ht
    exact law_none c b s hpr t ht' (Or.inr (by omega))
end Go.Proofs.YteoehlcjllbhfaaGreatDoor.PureBack
