/- TimesBack: Parse of what Print tells of dates and clocks; Cut. (This text: of the Lean functions alone.) -/
import Derived.Test.YteoehlcjllbhfaaGreatDoorPureBack7
import Derived.Test.YteoehlcjllbhfaaGreatDoorPureBack3
import Derived.Test.YteoehlcjllbhfaaGreatDoorXBackx17
import Derived.Test.YteoehlcjllbhfaaGreatDoorXBackx12
namespace Go.Proofs.YteoehlcjllbhfaaGreatDoor.PureBack
open Go.RowKit Go.Proofs.YteoehlcjllbhfaaGreatDoor.XBack Go.Proofs.YteoehlcjllbhfaaGreatDoorW.PrintWords Go.Proofs.YteoehlcjllbhfaaGreatDoorW.PrintLast Go.Proofs.YteoehlcjllbhfaaGreatDoorW.PrintMore
open Go.Lib (decDigits)
open Go.Proofs.YteoehlcjllbhfaaGreatDoor.Cal (ok no)
set_option linter.unusedVariables false
set_option linter.unusedSimpArgs false
theorem nil_list : (⟨#[]⟩ : ByteArray).toList = [] := by kernel_rfl
def fitsB (k n : Int) : Bool := if k = 14 then true else if n < 0 then false else if k = 15 then b15 (IntKind.u64.wrap n) ⟨#[]⟩ else if k = 16 then b16 (IntKind.u64.wrap n) ⟨#[]⟩ else b17 (IntKind.u64.wrap n) ⟨#[]⟩
theorem int_total (j : Nat) (k n : Int) (hk : 14 ≤ k ∧ k ≤ 17) : value_Int.f (j + 9) k n = some (if fitsB k n = true then (k, IntKind.u64.wrap n, ⟨#[]⟩, 0) else (0, 0, ⟨#[]⟩, 1)) := by
  have nl := nil_list
  obtain rfl | rfl | rfl | rfl : k = 14 ∨ k = 15 ∨ k = 16 ∨ k = 17 := by omega
  · simp [value_Int.f, value_Int.j0, value_known.f, value_unsigned.f, value_row.f, value_fits.f, value_fits.j0, value_signed.f, fitsB]
  · by_cases h : n < 0
    · simp [value_Int.f, value_Int.j0, value_known.f, value_unsigned.f, value_row.f, fitsB, h]
    · by_cases c : IntKind.u64.wrap n < 7258118400000000000
      · by_cases c2 : Int.tmod (IntKind.u64.wrap n) 86400000000000 = 0 <;> simp [value_Int.f, value_Int.j0, value_known.f, value_unsigned.f, value_row.f, value_fits.f, value_fits.j0, value_signed.f, fitsB, h, b15, nl, c, c2]
      · simp [value_Int.f, value_Int.j0, value_known.f, value_unsigned.f, value_row.f, value_fits.f, value_fits.j0, value_signed.f, fitsB, h, b15, nl, c]
  · by_cases h : n < 0
    · simp [value_Int.f, value_Int.j0, value_known.f, value_unsigned.f, value_row.f, fitsB, h]
    · by_cases c : IntKind.u64.wrap n < 86400000000000 <;> simp [value_Int.f, value_Int.j0, value_known.f, value_unsigned.f, value_row.f, value_fits.f, value_fits.j0, value_signed.f, fitsB, h, b16, nl, c]
  · by_cases h : n < 0
    · simp [value_Int.f, value_Int.j0, value_known.f, value_unsigned.f, value_row.f, fitsB, h]
    · by_cases c : IntKind.u64.wrap n < 7258118400000000000 <;> simp [value_Int.f, value_Int.j0, value_known.f, value_unsigned.f, value_row.f, value_fits.f, value_fits.j0, value_signed.f, fitsB, h, b17, nl, c]
theorem pad2 (n : Nat) (h : n < 100) : ∃ a b, padL n 2 = [a, b] ∧ (∀ x ∈ [a, b], dg x = true) ∧ valL [a, b] = n := by
  obtain ⟨p1, p2, _⟩ := pad_spec n 2
  have hl := pad_length n 2 1 (by show n < 100; exact h) (by omega)
  generalize padL n 2 = l at *
  match l, hl with
  | [a, b], _ => exact ⟨a, b, rfl, p2, p1⟩
theorem pad4 (n : Nat) (h : n < 10000) : ∃ a b c d, padL n 4 = [a, b, c, d] ∧ (∀ x ∈ [a, b], dg x = true) ∧ (∀ x ∈ [c, d], dg x = true) ∧ valL [a, b] * 100 + valL [c, d] = n := by
  obtain ⟨p1, p2, _⟩ := pad_spec n 4
  have hl := pad_length n 4 3 (by show n < 10000; exact h) (by omega)
  generalize padL n 4 = l at *
  match l, hl with
  | [a, b, c, d], _ =>
    refine ⟨a, b, c, d, rfl, fun x hx => p2 x ?_, fun x hx => p2 x ?_, ?_⟩
    · rcases List.mem_cons.mp hx with e | hx
      · rw [e]; exact List.mem_cons_self ..
      · rw [List.mem_singleton.mp hx]; exact List.mem_cons_of_mem _ (List.mem_cons_self ..)
    · exact List.mem_cons_of_mem _ (List.mem_cons_of_mem _ hx)
    · have e : valL [a, b, c, d] = (((0 * 10 + (a.toNat - 48)) * 10 + (b.toNat - 48)) * 10 + (c.toNat - 48)) * 10 + (d.toNat - 48) := rfl
      have e1 : valL [a, b] = (0 * 10 + (a.toNat - 48)) * 10 + (b.toNat - 48) := rfl
      have e2 : valL [c, d] = (0 * 10 + (c.toNat - 48)) * 10 + (d.toNat - 48) := rfl
      rw [e] at p1
      rw [e1, e2]
      omega
theorem clock_num (h m c : Nat) (hh : h ≤ 23) (hm : m ≤ 59) (hc : c ≤ 59) : wrap64 ((wrap64 ((wrap64 ((h : Int) * 3600000000000)) + (wrap64 ((m : Int) * 60000000000)))) + (wrap64 ((c : Int) * 1000000000))) = ((h * 3600000000000 + m * 60000000000 + c * 1000000000 : Nat) : Int) := by
  rw [wrap_eq (a := (h : Int) * 3600000000000) (by omega) (by omega), wrap_eq (a := (m : Int) * 60000000000) (by omega) (by omega), wrap_eq (a := (c : Int) * 1000000000) (by omega) (by omega), wrap_eq (a := (h : Int) * 3600000000000 + (m : Int) * 60000000000) (by omega) (by omega), wrap_eq (by omega) (by omega)]
  omega
theorem clock_j1 (h m c f : Nat) (hh : h ≤ 23) (hm : m ≤ 59) (hc : c ≤ 59) (hf : f < 1000000000) :
    Ev (fun k => times_clock.j1 k (h : Int) (m : Int) (c : Int) (mk (tail (padL f 9))) false) (((h * 3600000000000 + m * 60000000000 + c * 1000000000 + f : Nat) : Int), true) := by
  by_cases c0 : f = 0
  · subst c0
    rw [tail_zero]
    refine ev_some 1 (fun k => ?_)
    show times_clock.j1 (k + 1) (h : Int) (m : Int) (c : Int) (mk []) false = _
    rw [times_clock.j1, if_neg (by decide), mk_list, if_pos rfl, clock_num h m c hh hm hc, Nat.add_zero]
  · obtain ⟨t, ht, td, tl, tv⟩ := trim_val f hf
    have hT : tail (padL f 9) = 46 :: t := by rw [tail_some f (by omega), ht]
    have htn : t ≠ [] := by
      intro e
      rw [e] at tv
      have : (0 : Nat) * 10 ^ (9 - 0) = f := tv
      rw [Nat.zero_mul] at this
      exact c0 this.symm
    obtain ⟨K, hK⟩ := digits_spec t (by omega)
    have hw := takeWhile_all t [] td (fun b hb => by cases hb)
    rw [List.append_nil] at hw
    rw [hw.1, hw.2] at hK
    have hfr := frac_spec t td tl
    rw [tv] at hfr
    rw [hT]
    refine ⟨K + 1, fun n hn => ?_⟩
    obtain ⟨k, rfl⟩ : ∃ k, n = k + 1 := ⟨n - 1, by omega⟩
    have g : times_digits.f k (mk t) = _ := hK k (by omega)
    have hb0 : bt (mk (46 :: t)) 0 = 46 := bt_mk (46 :: t) 0 (by simp)
    have hx : (mk (46 :: t)).extract 1 (mk (46 :: t)).size = mk t := drop_mk (46 :: t) 1
    have hsz : (mk (46 :: t)).size = t.length + 1 := by rw [mk_size]; rfl
    show times_clock.j1 (k + 1) (h : Int) (m : Int) (c : Int) (mk (46 :: t)) false = _
    rw [times_clock.j1, if_neg (by decide), mk_list, if_neg (by simp), hx, g, hsz, if_pos (by omega), Option.bind_some]
    dsimp only
    rw [if_pos (by omega), hb0, if_pos rfl, mk_list, if_neg htn, mk_size, if_neg (by omega), mk_list, if_pos rfl, hfr, Option.bind_some, clock_num h m c hh hm hc]
    dsimp only
    rw [wrap_eq (by omega) (by omega)]
    rfl
/-- Parse's clock of a printed time of day. -/
theorem clock_back (n : Nat) (hn : n < 86400000000000) : Ev (fun k => times_clock.f k (mk (clockHead (n / 3600000000000) (n % 3600000000000 / 60000000000) (n % 60000000000 / 1000000000) ++ tail (padL (n % 1000000000) 9)))) ((n : Int), true) := by
  have hsum : n / 3600000000000 * 3600000000000 + n % 3600000000000 / 60000000000 * 60000000000 + n % 60000000000 / 1000000000 * 1000000000 + n % 1000000000 = n := by omega
  have hh : n / 3600000000000 ≤ 23 := by omega
  have hm : n % 3600000000000 / 60000000000 ≤ 59 := by omega
  have hc : n % 60000000000 / 1000000000 ≤ 59 := by omega
  have hf : n % 1000000000 < 1000000000 := by omega
  generalize n / 3600000000000 = h at *
  generalize n % 3600000000000 / 60000000000 = m at *
  generalize n % 60000000000 / 1000000000 = c at *
  generalize n % 1000000000 = f at *
  obtain ⟨K4, k4⟩ := clock_j1 h m c f hh hm hc hf
  rw [hsum] at k4
  have htl : (tail (padL f 9)).length ≤ 100 := by
    have h2 := trim_le (padL f 9)
    have h3 := pad_length f 9 8 (by show _ < 1000000000; exact hf) (by omega)
    unfold tail
    split <;> simp only [List.length_cons, List.length_nil] <;> omega
  generalize tail (padL f 9) = T at *
  obtain ⟨h0, h1, eh, dh, vh⟩ := pad2 h (by omega)
  obtain ⟨m0, m1, em, dm, vm⟩ := pad2 m (by omega)
  obtain ⟨c0, c1, ec, dc, vc⟩ := pad2 c (by omega)
  have eL : clockHead h m c ++ T = h0 :: h1 :: 58 :: m0 :: m1 :: 58 :: c0 :: c1 :: T := by
    unfold clockHead
    rw [eh, em, ec]
    rfl
  rw [eL]
  obtain ⟨K1, k1⟩ := two_at [h0, h1] (58 :: m0 :: m1 :: 58 :: c0 :: c1 :: T) rfl dh (by simp only [List.length_cons]; omega)
  obtain ⟨K2, k2⟩ := two_at [m0, m1] (58 :: c0 :: c1 :: T) rfl dm (by simp only [List.length_cons]; omega)
  obtain ⟨K3, k3⟩ := two_at [c0, c1] T rfl dc (by omega)
  rw [vh] at k1
  rw [vm] at k2
  rw [vc] at k3
  refine ⟨K1 + K2 + K3 + K4 + 1, fun n' hn' => ?_⟩
  obtain ⟨k, rfl⟩ : ∃ k, n' = k + 1 := ⟨n' - 1, by omega⟩
  have g1 : times_two.f k (mk (h0 :: h1 :: 58 :: m0 :: m1 :: 58 :: c0 :: c1 :: T)) = _ := k1 k (by omega)
  have g2 : times_two.f k (mk (m0 :: m1 :: 58 :: c0 :: c1 :: T)) = _ := k2 k (by omega)
  have g3 : times_two.f k (mk (c0 :: c1 :: T)) = _ := k3 k (by omega)
  have g4 := k4 k (by omega)
  have hlen : (h0 :: h1 :: 58 :: m0 :: m1 :: 58 :: c0 :: c1 :: T).length = T.length + 8 := rfl
  have b2 : bt (mk (h0 :: h1 :: 58 :: m0 :: m1 :: 58 :: c0 :: c1 :: T)) 2 = 58 := bt_mk _ 2 (by rw [hlen]; omega)
  have b5 : bt (mk (h0 :: h1 :: 58 :: m0 :: m1 :: 58 :: c0 :: c1 :: T)) 5 = 58 := bt_mk _ 5 (by rw [hlen]; omega)
  have x3 : (mk (h0 :: h1 :: 58 :: m0 :: m1 :: 58 :: c0 :: c1 :: T)).extract 3 (mk (h0 :: h1 :: 58 :: m0 :: m1 :: 58 :: c0 :: c1 :: T)).size = mk (m0 :: m1 :: 58 :: c0 :: c1 :: T) := drop_mk _ 3
  have x6 : (mk (h0 :: h1 :: 58 :: m0 :: m1 :: 58 :: c0 :: c1 :: T)).extract 6 (mk (h0 :: h1 :: 58 :: m0 :: m1 :: 58 :: c0 :: c1 :: T)).size = mk (c0 :: c1 :: T) := drop_mk _ 6
  have hsz : (mk (h0 :: h1 :: 58 :: m0 :: m1 :: 58 :: c0 :: c1 :: T)).size = T.length + 8 := by rw [mk_size, hlen]
  generalize mk (h0 :: h1 :: 58 :: m0 :: m1 :: 58 :: c0 :: c1 :: T) = S at *
  show times_clock.f (k + 1) S = _
  unfold times_clock.f
  rw [b2, b5, hsz, if_neg (by omega), if_pos (by omega), if_pos rfl, if_pos (by omega), show ((58 : Int) != 58) = false by decide, times_clock.j0, if_neg (by decide), g1, Option.bind_some, x3, x6, g2, hsz, if_pos (by omega), Option.bind_some, if_pos (by omega), g3, Option.bind_some]
  dsimp only
  rw [if_pos rfl, if_pos rfl, if_pos rfl, if_neg (by omega), if_neg (by omega), decide_eq_false (by omega)]
  exact g4
/-- A date's text. -/
def dateL (y m d : Nat) : List UInt8 := padL y 4 ++ [45] ++ padL m 2 ++ [45] ++ padL d 2
theorem ok_bd {y m d : Int} (h : ok y m d) : 1970 ≤ y ∧ y ≤ 2199 ∧ 1 ≤ m ∧ m ≤ 12 ∧ 1 ≤ d ∧ d ≤ 31 := by
  obtain ⟨h1, h2, h3, h4, h5, h6⟩ := h
  have := (Cal.ml_bd y m).2
  exact ⟨h1, h2, h3, h4, h5, by omega⟩
/-- Parse's date of a printed date. -/
theorem date_back (y m d : Nat) (h : ok y m d) (r : List UInt8) (hr : r.length ≤ 1000) : Ev (fun k => times_date.f k (mk (dateL y m d ++ r))) (no y m d, mk r, true) := by
  obtain ⟨b1, b2, b3, b4, b5, b6⟩ := ok_bd h
  obtain ⟨y0, y1, y2, y3, ey, dy, dy', vy⟩ := pad4 y (by omega)
  obtain ⟨m0, m1, em, dm, vm⟩ := pad2 m (by omega)
  obtain ⟨d0, d1, ed, dd, vd⟩ := pad2 d (by omega)
  have eL : dateL y m d ++ r = y0 :: y1 :: y2 :: y3 :: 45 :: m0 :: m1 :: 45 :: d0 :: d1 :: r := by
    unfold dateL
    rw [ey, em, ed]
    rfl
  rw [eL]
  obtain ⟨K1, k1⟩ := two_at [y0, y1] (y2 :: y3 :: 45 :: m0 :: m1 :: 45 :: d0 :: d1 :: r) rfl dy (by simp only [List.length_cons]; omega)
  obtain ⟨K2, k2⟩ := two_at [y2, y3] (45 :: m0 :: m1 :: 45 :: d0 :: d1 :: r) rfl dy' (by simp only [List.length_cons]; omega)
  obtain ⟨K3, k3⟩ := two_at [m0, m1] (45 :: d0 :: d1 :: r) rfl dm (by simp only [List.length_cons]; omega)
  obtain ⟨K4, k4⟩ := two_at [d0, d1] r rfl dd (by omega)
  obtain ⟨K5, k5⟩ := CalB.days_yes h
  rw [vm] at k3
  rw [vd] at k4
  have hv : wrap64 ((wrap64 ((valL [y0, y1] : Int) * 100)) + (valL [y2, y3] : Int)) = (y : Int) := by
    rw [wrap_eq (a := (valL [y0, y1] : Int) * 100) (by omega) (by omega), wrap_eq (by omega) (by omega)]
    omega
  refine ⟨K1 + K2 + K3 + K4 + K5 + 1, fun n' hn' => ?_⟩
  obtain ⟨k, rfl⟩ : ∃ k, n' = k + 1 := ⟨n' - 1, by omega⟩
  have g1 : times_two.f k (mk (y0 :: y1 :: y2 :: y3 :: 45 :: m0 :: m1 :: 45 :: d0 :: d1 :: r)) = _ := k1 k (by omega)
  have g2 : times_two.f k (mk (y2 :: y3 :: 45 :: m0 :: m1 :: 45 :: d0 :: d1 :: r)) = _ := k2 k (by omega)
  have g3 : times_two.f k (mk (m0 :: m1 :: 45 :: d0 :: d1 :: r)) = _ := k3 k (by omega)
  have g4 : times_two.f k (mk (d0 :: d1 :: r)) = _ := k4 k (by omega)
  have g5 : times_Days.f k (y : Int) (m : Int) (d : Int) = _ := k5 k (by omega)
  have hlen : (y0 :: y1 :: y2 :: y3 :: 45 :: m0 :: m1 :: 45 :: d0 :: d1 :: r).length = r.length + 10 := rfl
  have q4 : bt (mk (y0 :: y1 :: y2 :: y3 :: 45 :: m0 :: m1 :: 45 :: d0 :: d1 :: r)) 4 = 45 := bt_mk _ 4 (by rw [hlen]; omega)
  have q7 : bt (mk (y0 :: y1 :: y2 :: y3 :: 45 :: m0 :: m1 :: 45 :: d0 :: d1 :: r)) 7 = 45 := bt_mk _ 7 (by rw [hlen]; omega)
  have x2 : (mk (y0 :: y1 :: y2 :: y3 :: 45 :: m0 :: m1 :: 45 :: d0 :: d1 :: r)).extract 2 (mk (y0 :: y1 :: y2 :: y3 :: 45 :: m0 :: m1 :: 45 :: d0 :: d1 :: r)).size = mk (y2 :: y3 :: 45 :: m0 :: m1 :: 45 :: d0 :: d1 :: r) := drop_mk _ 2
  have x5 : (mk (y0 :: y1 :: y2 :: y3 :: 45 :: m0 :: m1 :: 45 :: d0 :: d1 :: r)).extract 5 (mk (y0 :: y1 :: y2 :: y3 :: 45 :: m0 :: m1 :: 45 :: d0 :: d1 :: r)).size = mk (m0 :: m1 :: 45 :: d0 :: d1 :: r) := drop_mk _ 5
  have x8 : (mk (y0 :: y1 :: y2 :: y3 :: 45 :: m0 :: m1 :: 45 :: d0 :: d1 :: r)).extract 8 (mk (y0 :: y1 :: y2 :: y3 :: 45 :: m0 :: m1 :: 45 :: d0 :: d1 :: r)).size = mk (d0 :: d1 :: r) := drop_mk _ 8
  have hsz : (mk (y0 :: y1 :: y2 :: y3 :: 45 :: m0 :: m1 :: 45 :: d0 :: d1 :: r)).size = r.length + 10 := by rw [mk_size, hlen]
  generalize mk (y0 :: y1 :: y2 :: y3 :: 45 :: m0 :: m1 :: 45 :: d0 :: d1 :: r) = S at *
  show times_date.f (k + 1) S = _
  unfold times_date.f
  have z1 : ¬ ((r.length + 10 : Nat) : Int) < 10 := by omega
  have z2 : (4 : Int) < ((r.length + 10 : Nat) : Int) := by omega
  have z3 : (7 : Int) < ((r.length + 10 : Nat) : Int) := by omega
  have z4 : (2 : Int) ≤ ((r.length + 10 : Nat) : Int) := by omega
  have z5 : (5 : Int) ≤ ((r.length + 10 : Nat) : Int) := by omega
  have z6 : (8 : Int) ≤ ((r.length + 10 : Nat) : Int) := by omega
  rw [q4, q7, hsz, if_neg z1, if_pos z2, if_pos rfl, if_pos z3, show ((45 : Int) != 45) = false by decide, times_date.j0, if_neg (by decide), g1, Option.bind_some, x2, x5, x8, g2, hsz, if_pos z4, Option.bind_some, if_pos z5, g3, Option.bind_some, if_pos z6, g4, Option.bind_some]
  dsimp only
  rw [if_pos rfl, if_pos rfl, if_pos rfl, if_pos rfl, hv, g5, Option.bind_some]
/-- What the program prints of a date. -/
theorem date_told (n : Int) (h0 : 0 ≤ n) (h1 : n < 84006) : ∃ y m d : Nat, ok y m d ∧ no y m d = n ∧ Ev (fun k => times_dateText.f k n) (mk (dateL y m d)) ∧ (dateL y m d).length ≤ 70 := by
  obtain ⟨y, m, d, ho, hn, ⟨K, hK⟩⟩ := CalB.civil_yes h0 h1
  obtain ⟨b1, b2, b3, b4, b5, b6⟩ := ok_bd ho
  obtain ⟨y, rfl⟩ : ∃ t : Nat, y = t := ⟨y.toNat, by omega⟩
  obtain ⟨m, rfl⟩ : ∃ t : Nat, m = t := ⟨m.toNat, by omega⟩
  obtain ⟨d, rfl⟩ : ∃ t : Nat, d = t := ⟨d.toNat, by omega⟩
  have big : (2200 : Nat) ≤ 10 ^ 20 := by decide
  have l1 := pad_le y 4 (Nat.lt_of_lt_of_le (show y < 2200 by omega) big) (by omega)
  have l2 := pad_le m 2 (Nat.lt_of_lt_of_le (show m < 2200 by omega) big) (by omega)
  have l3 := pad_le d 2 (Nat.lt_of_lt_of_le (show d < 2200 by omega) big) (by omega)
  refine ⟨y, m, d, ho, hn, ⟨K, fun k hk => ?_⟩, by unfold dateL; simp only [List.length_append, List.length_singleton]; omega⟩
  have e : times_Civil.f k n = _ := hK k hk
  show times_dateText.f k n = _
  unfold times_dateText.f
  rw [e, Option.bind_some]
  dsimp only
  rw [show ((4 : Int)) = ((4 : Nat) : Int) from rfl, show ((2 : Int)) = ((2 : Nat) : Int) from rfl, pad_eq y 4 (by omega) (by omega), Option.bind_some, mk_size, if_pos (by omega), pad_eq m 2 (by omega) (by omega), Option.bind_some, show (⟨#[45]⟩ : ByteArray) = mk [45] from rfl, mk_append, mk_append, mk_append, mk_size, mk_size, mk_size, if_pos (by simp only [List.length_append, List.length_singleton]; omega), if_pos (by simp only [List.length_append, List.length_singleton]; omega), pad_eq d 2 (by omega) (by omega), Option.bind_some, mk_append, mk_size, mk_size, if_pos (by simp only [List.length_append, List.length_singleton]; omega)]
  rfl
/-- Cut at the mark. -/
theorem cut_at (p r : List UInt8) (hi : Lib.indexByte (p ++ 35 :: r) 35 = (p.length : Int)) (hl : (p ++ 35 :: r).length ≤ 1000000) : strings_Cut.f (mk (p ++ 35 :: r)) (⟨#[35]⟩ : ByteArray) = some (mk p, mk r, true) := by
  have hx : stringslite_Index.f (mk (p ++ 35 :: r)) (⟨#[35]⟩ : ByteArray) = some (p.length : Int) := by
    unfold stringslite_Index.f
    rw [if_pos (show (⟨#[35]⟩ : ByteArray).size = 1 from rfl)]
    exact congrArg some hi
  have hlen : (p ++ 35 :: r).length = p.length + 1 + r.length := by simp only [List.length_append, List.length_cons]; omega
  have e1 : (mk (p ++ 35 :: r)).extract 0 p.length = mk p := by rw [take_mk, List.take_left]
  have e2 : (mk (p ++ 35 :: r)).extract (p.length + 1) (mk (p ++ 35 :: r)).size = mk r := by
    rw [drop_mk]
    congr 1
    rw [show p ++ 35 :: r = (p ++ [35]) ++ r by simp, show p.length + 1 = (p ++ [35]).length by simp, List.drop_left]
  have hsz : (mk (p ++ 35 :: r)).size = p.length + 1 + r.length := by rw [mk_size, hlen]
  generalize mk (p ++ 35 :: r) = S at *
  unfold strings_Cut.f stringslite_Cut.f
  have h1 : ((⟨#[35]⟩ : ByteArray).size : Int) = 1 := rfl
  have z1 : (p.length : Int) ≤ (S.size : Int) := by omega
  have z2 : (p.length : Int) + 1 ≤ (S.size : Int) := by omega
  have z3 : wrap64 ((p.length : Int) + 1) = (p.length : Int) + 1 := wrap_eq (by omega) (by omega)
  have z4 : (0 : Int) ≤ (p.length : Int) + 1 := by clear z3; omega
  rw [hx, Option.bind_some, h1, if_pos (Int.natCast_nonneg _), if_pos (Int.natCast_nonneg _), if_pos z1, z3, if_pos z4, if_pos z2, show ((p.length : Int)).toNat = p.length from rfl, show ((p.length : Int) + 1).toNat = p.length + 1 from rfl, e1, e2]
  rfl
end Go.Proofs.YteoehlcjllbhfaaGreatDoor.PureBack
