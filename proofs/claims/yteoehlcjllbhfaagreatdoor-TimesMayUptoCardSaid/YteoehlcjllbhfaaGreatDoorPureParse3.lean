/- Parse tells something, third part: dates, clocks, Parse; and TimesMay. (This text: of the Lean functions alone.) -/
import Derived.Test.YteoehlcjllbhfaaGreatDoorPureParse2
import Derived.Test.YteoehlcjllbhfaaGreatDoorPureRef
import Derived.Test.YteoehlcjllbhfaaGreatDoorAwake
namespace Go.Proofs.YteoehlcjllbhfaaGreatDoor.PureParse
open Go.RowKit Go.Proofs.YteoehlcjllbhfaaGreatDoor.XTimes Go.Proofs.YteoehlcjllbhfaaGreatDoorW.PrintWords Go.Proofs.YteoehlcjllbhfaaGreatDoorW.PrintLast Go.Proofs.YteoehlcjllbhfaaGreatDoorW.PrintMore
set_option linter.unusedVariables false
set_option linter.unusedSimpArgs false

theorem mn_bd (n : Nat) : 0 ≤ mn 2 (n : Int) ∧ mn 2 (n : Int) ≤ n := by
  unfold mn
  split <;> omega
theorem two_total (s : ByteArray) (hs : s.size ≤ lim) : ∃ n r ok, Ev (fun k => times_two.f k s) (n, r, ok) ∧ r.size ≤ s.size := by
  obtain ⟨m0, m1⟩ := mn_bd s.size
  have hx : (s.extract 0 (mn 2 (s.size : Int)).toNat).size ≤ s.size := size_drop _ _ _
  obtain ⟨p, q, ⟨K, hd⟩, hpq⟩ := digits_total (s.extract 0 (mn 2 (s.size : Int)).toNat) (Nat.le_trans hx hs)
  have start : ∀ k, K ≤ k → times_two.f k s = (if (p.size : Int) = 2 then (if q.toList = ([] : List UInt8) then ((times_whole.f p).bind fun bt148 => (if 2 ≤ (s.size : Int) then (some (bt148.1, s.extract 2 s.size, true)) else (none))) else (some (0, (⟨#[]⟩ : ByteArray), false))) else (some (0, (⟨#[]⟩ : ByteArray), false))) := by
    intro k hk
    have e1 : times_digits.f k (s.extract 0 (mn 2 (s.size : Int)).toNat) = some (p, q) := hd k hk
    unfold times_two.f
    rw [if_pos m0, if_pos m1, e1]
    rfl
  by_cases c1 : (p.size : Int) = 2
  case neg => exact ⟨0, ⟨#[]⟩, false, ⟨K, fun k hk => (start k hk).trans (by rw [if_neg c1])⟩, Nat.zero_le _⟩
  by_cases c2 : q.toList = []
  case neg => exact ⟨0, ⟨#[]⟩, false, ⟨K, fun k hk => (start k hk).trans (by rw [if_pos c1, if_neg c2])⟩, Nat.zero_le _⟩
  obtain ⟨w, okw, hw, _⟩ := whole_total p (Nat.le_trans (by omega) hs)
  exact ⟨w, s.extract 2 s.size, true, ⟨K, fun k hk => by
    refine (start k hk).trans ?_
    rw [if_pos c1, if_pos c2, hw]
    simp only [Option.bind_some]
    rw [if_pos (by omega)]⟩, size_drop _ _ _⟩
theorem days_total (y m d : Int) : ∃ n ok, Ev (fun k => times_Days.f k y m d) (n, ok) := by
  by_cases h : Cal.ok y m d
  · exact ⟨_, _, CalX.days_yes h⟩
  · exact ⟨_, _, CalX.days_no h⟩
theorem date_total (s : ByteArray) (hs : s.size ≤ lim) : ∃ n r ok, Ev (fun k => times_date.f k s) (n, r, ok) ∧ r.size ≤ s.size := by
  have no : Ev (fun k => times_date.j0 k s true) (0, (⟨#[]⟩ : ByteArray), false) := Ev.step (f := fun _ => some (0, (⟨#[]⟩ : ByteArray), false)) (fun k => by simp only [times_date.j0]; rfl) (Ev.now _)
  by_cases c0 : (s.size : Int) < 10
  · exact ⟨0, ⟨#[]⟩, false, Ev.congr (fun k => by unfold times_date.f; rw [if_pos c0]) no, Nat.zero_le _⟩
  by_cases c1 : bt s 4 = 45
  case neg => exact ⟨0, ⟨#[]⟩, false, Ev.congr (fun k => by unfold times_date.f; rw [if_neg c0, if_pos (by omega), if_neg c1]) no, Nat.zero_le _⟩
  by_cases c2 : (bt s 7 != 45) = true
  · exact ⟨0, ⟨#[]⟩, false, Ev.congr (fun k => by unfold times_date.f; rw [if_neg c0, if_pos (by omega), if_pos c1, if_pos (by omega), c2]) no, Nat.zero_le _⟩
  have c2' : (bt s 7 != 45) = false := by simpa using c2
  obtain ⟨n1, r1, o1, ⟨K1, h1⟩, _⟩ := two_total s hs
  obtain ⟨n2, r2, o2, ⟨K2, h2⟩, _⟩ := two_total (s.extract 2 s.size) (Nat.le_trans (size_drop _ _ _) hs)
  obtain ⟨n3, r3, o3, ⟨K3, h3⟩, _⟩ := two_total (s.extract 5 s.size) (Nat.le_trans (size_drop _ _ _) hs)
  obtain ⟨n4, r4, o4, ⟨K4, h4⟩, z4⟩ := two_total (s.extract 8 s.size) (Nat.le_trans (size_drop _ _ _) hs)
  obtain ⟨dn, dok, ⟨K5, h5⟩⟩ := days_total (wrap64 ((wrap64 (n1 * 100)) + n2)) n3 n4
  have start : ∀ k, K1 + K2 + K3 + K4 + K5 + 1 ≤ k → times_date.f k s = (if o1 = true then (if o2 = true then (if o3 = true then (if o4 = true then some (dn, r4, dok) else (some (0, (⟨#[]⟩ : ByteArray), false))) else (some (0, (⟨#[]⟩ : ByteArray), false))) else (some (0, (⟨#[]⟩ : ByteArray), false))) else (some (0, (⟨#[]⟩ : ByteArray), false))) := by
    intro k hk
    obtain ⟨m, rfl, hm⟩ := pred hk
    have e1 : times_two.f m s = _ := h1 m (by omega)
    have e2 : times_two.f m (s.extract 2 s.size) = _ := h2 m (by omega)
    have e3 : times_two.f m (s.extract 5 s.size) = _ := h3 m (by omega)
    have e4 : times_two.f m (s.extract 8 s.size) = _ := h4 m (by omega)
    have e5 : times_Days.f m (wrap64 ((wrap64 (n1 * 100)) + n2)) n3 n4 = _ := h5 m (by omega)
    unfold times_date.f
    rw [if_neg c0, if_pos (by omega), if_pos c1, if_pos (by omega), c2']
    simp only [times_date.j0]
    rw [if_neg (by simp), e1]
    simp only [Option.bind_some]
    rw [if_pos (by omega), e2]
    simp only [Option.bind_some]
    rw [if_pos (by omega), e3]
    simp only [Option.bind_some]
    rw [if_pos (by omega), e4]
    simp only [Option.bind_some]
    rw [e5]
    rfl
  have hz4 : r4.size ≤ s.size := Nat.le_trans z4 (size_drop _ _ _)
  by_cases k1 : o1 = true ∧ o2 = true ∧ o3 = true ∧ o4 = true
  · exact ⟨dn, r4, dok, ⟨_, fun k hk => (start k hk).trans (by rw [if_pos k1.1, if_pos k1.2.1, if_pos k1.2.2.1, if_pos k1.2.2.2])⟩, hz4⟩
  · refine ⟨0, ⟨#[]⟩, false, ⟨K1 + K2 + K3 + K4 + K5 + 1, fun k hk => ?_⟩, Nat.zero_le _⟩
    show times_date.f k s = _
    rw [start k hk]
    cases o1 <;> cases o2 <;> cases o3 <;> cases o4 <;> first | rfl | exact absurd ⟨rfl, rfl, rfl, rfl⟩ k1
theorem fraction_total (s : ByteArray) (u : Int) : ∃ n ok, times_fraction.f s u = some (n, ok) := ⟨_, _, rfl⟩
theorem clock_j1 (x4 x7 x10 : Int) (t : ByteArray) (ht : t.size ≤ lim) (b : Bool) : ∃ n ok, Ev (fun k => times_clock.j1 k x4 x7 x10 t b) (n, ok) := by
  cases b with
  | true => exact ⟨0, false, Ev.step (f := fun _ => some (0, false)) (fun k => by simp only [times_clock.j1]; rfl) (Ev.now _)⟩
  | false =>
    by_cases c0 : t.toList = []
    · exact ⟨_, true, Ev.step (f := fun _ => some (wrap64 ((wrap64 ((wrap64 (x4 * 3600000000000)) + (wrap64 (x7 * 60000000000)))) + (wrap64 (x10 * 1000000000))), true)) (fun k => by simp only [times_clock.j1]; rw [if_neg (by simp), if_pos c0]) (Ev.now _)⟩
    have h1 : 1 ≤ t.size := by
      rcases Nat.eq_zero_or_pos t.size with h | h
      · exact absurd (by rw [ByteArray.toList_eq]; exact List.eq_nil_of_length_eq_zero (by rw [Array.length_toList]; exact h)) c0
      · exact h
    obtain ⟨p, q, ⟨K, hd⟩, hpq⟩ := digits_total (t.extract 1 t.size) (Nat.le_trans (size_drop _ _ _) ht)
    obtain ⟨fn, fok, hf⟩ := fraction_total p 1000000000
    have start : ∀ k, K + 1 ≤ k → times_clock.j1 k x4 x7 x10 t false = (if (bt t 0) = 46 then (if p.toList = ([] : List UInt8) then (some (0, false)) else (if (p.size : Int) > 9 then (some (0, false)) else (if q.toList = ([] : List UInt8) then some (wrap64 ((wrap64 ((wrap64 ((wrap64 (x4 * 3600000000000)) + (wrap64 (x7 * 60000000000)))) + (wrap64 (x10 * 1000000000)))) + fn), fok) else (some (0, false))))) else (some (0, false))) := by
      intro k hk
      obtain ⟨m, rfl, hm⟩ := pred hk
      have e1 : times_digits.f m (t.extract 1 t.size) = _ := hd m hm
      simp only [times_clock.j1]
      rw [if_neg (by simp), if_neg c0, if_pos (by omega), e1]
      simp only [Option.bind_some]
      rw [if_pos (by omega), hf]
      rfl
    by_cases k1 : bt t 0 = 46
    case neg => exact ⟨0, false, ⟨_, fun k hk => (start k hk).trans (by rw [if_neg k1])⟩⟩
    by_cases k2 : p.toList = []
    · exact ⟨0, false, ⟨_, fun k hk => (start k hk).trans (by rw [if_pos k1, if_pos k2])⟩⟩
    by_cases k3 : (p.size : Int) > 9
    · exact ⟨0, false, ⟨_, fun k hk => (start k hk).trans (by rw [if_pos k1, if_neg k2, if_pos k3])⟩⟩
    by_cases k4 : q.toList = []
    · exact ⟨_, fok, ⟨_, fun k hk => (start k hk).trans (by rw [if_pos k1, if_neg k2, if_neg k3, if_pos k4])⟩⟩
    · exact ⟨0, false, ⟨_, fun k hk => (start k hk).trans (by rw [if_pos k1, if_neg k2, if_neg k3, if_neg k4])⟩⟩
theorem clock_total (s : ByteArray) (hs : s.size ≤ lim) : ∃ n ok, Ev (fun k => times_clock.f k s) (n, ok) := by
  have no : Ev (fun k => times_clock.j0 k s true) (0, false) := Ev.step (f := fun _ => some (0, false)) (fun k => by simp only [times_clock.j0]; rfl) (Ev.now _)
  by_cases c0 : (s.size : Int) < 8
  · exact ⟨0, false, Ev.congr (fun k => by unfold times_clock.f; rw [if_pos c0]) no⟩
  by_cases c1 : bt s 2 = 58
  case neg => exact ⟨0, false, Ev.congr (fun k => by unfold times_clock.f; rw [if_neg c0, if_pos (by omega), if_neg c1]) no⟩
  by_cases c2 : (bt s 5 != 58) = true
  · exact ⟨0, false, Ev.congr (fun k => by unfold times_clock.f; rw [if_neg c0, if_pos (by omega), if_pos c1, if_pos (by omega), c2]) no⟩
  have c2' : (bt s 5 != 58) = false := by simpa using c2
  obtain ⟨n1, r1, o1, ⟨K1, h1⟩, _⟩ := two_total s hs
  obtain ⟨n2, r2, o2, ⟨K2, h2⟩, _⟩ := two_total (s.extract 3 s.size) (Nat.le_trans (size_drop _ _ _) hs)
  obtain ⟨n3, r3, o3, ⟨K3, h3⟩, z3⟩ := two_total (s.extract 6 s.size) (Nat.le_trans (size_drop _ _ _) hs)
  have hz3 : r3.size ≤ lim := Nat.le_trans (Nat.le_trans z3 (size_drop _ _ _)) hs
  have start : ∀ k, K1 + K2 + K3 + 1 ≤ k → ∃ m, k = m + 1 ∧ times_clock.f k s = (if o1 = true then (if o2 = true then (if o3 = true then (if n1 > 23 then (times_clock.j1 m n1 n2 n3 r3 true) else (if n2 > 59 then (times_clock.j1 m n1 n2 n3 r3 true) else (times_clock.j1 m n1 n2 n3 r3 (decide (n3 > 59))))) else (times_clock.j1 m n1 n2 n3 r3 true)) else (times_clock.j1 m n1 n2 n3 r3 true)) else (times_clock.j1 m n1 n2 n3 r3 true)) := by
    intro k hk
    obtain ⟨m, rfl, hm⟩ := pred hk
    refine ⟨m, rfl, ?_⟩
    have e1 : times_two.f m s = _ := h1 m (by omega)
    have e2 : times_two.f m (s.extract 3 s.size) = _ := h2 m (by omega)
    have e3 : times_two.f m (s.extract 6 s.size) = _ := h3 m (by omega)
    unfold times_clock.f
    rw [if_neg c0, if_pos (by omega), if_pos c1, if_pos (by omega), c2']
    simp only [times_clock.j0]
    rw [if_neg (by simp), e1]
    simp only [Option.bind_some]
    rw [if_pos (by omega), e2]
    simp only [Option.bind_some]
    rw [if_pos (by omega), e3]
    rfl
  have go : ∀ b : Bool, (∀ m, (if o1 = true then (if o2 = true then (if o3 = true then (if n1 > 23 then (times_clock.j1 m n1 n2 n3 r3 true) else (if n2 > 59 then (times_clock.j1 m n1 n2 n3 r3 true) else (times_clock.j1 m n1 n2 n3 r3 (decide (n3 > 59))))) else (times_clock.j1 m n1 n2 n3 r3 true)) else (times_clock.j1 m n1 n2 n3 r3 true)) else (times_clock.j1 m n1 n2 n3 r3 true)) = times_clock.j1 m n1 n2 n3 r3 b) → ∃ n ok, Ev (fun k => times_clock.f k s) (n, ok) := by
    intro b hb
    obtain ⟨n, ok, ⟨K, h⟩⟩ := clock_j1 n1 n2 n3 r3 hz3 b
    refine ⟨n, ok, K1 + K2 + K3 + K + 1, fun k hk => ?_⟩
    obtain ⟨m, rfl, e⟩ := start k (by omega)
    show times_clock.f (m + 1) s = _
    rw [e, hb m]
    exact h m (by omega)
  by_cases k1 : o1 = true
  case neg => exact go true (fun m => by rw [if_neg k1])
  by_cases k2 : o2 = true
  case neg => exact go true (fun m => by rw [if_pos k1, if_neg k2])
  by_cases k3 : o3 = true
  case neg => exact go true (fun m => by rw [if_pos k1, if_pos k2, if_neg k3])
  by_cases k4 : n1 > 23
  · exact go true (fun m => by rw [if_pos k1, if_pos k2, if_pos k3, if_pos k4])
  by_cases k5 : n2 > 59
  · exact go true (fun m => by rw [if_pos k1, if_pos k2, if_pos k3, if_neg k4, if_pos k5])
  · exact go _ (fun m => by rw [if_pos k1, if_pos k2, if_pos k3, if_neg k4, if_neg k5])

/-! What value.Int tells of a kind of times. -/
def fitsB (k n : Int) : Bool := if k = 14 then true else if n < 0 then false else if k = 15 then PureRef.b15 (IntKind.u64.wrap n) ⟨#[]⟩ else if k = 16 then PureRef.b16 (IntKind.u64.wrap n) ⟨#[]⟩ else PureRef.b17 (IntKind.u64.wrap n) ⟨#[]⟩
theorem int_total (j : Nat) (k n : Int) (hk : 14 ≤ k ∧ k ≤ 17) : value_Int.f (j + 9) k n = some (if fitsB k n = true then (k, IntKind.u64.wrap n, ⟨#[]⟩, 0) else (0, 0, ⟨#[]⟩, 1)) := by
  have nl := PureRef.nil_list
  obtain rfl | rfl | rfl | rfl : k = 14 ∨ k = 15 ∨ k = 16 ∨ k = 17 := by omega
  · simp [value_Int.f, value_Int.j0, value_known.f, value_unsigned.f, value_row.f, value_fits.f, value_fits.j0, value_signed.f, fitsB]
  · by_cases h : n < 0
    · simp [value_Int.f, value_Int.j0, value_known.f, value_unsigned.f, value_row.f, fitsB, h]
    · by_cases c : IntKind.u64.wrap n < 7258118400000000000
      · by_cases c2 : Int.tmod (IntKind.u64.wrap n) 86400000000000 = 0 <;> simp [value_Int.f, value_Int.j0, value_known.f, value_unsigned.f, value_row.f, value_fits.f, value_fits.j0, value_signed.f, fitsB, h, PureRef.b15, nl, c, c2]
      · simp [value_Int.f, value_Int.j0, value_known.f, value_unsigned.f, value_row.f, value_fits.f, value_fits.j0, value_signed.f, fitsB, h, PureRef.b15, nl, c]
  · by_cases h : n < 0
    · simp [value_Int.f, value_Int.j0, value_known.f, value_unsigned.f, value_row.f, fitsB, h]
    · by_cases c : IntKind.u64.wrap n < 86400000000000 <;> simp [value_Int.f, value_Int.j0, value_known.f, value_unsigned.f, value_row.f, value_fits.f, value_fits.j0, value_signed.f, fitsB, h, PureRef.b16, nl, c]
  · by_cases h : n < 0
    · simp [value_Int.f, value_Int.j0, value_known.f, value_unsigned.f, value_row.f, fitsB, h]
    · by_cases c : IntKind.u64.wrap n < 7258118400000000000 <;> simp [value_Int.f, value_Int.j0, value_known.f, value_unsigned.f, value_row.f, value_fits.f, value_fits.j0, value_signed.f, fitsB, h, PureRef.b17, nl, c]
/-- What Parse tells: a value of the kind that may be, or the empty value. -/
def fine (k : Int) (r : Int × Int × ByteArray × Bool) : Prop := r = (0, 0, ⟨#[]⟩, false) ∨ (14 ≤ k ∧ k ≤ 17 ∧ ∃ n, fitsB k n = true ∧ r = (k, IntKind.u64.wrap n, ⟨#[]⟩, true))
/-- A number's value of a kind. -/
theorem made (k n : Int) (hk : 14 ≤ k ∧ k ≤ 17) : ∃ r, fine k r ∧ ∀ j, 9 ≤ j → ((value_Int.f j k n).bind fun x => some (x.1, x.2.1, x.2.2.1, (x.2.2.2 == 0))) = some r := by
  have h : ∀ j, 9 ≤ j → value_Int.f j k n = some (if fitsB k n = true then (k, IntKind.u64.wrap n, ⟨#[]⟩, 0) else (0, 0, ⟨#[]⟩, 1)) := fun j hj => by
    have := int_total (j - 9) k n hk
    rwa [show j - 9 + 9 = j by omega] at this
  by_cases c : fitsB k n = true
  · refine ⟨(k, IntKind.u64.wrap n, ⟨#[]⟩, true), .inr ⟨hk.1, hk.2, n, c, rfl⟩, fun j hj => ?_⟩
    rw [h j hj, if_pos c]
    rfl
  · refine ⟨(0, 0, ⟨#[]⟩, false), .inl rfl, fun j hj => ?_⟩
    rw [h j hj, if_neg c]
    rfl
theorem parse_total (k : Int) (s : ByteArray) (hs : s.size ≤ 1048576) : ∃ r, Ev (fun j => times_Parse.f j k s) r ∧ fine k r := by
  have hl : s.size ≤ lim := by show s.size ≤ 1099511627776; omega
  have no : fine k (0, 0, ⟨#[]⟩, false) := .inl rfl
  by_cases k14 : k = 14
  · subst k14
    obtain ⟨⟨n, ok⟩, ⟨K, h⟩⟩ := span_total s hs
    cases ok with
    | false =>
      refine ⟨_, ⟨K, fun j hj => ?_⟩, no⟩
      have e : times_span.f j s = _ := h j hj
      show times_Parse.f j 14 s = _
      unfold times_Parse.f
      rw [if_pos rfl, e]
      rfl
    | true =>
      obtain ⟨r, hr, hm⟩ := made 14 n (by omega)
      refine ⟨r, ⟨K + 9, fun j hj => ?_⟩, hr⟩
      have e : times_span.f j s = _ := h j (by omega)
      show times_Parse.f j 14 s = _
      unfold times_Parse.f
      rw [if_pos rfl, e]
      exact hm j (by omega)
  by_cases k15 : k = 15
  · subst k15
    obtain ⟨n, rest, ok, ⟨K, h⟩, hz⟩ := date_total s hl
    have start : ∀ j, K ≤ j → times_Parse.f j 15 s = (if ok = true then (if (rest.toList = ([] : List UInt8)) then ((value_Int.f j 15 (wrap64 (n * 86400000000000))).bind fun bt207 => (some (bt207.1, bt207.2.1, bt207.2.2.1, (bt207.2.2.2 == 0)))) else (some (0, 0, (⟨#[]⟩ : ByteArray), false))) else (some (0, 0, (⟨#[]⟩ : ByteArray), false))) := by
      intro j hj
      have e : times_date.f j s = _ := h j hj
      unfold times_Parse.f
      rw [if_neg (by omega), if_pos rfl, e]
      rfl
    by_cases c1 : ok = true
    case neg => exact ⟨_, ⟨K, fun j hj => (start j hj).trans (by rw [if_neg c1])⟩, no⟩
    by_cases c2 : rest.toList = []
    case neg => exact ⟨_, ⟨K, fun j hj => (start j hj).trans (by rw [if_pos c1, if_neg c2])⟩, no⟩
    obtain ⟨r, hr, hm⟩ := made 15 (wrap64 (n * 86400000000000)) (by omega)
    exact ⟨r, ⟨K + 9, fun j hj => (start j (by omega)).trans (by rw [if_pos c1, if_pos c2]; exact hm j (by omega))⟩, hr⟩
  by_cases k16 : k = 16
  · subst k16
    obtain ⟨n, ok, ⟨K, h⟩⟩ := clock_total s hl
    have start : ∀ j, K ≤ j → times_Parse.f j 16 s = (if ok = true then ((value_Int.f j 16 n).bind fun bt207 => (some (bt207.1, bt207.2.1, bt207.2.2.1, (bt207.2.2.2 == 0)))) else (some (0, 0, (⟨#[]⟩ : ByteArray), false))) := by
      intro j hj
      have e : times_clock.f j s = _ := h j hj
      unfold times_Parse.f
      rw [if_neg (by omega), if_neg (by omega), if_pos rfl, e]
      rfl
    by_cases c1 : ok = true
    case neg => exact ⟨_, ⟨K, fun j hj => (start j hj).trans (by rw [if_neg c1])⟩, no⟩
    obtain ⟨r, hr, hm⟩ := made 16 n (by omega)
    exact ⟨r, ⟨K + 9, fun j hj => (start j (by omega)).trans (by rw [if_pos c1]; exact hm j (by omega))⟩, hr⟩
  by_cases k17 : k = 17
  · subst k17
    obtain ⟨n, rest, ok, ⟨K, h⟩, hz⟩ := date_total s hl
    obtain ⟨t, ht, ht1⟩ := prefix_total rest (⟨#[45]⟩ : ByteArray)
    have hz1 : (⟨#[45]⟩ : ByteArray).size = 1 := rfl
    obtain ⟨c, cok, ⟨Kc, hc⟩⟩ := clock_total (rest.extract 1 rest.size) (Nat.le_trans (Nat.le_trans (size_drop _ _ _) hz) hl)
    obtain ⟨r, hr, hm⟩ := made 17 (wrap64 ((wrap64 (n * 86400000000000)) + c)) (by omega)
    have jno : ∀ j, 1 ≤ j → times_Parse.j0 j 17 0 false n rest false = some (0, 0, (⟨#[]⟩ : ByteArray), false) := by
      intro j hj
      obtain ⟨m, rfl, _⟩ := pred hj
      simp only [times_Parse.j0]
      rfl
    have jyes : ∃ r, fine 17 r ∧ (t = true → ∀ j, Kc + 10 ≤ j → times_Parse.j0 j 17 0 false n rest true = some r) := by
      cases cok with
      | false =>
        refine ⟨_, .inl rfl, fun htt j hj => ?_⟩
        obtain ⟨m, rfl, hm1⟩ := pred hj
        have e : times_clock.f m (rest.extract 1 rest.size) = _ := hc m (by omega)
        have := ht1 htt
        simp only [times_Parse.j0, if_true]
        rw [if_pos (by omega), e]
        rfl
      | true =>
        refine ⟨r, hr, fun htt j hj => ?_⟩
        obtain ⟨m, rfl, hm1⟩ := pred hj
        have e : times_clock.f m (rest.extract 1 rest.size) = _ := hc m (by omega)
        have := ht1 htt
        simp only [times_Parse.j0, if_true]
        rw [if_pos (by omega), e]
        exact hm m (by omega)
    have start : ∀ j, K ≤ j → times_Parse.f j 17 s = (if ok = true then times_Parse.j0 j 17 0 false n rest t else times_Parse.j0 j 17 0 false n rest false) := by
      intro j hj
      have e : times_date.f j s = _ := h j hj
      unfold times_Parse.f
      rw [if_neg (by omega), if_neg (by omega), if_neg (by omega), if_pos rfl, e]
      simp only [Option.bind_some, ht]
    by_cases c1 : ok = true
    case neg => exact ⟨_, ⟨K + 1, fun j hj => (start j (by omega)).trans (by rw [if_neg c1, jno j (by omega)])⟩, no⟩
    cases t with
    | false => exact ⟨_, ⟨K + 1, fun j hj => (start j (by omega)).trans (by rw [if_pos c1, jno j (by omega)])⟩, no⟩
    | true =>
      obtain ⟨r2, hr2, h2⟩ := jyes
      exact ⟨r2, ⟨K + Kc + 10, fun j hj => (start j (by omega)).trans (by rw [if_pos c1, h2 rfl j (by omega)])⟩, hr2⟩
  · refine ⟨_, ⟨0, fun j hj => ?_⟩, no⟩
    show times_Parse.f j k s = _
    unfold times_Parse.f
    rw [if_neg k14, if_neg k15, if_neg k16, if_neg k17]
theorem u64_range (n : Int) : 0 ≤ IntKind.u64.wrap n ∧ IntKind.u64.wrap n < 18446744073709551616 := by
  simp [IntKind.wrap, IntKind.signed, IntKind.bits]
  omega
theorem may_of_fits (k n : Int) (hk : 14 ≤ k ∧ k ≤ 17) (h : fitsB k n = true) (j : Nat) : relayref01_May.f (j + 5) k (IntKind.u64.wrap n) ⟨#[]⟩ = some true := by
  obtain ⟨r0, r1⟩ := u64_range n
  unfold fitsB at h
  by_cases k14 : k = 14
  · subst k14
    unfold relayref01_May.f relayref01_may.f
    rw [if_neg (by omega), if_pos PureRef.nil_list, PureRef.width0 _ _ (by omega)]
    simp [relayref01_Signed.f]
  rw [if_neg k14] at h
  by_cases c : n < 0
  · rw [if_pos c] at h; cases h
  rw [if_neg c] at h
  by_cases k15 : k = 15
  · subst k15
    rw [if_pos rfl] at h
    rw [PureRef.ref15 j _ _ r0 r1, h]
  rw [if_neg k15] at h
  by_cases k16 : k = 16
  · subst k16
    rw [if_pos rfl] at h
    rw [PureRef.ref16 j _ _ r0 r1, h]
  rw [if_neg k16] at h
  obtain rfl : k = 17 := by omega
  rw [PureRef.ref17 j _ _ r0 r1, h]
theorem TimesMay (k : Int) (s : ByteArray) (hs : s.size ≤ 1048576) : ∃ j, relaylaw02_TimesMay.f j k s = some true := by
  obtain ⟨r, ⟨K, h⟩, hf⟩ := parse_total k s hs
  obtain ⟨A, ha⟩ := Awake.awake
  have e : times_Parse.f (K + A + 5) k s = some r := h _ (by omega)
  have ea : relaylaw02_awake.f (K + A + 5) = some true := ha _ (by omega)
  refine ⟨K + A + 5, ?_⟩
  unfold relaylaw02_TimesMay.f
  rw [e]
  rcases hf with rfl | ⟨h1, h2, n, h3, rfl⟩
  · simp [ea]
  · have em := may_of_fits k n ⟨h1, h2⟩ h3 (K + A)
    simp [em, ea]
end Go.Proofs.YteoehlcjllbhfaaGreatDoor.PureParse
