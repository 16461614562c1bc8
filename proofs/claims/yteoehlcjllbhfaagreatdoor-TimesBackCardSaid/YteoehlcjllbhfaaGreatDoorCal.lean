/- The calendar in plain Lean: a date's number, that it rises with the date, and its bounds. No Go in it. -/
namespace Go.Proofs.YteoehlcjllbhfaaGreatDoor.Cal

/-- Is it a leap year? -/
def lp (y : Int) : Bool := if Int.tmod y 4 = 0 then (if Int.tmod y 100 = 0 then (Int.tmod y 400 == 0) else true) else (Int.tmod y 400 == 0)
/-- A year's days. -/
def yl (y : Int) : Int := if lp y = true then 366 else 365
/-- A month's days. -/
def ml (y m : Int) : Int := if m = 2 then (if lp y = true then 29 else 28) else if m = 4 then 30 else if m = 6 then 30 else if m = 9 then 30 else if m = 11 then 30 else 31
def ysum : Nat → Int → Int
  | 0, _ => 0
  | n + 1, y => yl y + ysum n (y + 1)
def msum : Nat → Int → Int → Int
  | 0, _, _ => 0
  | n + 1, y, m => ml y m + msum n y (m + 1)
/-- The days ahead of a year, of a month. -/
def Y (y : Int) : Int := ysum (y - 1970).toNat 1970
def M (y m : Int) : Int := msum (m - 1).toNat y 1
/-- A date that can be. -/
def ok (y m d : Int) : Prop := 1970 ≤ y ∧ y ≤ 2199 ∧ 1 ≤ m ∧ m ≤ 12 ∧ 1 ≤ d ∧ d ≤ ml y m
instance (y m d : Int) : Decidable (ok y m d) := by unfold ok; infer_instance
/-- Its number. -/
def no (y m d : Int) : Int := d - 1 + Y y + M y m

theorem yl_bd (y : Int) : 365 ≤ yl y ∧ yl y ≤ 366 := by unfold yl; split <;> omega
theorem ml_bd (y m : Int) : 28 ≤ ml y m ∧ ml y m ≤ 31 := by
  unfold ml
  repeat' split
  all_goals omega
theorem ysum_end : ∀ (n : Nat) (y : Int), ysum (n + 1) y = ysum n y + yl (y + n)
  | 0, y => by simp [ysum]
  | n + 1, y => by
    have h := ysum_end n (y + 1)
    have e : ysum (n + 1 + 1) y = yl y + ysum (n + 1) (y + 1) := rfl
    have e2 : ysum (n + 1) y = yl y + ysum n (y + 1) := rfl
    rw [e, h, e2, show y + 1 + (n : Int) = y + ((n + 1 : Nat) : Int) by omega]
    omega
theorem msum_end : ∀ (n : Nat) (y m : Int), msum (n + 1) y m = msum n y m + ml y (m + n)
  | 0, y, m => by simp [msum]
  | n + 1, y, m => by
    have h := msum_end n y (m + 1)
    have e : msum (n + 1 + 1) y m = ml y m + msum (n + 1) y (m + 1) := rfl
    have e2 : msum (n + 1) y m = ml y m + msum n y (m + 1) := rfl
    rw [e, h, e2, show m + 1 + (n : Int) = m + ((n + 1 : Nat) : Int) by omega]
    omega
theorem Y_succ (y : Int) (h : 1970 ≤ y) : Y (y + 1) = Y y + yl y := by
  unfold Y
  rw [show (y + 1 - 1970).toNat = (y - 1970).toNat + 1 by omega, ysum_end, show (1970 : Int) + ((y - 1970).toNat : Int) = y by omega]
theorem M_succ (y m : Int) (h : 1 ≤ m) : M y (m + 1) = M y m + ml y m := by
  unfold M
  rw [show (m + 1 - 1).toNat = (m - 1).toNat + 1 by omega, msum_end, show (1 : Int) + ((m - 1).toNat : Int) = m by omega]
theorem M_one (y : Int) : M y 1 = 0 := rfl
theorem Y_first : Y 1970 = 0 := rfl
theorem M_last (y : Int) : M y 13 = yl y := by
  have e : M y 13 = msum 12 y 1 := rfl
  rw [e]
  simp only [msum, ml, yl]
  cases lp y <;> rfl
theorem Y_mono {a : Int} (ha : 1970 ≤ a) : ∀ (n : Nat), Y a ≤ Y (a + n)
  | 0 => by simp
  | n + 1 => by
    have h := Y_mono ha n
    have e := Y_succ (a + n) (by omega)
    have b := yl_bd (a + n)
    rw [show a + ((n + 1 : Nat) : Int) = a + n + 1 by omega, e]
    omega
theorem Y_le {a b : Int} (ha : 1970 ≤ a) (h : a ≤ b) : Y a ≤ Y b := by
  have := Y_mono ha (b - a).toNat
  rwa [show a + ((b - a).toNat : Int) = b by omega] at this
theorem M_mono (y : Int) {a : Int} (ha : 1 ≤ a) : ∀ (n : Nat), M y a ≤ M y (a + n)
  | 0 => by simp
  | n + 1 => by
    have h := M_mono y ha n
    have e := M_succ y (a + n) (by omega)
    have b := ml_bd y (a + n)
    rw [show a + ((n + 1 : Nat) : Int) = a + n + 1 by omega, e]
    omega
theorem M_le (y : Int) {a b : Int} (ha : 1 ≤ a) (h : a ≤ b) : M y a ≤ M y b := by
  have := M_mono y ha (b - a).toNat
  rwa [show a + ((b - a).toNat : Int) = b by omega] at this
theorem Y_end : Y 2200 = 84006 := by decide +kernel

theorem no_month {y m d : Int} (h : ok y m d) : Y y + M y m ≤ no y m d ∧ no y m d < Y y + M y (m + 1) := by
  obtain ⟨h1, h2, h3, h4, h5, h6⟩ := h
  have e := M_succ y m h3
  unfold no
  omega
theorem no_year {y m d : Int} (h : ok y m d) : Y y ≤ no y m d ∧ no y m d < Y (y + 1) := by
  have a := no_month h
  obtain ⟨h1, h2, h3, h4, h5, h6⟩ := h
  have e := Y_succ y h1
  have l := M_last y
  have i := M_le y (a := 1) (b := m) (by omega) h3
  have j := M_le y (a := m + 1) (b := 13) (by omega) (by omega)
  have o := M_one y
  omega
theorem no_bd {y m d : Int} (h : ok y m d) : 0 ≤ no y m d ∧ no y m d < 84006 := by
  have a := no_year h
  obtain ⟨h1, h2, h3, h4, h5, h6⟩ := h
  have i := Y_le (a := 1970) (b := y) (by omega) h1
  have j := Y_le (a := y + 1) (b := 2200) (by omega) (by omega)
  rw [Y_first] at i
  rw [Y_end] at j
  omega
/-- Is the second date later? -/
def later (y m d y' m' d' : Int) : Prop := y < y' ∨ y = y' ∧ (m < m' ∨ m = m' ∧ d < d')
theorem no_lt {y m d y' m' d' : Int} (h : ok y m d) (h' : ok y' m' d') (l : later y m d y' m' d') : no y m d < no y' m' d' := by
  rcases l with l | ⟨rfl, l | ⟨rfl, l⟩⟩
  · have a := no_year h
    have b := no_year h'
    have c := Y_le (a := y + 1) (b := y') (by have := h.1; omega) (by omega)
    omega
  · have a := no_month h
    have b := no_month h'
    have c := M_le y (a := m + 1) (b := m') (by have := h.2.2.1; omega) (by omega)
    omega
  · unfold no
    omega
theorem later_or {y m d y' m' d' : Int} : later y m d y' m' d' ∨ later y' m' d' y m d ∨ (y = y' ∧ m = m' ∧ d = d') := by
  unfold later
  omega
theorem no_inj {y m d y' m' d' : Int} (h : ok y m d) (h' : ok y' m' d') (e : no y m d = no y' m' d') : y = y' ∧ m = m' ∧ d = d' := by
  rcases later_or (y := y) (m := m) (d := d) (y' := y') (m' := m') (d' := d') with l | l | l
  · have := no_lt h h' l
    omega
  · have := no_lt h' h l
    omega
  · exact l
theorem no_lt_iff {y m d y' m' d' : Int} (h : ok y m d) (h' : ok y' m' d') : no y m d < no y' m' d' ↔ later y m d y' m' d' := by
  constructor
  · intro e
    rcases later_or (y := y) (m := m) (d := d) (y' := y') (m' := m') (d' := d') with l | l | ⟨rfl, rfl, rfl⟩
    · exact l
    · have := no_lt h' h l
      omega
    · omega
  · exact no_lt h h'
/-- The day behind a date: the same month, or the next one's first, or the next year's. -/
theorem next {y m d a b c : Int} (h : ok y m d) (h' : ok a b c) (e : no a b c = no y m d + 1) :
    (a = y ∧ b = m ∧ c = d + 1) ∨ (c = 1 ∧ a = y ∧ b = m + 1) ∨ (c = 1 ∧ a = y + 1 ∧ m = 12 ∧ b = 1) := by
  obtain ⟨h1, h2, h3, h4, h5, h6⟩ := h
  have g := no_bd h'
  by_cases hd : d < ml y m
  · have k : ok y m (d + 1) := ⟨h1, h2, h3, h4, by omega, by omega⟩
    have := no_inj h' k (by rw [e]; unfold no; omega)
    exact .inl this
  · by_cases hm : m < 12
    · have b1 := ml_bd y (m + 1)
      have k : ok y (m + 1) 1 := ⟨h1, h2, by omega, by omega, by omega, by omega⟩
      have s := M_succ y m h3
      have := no_inj h' k (by rw [e]; unfold no; rw [s]; omega)
      exact .inr (.inl ⟨this.2.2, this.1, this.2.1⟩)
    · obtain rfl : m = 12 := by omega
      have s := M_succ y 12 (by omega)
      have l := M_last y
      have ys := Y_succ y h1
      rw [show (12 : Int) + 1 = 13 by omega] at s
      by_cases hy : y < 2199
      · have b1 := ml_bd (y + 1) 1
        have k : ok (y + 1) 1 1 := ⟨by omega, by omega, by omega, by omega, by omega, by omega⟩
        have := no_inj h' k (by rw [e]; unfold no; rw [M_one]; omega)
        exact .inr (.inr ⟨this.2.2, this.1, rfl, this.2.1⟩)
      · obtain rfl : y = 2199 := by omega
        have ye := Y_end
        rw [show (2199 : Int) + 1 = 2200 by omega] at ys
        exfalso
        unfold no at e g
        omega
end Go.Proofs.YteoehlcjllbhfaaGreatDoor.Cal
