/- What the printed functions Days and Civil tell, in the calendar's words; and that awake tells yes. -/
import Derived.Test.YteoehlcjllbhfaaGreatDoorXBackx13
import Derived.Test.YteoehlcjllbhfaaGreatDoorXBackx16
import Derived.Test.YteoehlcjllbhfaaGreatDoorCal
namespace Go.Proofs.YteoehlcjllbhfaaGreatDoor.CalB
open Go.RowKit Go.Proofs.YteoehlcjllbhfaaGreatDoor.XBack Go.Proofs.YteoehlcjllbhfaaGreatDoorW.PrintWords Go.Proofs.YteoehlcjllbhfaaGreatDoorW.PrintLast Go.Proofs.YteoehlcjllbhfaaGreatDoor.Cal

theorem awake_200 : relaylaw02_awake.f 200 = some true := by kernel_rfl
theorem awake : Ev (fun k => relaylaw02_awake.f k) true := Ev.of (fun k => relaylaw02_awake.mono k) awake_200

theorem leap_eq (y : Int) : times_leap.f y = some (lp y) := by
  unfold times_leap.f lp
  split
  · split <;> rfl
  · rfl
theorem year_eq (y : Int) : times_year.f y = some (yl y) := by
  unfold times_year.f yl
  rw [leap_eq]
  simp only [Option.bind_some]
  split <;> rfl
theorem length_eq (y m : Int) : times_length.f y m = some (ml y m) := by
  unfold times_length.f ml
  rw [leap_eq]
  simp only [Option.bind_some]
  repeat' split
  all_goals rfl
theorem wrap_eq {a : Int} (h0 : -4000000000 ≤ a) (h : a ≤ 4000000000) : wrap64 a = a := by unfold wrap64; omega

/-- The loop over the years. -/
theorem years (x0 x1 : Int) (r : Int × Bool) (hx : x0 ≤ 2199) : ∀ (n : Nat) (a i : Int), x0 - i = n → 1970 ≤ i → 0 ≤ a → a ≤ 1000000000 - 366 * n →
    Ev (fun k => times_Days.l1 k x0 x1 (a + ysum n i) 1) r → Ev (fun k => times_Days.l0 k x0 x1 a i) r := by
  intro n
  induction n with
  | zero =>
    intro a i h1 _ _ _ h
    refine Ev.step (f := fun k => times_Days.l1 k x0 x1 a 1) (fun k => ?_) (by simpa [ysum] using h)
    simp only [times_Days.l0]
    rw [if_neg (by omega)]
  | succ n ih =>
    intro a i h1 h2 h3 h4 h
    have hb := yl_bd i
    refine Ev.step (f := fun k => times_Days.l0 k x0 x1 (a + yl i) (i + 1)) (fun k => ?_) (ih _ _ (by omega) (by omega) (by omega) (by omega) ?_)
    · simp only [times_Days.l0]
      rw [if_pos (by omega), year_eq]
      simp only [Option.bind_some]
      rw [wrap_eq (by omega) (by omega), wrap_eq (by omega) (by omega)]
    · simpa [ysum, Int.add_assoc] using h
/-- The loop over the months. -/
theorem months (x0 x1 : Int) (hx : x1 ≤ 12) : ∀ (n : Nat) (a i : Int), x1 - i = n → 1 ≤ i → 0 ≤ a → a ≤ 2000000000 - 31 * n →
    Ev (fun k => times_Days.l1 k x0 x1 a i) (a + msum n x0 i, true) := by
  intro n
  induction n with
  | zero =>
    intro a i h1 _ _ _
    refine Ev.step (f := fun _ => some (a, true)) (fun k => ?_) (by simpa [msum] using Ev.now (a, true))
    simp only [times_Days.l1]
    rw [if_neg (by omega)]
  | succ n ih =>
    intro a i h1 h2 h3 h4
    have hb := ml_bd x0 i
    have h := ih (a + ml x0 i) (i + 1) (by omega) (by omega) (by omega) (by omega)
    rw [show a + ml x0 i + msum n x0 (i + 1) = a + msum (n + 1) x0 i by simp only [msum]; omega] at h
    refine Ev.step (f := fun k => times_Days.l1 k x0 x1 (a + ml x0 i) (i + 1)) (fun k => ?_) h
    simp only [times_Days.l1]
    rw [if_pos (by omega), length_eq]
    simp only [Option.bind_some]
    rw [wrap_eq (by omega) (by omega), wrap_eq (by omega) (by omega)]
/-- Days: a date's number, or no. -/
theorem days_yes {y m d : Int} (h : ok y m d) : Ev (fun k => times_Days.f k y m d) (no y m d, true) := by
  obtain ⟨h1, h2, h3, h4, h5, h6⟩ := h
  have hb := ml_bd y m
  have hY : 0 ≤ Y y ∧ Y y ≤ 84006 := by
    have a := Y_le (a := 1970) (b := y) (by omega) h1
    have b := Y_le (a := y) (b := 2200) h1 (by omega)
    rw [Y_first] at a
    rw [Y_end] at b
    exact ⟨a, b⟩
  refine Ev.congr (f := fun k => times_Days.j0 k y m d (decide (d > ml y m))) (fun k => ?_) ?_
  · unfold times_Days.f
    rw [if_neg (by omega), if_neg (by omega), if_neg (by omega), if_neg (by omega), if_neg (by omega), length_eq]
    simp only [Option.bind_some]
  rw [decide_eq_false (by omega)]
  refine Ev.step (f := fun k => times_Days.l0 k y m (d - 1) 1970) (fun k => ?_) ?_
  · simp only [times_Days.j0]
    rw [if_neg (by simp), wrap_eq (by omega) (by omega)]
  · refine years y m _ (by omega) (y - 1970).toNat _ _ (by omega) (by omega) (by omega) (by omega) ?_
    exact months y m (by omega) (m - 1).toNat _ _ (by omega) (by omega) (by show 0 ≤ d - 1 + Y y; omega) (by show d - 1 + Y y ≤ _; omega)
theorem days_no {y m d : Int} (h : ¬ ok y m d) : Ev (fun k => times_Days.f k y m d) (0, false) := by
  have e : Ev (fun k => times_Days.j0 k y m d true) (0, false) := Ev.step (f := fun _ => some (0, false)) (fun k => by simp [times_Days.j0]) (Ev.now _)
  unfold times_Days.f
  by_cases h1 : y < 1970
  · exact Ev.congr (fun k => by rw [if_pos h1]) e
  by_cases h2 : y > 2199
  · exact Ev.congr (fun k => by rw [if_neg h1, if_pos h2]) e
  by_cases h3 : m < 1
  · exact Ev.congr (fun k => by rw [if_neg h1, if_neg h2, if_pos h3]) e
  by_cases h4 : m > 12
  · exact Ev.congr (fun k => by rw [if_neg h1, if_neg h2, if_neg h3, if_pos h4]) e
  by_cases h5 : d < 1
  · exact Ev.congr (fun k => by rw [if_neg h1, if_neg h2, if_neg h3, if_neg h4, if_pos h5]) e
  refine Ev.congr (f := fun k => times_Days.j0 k y m d (decide (d > ml y m))) (fun k => by rw [if_neg h1, if_neg h2, if_neg h3, if_neg h4, if_neg h5, length_eq]; simp only [Option.bind_some]) ?_
  rw [decide_eq_true (show d > ml y m by
    by_cases h6 : d > ml y m
    · exact h6
    · exact absurd ⟨by omega, by omega, by omega, by omega, by omega, by omega⟩ h)]
  exact e

/-- The loop over the months, back. -/
theorem cmonths (n y : Int) (hy : 1970 ≤ y ∧ y ≤ 2199) (hn : n < Y (y + 1)) : ∀ (t : Nat) (x m : Int), 13 - m ≤ t → 1 ≤ m → m ≤ 12 → x = n - Y y - M y m → 0 ≤ x → x ≤ 1000 →
    ∃ m' d', ok y m' d' ∧ no y m' d' = n ∧ Ev (fun k => times_Civil.l1 k x y m) (y, m', d', true) := by
  intro t
  induction t with
  | zero =>
    intro x m h _ hm _ _ _
    omega
  | succ t ih =>
    intro x m h hm1 hm2 hx h0 h9
    have hb := ml_bd y m
    have ms := M_succ y m hm1
    by_cases c : x ≥ ml y m
    · have hm : m < 12 := by
        by_cases e : m < 12
        · exact e
        · obtain rfl : m = 12 := by omega
          have l := M_last y
          have ys := Y_succ y hy.1
          rw [show (12 : Int) + 1 = 13 by omega] at ms
          omega
      obtain ⟨m', d', ho, hd, he⟩ := ih (x - ml y m) (m + 1) (by omega) (by omega) (by omega) (by omega) (by omega) (by omega)
      refine ⟨m', d', ho, hd, Ev.step (fun k => ?_) he⟩
      simp only [times_Civil.l1]
      rw [length_eq]
      simp only [Option.bind_some]
      rw [if_pos c, wrap_eq (by omega) (by omega), wrap_eq (by omega) (by omega)]
    · refine ⟨m, x + 1, ⟨hy.1, hy.2, hm1, hm2, by omega, by omega⟩, by unfold no; omega, Ev.step (f := fun _ => some (y, m, x + 1, true)) (fun k => ?_) (Ev.now _)⟩
      simp only [times_Civil.l1]
      rw [length_eq]
      simp only [Option.bind_some]
      rw [if_neg c, wrap_eq (by omega) (by omega)]
/-- The loop over the years, back. -/
theorem cyears (n : Int) (hn : n < 84006) : ∀ (t : Nat) (x y : Int), 2200 - y ≤ t → 1970 ≤ y → y ≤ 2199 → x = n - Y y → 0 ≤ x → x ≤ 100000 →
    ∃ y' m' d', ok y' m' d' ∧ no y' m' d' = n ∧ Ev (fun k => times_Civil.l0 k x y 1) (y', m', d', true) := by
  intro t
  induction t with
  | zero =>
    intro x y h _ hy _ _ _
    omega
  | succ t ih =>
    intro x y h hy1 hy2 hx h0 h9
    have hb := yl_bd y
    have ys := Y_succ y hy1
    by_cases c : x ≥ yl y
    · have hy : y < 2199 := by
        by_cases e : y < 2199
        · exact e
        · obtain rfl : y = 2199 := by omega
          have ye := Y_end
          rw [show (2199 : Int) + 1 = 2200 by omega] at ys
          omega
      obtain ⟨y', m', d', ho, hd, he⟩ := ih (x - yl y) (y + 1) (by omega) (by omega) (by omega) (by omega) (by omega) (by omega)
      refine ⟨y', m', d', ho, hd, Ev.step (fun k => ?_) he⟩
      simp only [times_Civil.l0]
      rw [year_eq]
      simp only [Option.bind_some]
      rw [if_pos c, wrap_eq (by omega) (by omega), wrap_eq (by omega) (by omega)]
    · have mo := M_one y
      obtain ⟨m', d', ho, hd, he⟩ := cmonths n y ⟨hy1, hy2⟩ (by omega) 12 x 1 (by omega) (by omega) (by omega) (by omega) h0 (by omega)
      refine ⟨y, m', d', ho, hd, Ev.step (fun k => ?_) he⟩
      simp only [times_Civil.l0]
      rw [year_eq]
      simp only [Option.bind_some]
      rw [if_neg c]
/-- Civil: the date of a number, or no. -/
theorem civil_yes {n : Int} (h0 : 0 ≤ n) (h1 : n < 84006) : ∃ y m d, ok y m d ∧ no y m d = n ∧ Ev (fun k => times_Civil.f k n) (y, m, d, true) := by
  obtain ⟨y, m, d, ho, hd, he⟩ := cyears n h1 230 n 1970 (by omega) (by omega) (by omega) (by rw [Y_first]; omega) h0 (by omega)
  refine ⟨y, m, d, ho, hd, Ev.congr (f := fun k => times_Civil.j0 k n false) (fun k => ?_) (Ev.step (fun k => ?_) he)⟩
  · unfold times_Civil.f
    rw [if_neg (by omega), decide_eq_false (by omega)]
  · simp only [times_Civil.j0]
    rw [if_neg (by simp)]
theorem civil_no {n : Int} (h : n < 0 ∨ 84006 ≤ n) : Ev (fun k => times_Civil.f k n) (0, 0, 0, false) := by
  have e : Ev (fun k => times_Civil.j0 k n true) (0, 0, 0, false) := Ev.step (f := fun _ => some (0, 0, 0, false)) (fun k => by simp [times_Civil.j0]) (Ev.now _)
  unfold times_Civil.f
  by_cases h1 : n < 0
  · exact Ev.congr (fun k => by rw [if_pos h1]) e
  · exact Ev.congr (fun k => by rw [if_neg h1, decide_eq_true (by omega)]) e
/-- Two that each tell something from some number of rounds on, together. -/
theorem both {α β : Type} {g : Nat → Option α} {f : Nat → Option β} {a : α} {b : β} (h : Ev g a) (k : Ev f b) : ∃ n, g n = some a ∧ f n = some b := by
  obtain ⟨n, h⟩ := h
  obtain ⟨m, k⟩ := k
  exact ⟨max n m, h _ (by omega), k _ (by omega)⟩
theorem four {α β γ δ : Type} {g : Nat → Option α} {f : Nat → Option β} {p : Nat → Option γ} {q : Nat → Option δ} {a : α} {b : β} {c : γ} {d : δ} (h : Ev g a) (k : Ev f b) (l : Ev p c) (m : Ev q d) :
    ∃ n, g n = some a ∧ f n = some b ∧ p n = some c ∧ q n = some d := by
  obtain ⟨n1, h⟩ := h
  obtain ⟨n2, k⟩ := k
  obtain ⟨n3, l⟩ := l
  obtain ⟨n4, m⟩ := m
  exact ⟨n1 + n2 + n3 + n4, h _ (by omega), k _ (by omega), l _ (by omega), m _ (by omega)⟩
end Go.Proofs.YteoehlcjllbhfaaGreatDoor.CalB
