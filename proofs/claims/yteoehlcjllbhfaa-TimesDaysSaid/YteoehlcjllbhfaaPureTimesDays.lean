/- TimesDays: for all three whole numbers the program's Days and the document's Days tell the same number and the same yes or no. No condition. -/
import Derived.Test.YteoehlcjllbhfaaPTimesDaysx2
namespace Go.Proofs.Yteoehlcjllbhfaa.Pure
open Go.RowKit Go.Proofs.Yteoehlcjllbhfaa.PTimesDays Go.Proofs.YteoehlcjllbhfaaW.PrintWords Go.Proofs.YteoehlcjllbhfaaW.PrintLast

namespace TD

/-- Is it a leap year? -/
def lp (y : Int) : Bool := if Int.tmod y 4 = 0 then (if Int.tmod y 100 = 0 then (Int.tmod y 400 == 0) else true) else (Int.tmod y 400 == 0)
/-- A year's days. -/
def yl (y : Int) : Int := if lp y = true then 366 else 365
/-- A month's days. -/
def ml (y m : Int) : Int := if m = 2 then (if lp y = true then 29 else 28) else if m = 4 then 30 else if m = 6 then 30 else if m = 9 then 30 else if m = 11 then 30 else 31
def ysum : Nat → Int → Int
  | 0, _ => 0
  | n + 1, y => yl y + ysum n (y + 1)
def msum : Nat → Int → Int → Int
  | 0, _, _ => 0
  | n + 1, y, m => ml y m + msum n y (m + 1)

theorem leap_eq (y : Int) : times_leap.f y = some (lp y) := by
  unfold times_leap.f lp
  split
  · split <;> rfl
  · rfl
theorem leap_eq' (y : Int) : relayref02_leap.f y = some (lp y) := by
  unfold relayref02_leap.f lp
  split
  · split <;> rfl
  · rfl
theorem year_eq (y : Int) : times_year.f y = some (yl y) := by
  unfold times_year.f yl
  rw [leap_eq]
  simp only [Option.bind_some]
  split <;> rfl
theorem length_eq (y m : Int) : times_length.f y m = some (ml y m) := by
  unfold times_length.f ml
  rw [leap_eq]
  simp only [Option.bind_some]
  repeat' split
  all_goals rfl
theorem length_eq' (y m : Int) : relayref02_length.f y m = some (ml y m) := by
  unfold relayref02_length.f ml
  rw [leap_eq']
  simp only [Option.bind_some]
  repeat' split
  all_goals rfl
theorem yl_bd (y : Int) : 365 ≤ yl y ∧ yl y ≤ 366 := by unfold yl; split <;> omega
theorem ml_bd (y m : Int) : 28 ≤ ml y m ∧ ml y m ≤ 31 := by
  unfold ml
  repeat' split
  all_goals omega
theorem wrap_eq {a : Int} (h0 : -4000000000 ≤ a) (h : a ≤ 4000000000) : wrap64 a = a := by unfold wrap64; omega

/-- The program's loop over the years. -/
theorem years (x0 x1 : Int) (r : Int × Bool) (hx : x0 ≤ 2199) : ∀ (n : Nat) (a i : Int), x0 - i = n → 1970 ≤ i → 0 ≤ a → a ≤ 1000000000 - 366 * n →
    Ev (fun k => times_Days.l1 k x0 x1 (a + ysum n i) 1) r → Ev (fun k => times_Days.l0 k x0 x1 a i) r := by
  intro n
  induction n with
  | zero =>
    intro a i h1 _ _ _ h
    refine Ev.step (f := fun k => times_Days.l1 k x0 x1 a 1) (fun k => ?_) (by simpa [ysum] using h)
    simp only [times_Days.l0]
    rw [if_neg (by omega)]
  | succ n ih =>
    intro a i h1 h2 h3 h4 h
    have hb := yl_bd i
    refine Ev.step (f := fun k => times_Days.l0 k x0 x1 (a + yl i) (i + 1)) (fun k => ?_) (ih _ _ (by omega) (by omega) (by omega) (by omega) ?_)
    · simp only [times_Days.l0]
      rw [if_pos (by omega), year_eq]
      simp only [Option.bind_some]
      rw [wrap_eq (by omega) (by omega), wrap_eq (by omega) (by omega)]
    · simpa [ysum, Int.add_assoc] using h
/-- The program's loop over the months. -/
theorem months (x0 x1 : Int) (hx : x1 ≤ 12) : ∀ (n : Nat) (a i : Int), x1 - i = n → 1 ≤ i → 0 ≤ a → a ≤ 2000000000 - 31 * n →
    Ev (fun k => times_Days.l1 k x0 x1 a i) (a + msum n x0 i, true) := by
  intro n
  induction n with
  | zero =>
    intro a i h1 _ _ _
    refine Ev.step (f := fun _ => some (a, true)) (fun k => ?_) (by simpa [msum] using Ev.now (a, true))
    simp only [times_Days.l1]
    rw [if_neg (by omega)]
  | succ n ih =>
    intro a i h1 h2 h3 h4
    have hb := ml_bd x0 i
    have h := ih (a + ml x0 i) (i + 1) (by omega) (by omega) (by omega) (by omega)
    rw [show a + ml x0 i + msum n x0 (i + 1) = a + msum (n + 1) x0 i by simp only [msum]; omega] at h
    refine Ev.step (f := fun k => times_Days.l1 k x0 x1 (a + ml x0 i) (i + 1)) (fun k => ?_) h
    simp only [times_Days.l1]
    rw [if_pos (by omega), length_eq]
    simp only [Option.bind_some]
    rw [wrap_eq (by omega) (by omega), wrap_eq (by omega) (by omega)]
/-- The document's loop over the months. -/
theorem months' (x0 x1 : Int) (r : Int × Bool) (hx : x1 ≤ 12) : ∀ (n : Nat) (a i : Int), x1 - i = n → 1 ≤ i → 0 ≤ a → a ≤ 1000000000 - 31 * n →
    Ev (fun k => relayref02_Days.l1 k x0 (a + msum n x0 i) 1970) r → Ev (fun k => relayref02_Days.l0 k x0 x1 a i) r := by
  intro n
  induction n with
  | zero =>
    intro a i h1 _ _ _ h
    refine Ev.step (f := fun k => relayref02_Days.l1 k x0 a 1970) (fun k => ?_) (by simpa [msum] using h)
    simp only [relayref02_Days.l0]
    rw [if_neg (by omega)]
  | succ n ih =>
    intro a i h1 h2 h3 h4 h
    have hb := ml_bd x0 i
    refine Ev.step (f := fun k => relayref02_Days.l0 k x0 x1 (a + ml x0 i) (i + 1)) (fun k => ?_) (ih _ _ (by omega) (by omega) (by omega) (by omega) ?_)
    · simp only [relayref02_Days.l0]
      rw [if_pos (by omega), length_eq']
      simp only [Option.bind_some]
      rw [wrap_eq (by omega) (by omega), wrap_eq (by omega) (by omega)]
    · simpa [msum, Int.add_assoc] using h
/-- The document's loop over the years. -/
theorem years' (x0 : Int) (hx : x0 ≤ 2199) : ∀ (n : Nat) (a i : Int), x0 - i = n → 1970 ≤ i → 0 ≤ a → a ≤ 2000000000 - 366 * n →
    Ev (fun k => relayref02_Days.l1 k x0 a i) (a + ysum n i, true) := by
  intro n
  induction n with
  | zero =>
    intro a i h1 _ _ _
    refine Ev.step (f := fun _ => some (a, true)) (fun k => ?_) (by simpa [ysum] using Ev.now (a, true))
    simp only [relayref02_Days.l1]
    rw [if_neg (by omega)]
  | succ n ih =>
    intro a i h1 h2 h3 h4
    have hb := yl_bd i
    have h := ih (a + yl i) (i + 1) (by omega) (by omega) (by omega) (by omega)
    rw [show a + yl i + ysum n (i + 1) = a + ysum (n + 1) i by simp only [ysum]; omega] at h
    refine Ev.step (f := fun k => relayref02_Days.l1 k x0 (a + yl i) (i + 1)) (fun k => ?_) h
    simp only [relayref02_Days.l1]
    rw [if_pos (by omega), leap_eq']
    simp only [Option.bind_some]
    unfold yl at hb ⊢
    split
    · rw [wrap_eq (a := a + 365) (by omega) (by omega), wrap_eq (by omega) (by omega), wrap_eq (by omega) (by omega), show a + 365 + 1 = a + 366 by omega]
    · rw [wrap_eq (by omega) (by omega), wrap_eq (by omega) (by omega)]

theorem ysum_bd : ∀ (n : Nat) (y : Int), 0 ≤ ysum n y ∧ ysum n y ≤ 366 * n
  | 0, _ => by simp [ysum]
  | n + 1, y => by
    have := ysum_bd n (y + 1)
    have := yl_bd y
    simp only [ysum]
    omega
theorem msum_bd : ∀ (n : Nat) (y m : Int), 0 ≤ msum n y m ∧ msum n y m ≤ 31 * n
  | 0, _, _ => by simp [msum]
  | n + 1, y, m => by
    have := msum_bd n y (m + 1)
    have := ml_bd y m
    simp only [msum]
    omega

/-- A date that can be. -/
def ok (y m d : Int) : Prop := 1970 ≤ y ∧ y ≤ 2199 ∧ 1 ≤ m ∧ m ≤ 12 ∧ 1 ≤ d ∧ d ≤ ml y m
instance (y m d : Int) : Decidable (ok y m d) := by unfold ok; infer_instance
/-- What both tell. -/
def days (y m d : Int) : Int × Bool := if ok y m d then (d - 1 + ysum (y - 1970).toNat 1970 + msum (m - 1).toNat y 1, true) else (0, false)

theorem prog (y m d : Int) : Ev (fun k => times_Days.f k y m d) (days y m d) := by
  have no : ¬ ok y m d → Ev (fun k => times_Days.j0 k y m d true) (days y m d) := fun h => by
    unfold days
    rw [if_neg h]
    exact Ev.step (f := fun _ => some (0, false)) (fun k => by simp [times_Days.j0]) (Ev.now _)
  unfold times_Days.f
  by_cases h1 : y < 1970
  · exact Ev.congr (fun k => by rw [if_pos h1]) (no (by unfold ok; omega))
  by_cases h2 : y > 2199
  · exact Ev.congr (fun k => by rw [if_neg h1, if_pos h2]) (no (by unfold ok; omega))
  by_cases h3 : m < 1
  · exact Ev.congr (fun k => by rw [if_neg h1, if_neg h2, if_pos h3]) (no (by unfold ok; omega))
  by_cases h4 : m > 12
  · exact Ev.congr (fun k => by rw [if_neg h1, if_neg h2, if_neg h3, if_pos h4]) (no (by unfold ok; omega))
  by_cases h5 : d < 1
  · exact Ev.congr (fun k => by rw [if_neg h1, if_neg h2, if_neg h3, if_neg h4, if_pos h5]) (no (by unfold ok; omega))
  refine Ev.congr (f := fun k => times_Days.j0 k y m d (decide (d > ml y m))) (fun k => by rw [if_neg h1, if_neg h2, if_neg h3, if_neg h4, if_neg h5, length_eq]; simp only [Option.bind_some]) ?_
  by_cases h6 : d > ml y m
  · rw [decide_eq_true h6]
    exact no (by unfold ok; omega)
  · have hb := ml_bd y m
    have hy := ysum_bd (y - 1970).toNat 1970
    rw [decide_eq_false h6]
    unfold days
    rw [if_pos (by unfold ok; omega)]
    refine Ev.step (f := fun k => times_Days.l0 k y m (d - 1) 1970) (fun k => ?_) ?_
    · simp only [times_Days.j0]
      rw [if_neg (by simp), wrap_eq (by omega) (by omega)]
    · exact years y m _ (by omega) (y - 1970).toNat _ _ (by omega) (by omega) (by omega) (by omega) (months y m (by omega) (m - 1).toNat _ _ (by omega) (by omega) (by omega) (by omega))

theorem doc (y m d : Int) : Ev (fun k => relayref02_Days.f k y m d) (days y m d) := by
  have no : ¬ ok y m d → Ev (fun k => relayref02_Days.j0 k y m d true) (days y m d) := fun h => by
    unfold days
    rw [if_neg h]
    exact Ev.step (f := fun _ => some (0, false)) (fun k => by simp [relayref02_Days.j0]) (Ev.now _)
  unfold relayref02_Days.f
  by_cases h1 : y < 1970
  · exact Ev.congr (fun k => by rw [if_pos h1]) (no (by unfold ok; omega))
  by_cases h2 : y > 2199
  · exact Ev.congr (fun k => by rw [if_neg h1, if_pos h2]) (no (by unfold ok; omega))
  by_cases h3 : m < 1
  · exact Ev.congr (fun k => by rw [if_neg h1, if_neg h2, if_pos h3]) (no (by unfold ok; omega))
  by_cases h4 : m > 12
  · exact Ev.congr (fun k => by rw [if_neg h1, if_neg h2, if_neg h3, if_pos h4]) (no (by unfold ok; omega))
  by_cases h5 : d < 1
  · exact Ev.congr (fun k => by rw [if_neg h1, if_neg h2, if_neg h3, if_neg h4, if_pos h5]) (no (by unfold ok; omega))
  refine Ev.congr (f := fun k => relayref02_Days.j0 k y m d (decide (d > ml y m))) (fun k => by rw [if_neg h1, if_neg h2, if_neg h3, if_neg h4, if_neg h5, length_eq']; simp only [Option.bind_some]) ?_
  by_cases h6 : d > ml y m
  · rw [decide_eq_true h6]
    exact no (by unfold ok; omega)
  · have hb := ml_bd y m
    have hm := msum_bd (m - 1).toNat y 1
    rw [decide_eq_false h6]
    unfold days
    rw [if_pos (by unfold ok; omega), show d - 1 + ysum (y - 1970).toNat 1970 + msum (m - 1).toNat y 1 = d - 1 + msum (m - 1).toNat y 1 + ysum (y - 1970).toNat 1970 by omega]
    refine Ev.step (f := fun k => relayref02_Days.l0 k y m (d - 1) 1) (fun k => ?_) ?_
    · simp only [relayref02_Days.j0]
      rw [if_neg (by simp), wrap_eq (by omega) (by omega)]
    · exact months' y m _ (by omega) (m - 1).toNat _ _ (by omega) (by omega) (by omega) (by omega) (years' y (by omega) (y - 1970).toNat _ _ (by omega) (by omega) (by omega) (by omega))

end TD

/-- ∀ (a0 : Int) (a1 : Int) (a2 : Int), (Lit.int .i64 a0).wf = true → (Lit.int .i64 a1).wf = true → (Lit.int .i64 a2).wf = true → ∃ k, relaylaw02_TimesDays.f k a0 a1 a2 = some true -/
theorem TimesDays : relaylaw02_TimesDays.Pure := by
  intro y m d _ _ _
  refine Ev.rounds (Ev.bind (TD.prog y m d) (Ev.bind (TD.doc y m d) (Ev.congr (fun _ => ?_) (Ev.now true))))
  simp

end Go.Proofs.Yteoehlcjllbhfaa.Pure
