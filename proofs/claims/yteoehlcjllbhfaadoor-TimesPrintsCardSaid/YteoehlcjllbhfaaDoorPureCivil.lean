/- TimesPrints: dates: the program's Civil and the document's tell the same. (This text: of the Lean functions alone.) -/
import Derived.Test.YteoehlcjllbhfaaDoorXPrintsx10
import Derived.Test.YteoehlcjllbhfaaDoorXPrintsx4
namespace Go.Proofs.YteoehlcjllbhfaaDoor.PureCivil
open Go.RowKit Go.Proofs.YteoehlcjllbhfaaDoor.XPrints Go.Proofs.YteoehlcjllbhfaaDoorW.PrintWords Go.Proofs.YteoehlcjllbhfaaDoorW.PrintLast
set_option linter.unusedVariables false
set_option linter.unusedSimpArgs false

/-- Is it a leap year? -/
def lp (y : Int) : Bool := if Int.tmod y 4 = 0 then (if Int.tmod y 100 = 0 then (Int.tmod y 400 == 0) else true) else (Int.tmod y 400 == 0)
/-- A year's days. -/
def yl (y : Int) : Int := if lp y = true then 366 else 365
/-- A month's days. -/
def ml (y m : Int) : Int := if m = 2 then (if lp y = true then 29 else 28) else if m = 4 then 30 else if m = 6 then 30 else if m = 9 then 30 else if m = 11 then 30 else 31

theorem leap_eq (y : Int) : times_leap.f y = some (lp y) := by
  unfold times_leap.f lp
  split
  · split <;> rfl
  · rfl
theorem leap_eq' (y : Int) : relayref02_leap.f y = some (lp y) := by
  unfold relayref02_leap.f lp
  split
  · split <;> rfl
  · rfl
theorem year_eq (y : Int) : times_year.f y = some (yl y) := by
  unfold times_year.f yl
  rw [leap_eq]
  simp only [Option.bind_some]
  split <;> rfl
theorem length_eq (y m : Int) : times_length.f y m = some (ml y m) := by
  unfold times_length.f ml
  rw [leap_eq]
  simp only [Option.bind_some]
  repeat' split
  all_goals rfl
theorem length_eq' (y m : Int) : relayref02_length.f y m = some (ml y m) := by
  unfold relayref02_length.f ml
  rw [leap_eq']
  simp only [Option.bind_some]
  repeat' split
  all_goals rfl
theorem yl_bd (y : Int) : 365 ≤ yl y ∧ yl y ≤ 366 := by unfold yl; split <;> omega
theorem ml_bd (y m : Int) : 28 ≤ ml y m ∧ ml y m ≤ 31 := by
  unfold ml
  repeat' split
  all_goals omega
theorem wrap_eq {a : Int} (h0 : -4000000000 ≤ a) (h : a ≤ 4000000000) : wrap64 a = a := by unfold wrap64; omega

/-- Numbers that are no surprise. -/
def good (r : Int × Int × Int × Bool) : Prop := (0 ≤ r.1 ∧ r.1 ≤ 4000000000) ∧ (0 ≤ r.2.1 ∧ r.2.1 ≤ 4000000000) ∧ (0 ≤ r.2.2.1 ∧ r.2.2.1 ≤ 4000000000)
theorem months (y : Int) (hy : 0 ≤ y ∧ y ≤ 3000000000) : ∀ (n : Nat) (d m : Int), d.toNat ≤ n → 0 ≤ d → 0 ≤ m → d + m ≤ 2000000000 →
    ∃ r, Ev (fun k => times_Civil.l1 k d y m) r ∧ Ev (fun k => relayref02_Civil.l1 k d y m) r ∧ good r := by
  intro n
  induction n with
  | zero =>
    intro d m h0 h1 h2 h3
    have hb := ml_bd y m
    refine ⟨(y, m, wrap64 (d + 1), true), Ev.step (f := fun _ => some (y, m, wrap64 (d + 1), true)) (fun k => ?_) (Ev.now _), Ev.step (f := fun _ => some (y, m, wrap64 (d + 1), true)) (fun k => ?_) (Ev.now _), by simp only [good, wrap_eq (a := d + 1) (by omega) (by omega)]; omega⟩
    · simp only [times_Civil.l1]
      rw [length_eq]
      simp only [Option.bind_some]
      rw [if_neg (by omega)]
    · simp only [relayref02_Civil.l1]
      rw [length_eq']
      simp only [Option.bind_some]
      rw [if_neg (by omega)]
  | succ n ih =>
    intro d m h0 h1 h2 h3
    have hb := ml_bd y m
    by_cases h : d ≥ ml y m
    · obtain ⟨r, hp, hq, hg⟩ := ih (d - ml y m) (m + 1) (by omega) (by omega) (by omega) (by omega)
      refine ⟨r, Ev.step (fun k => ?_) hp, Ev.step (fun k => ?_) hq, hg⟩
      · simp only [times_Civil.l1]
        rw [length_eq]
        simp only [Option.bind_some]
        rw [if_pos h, wrap_eq (by omega) (by omega), wrap_eq (by omega) (by omega)]
      · simp only [relayref02_Civil.l1]
        rw [length_eq']
        simp only [Option.bind_some]
        rw [if_pos h, wrap_eq (by omega) (by omega), wrap_eq (by omega) (by omega)]
    · refine ⟨(y, m, wrap64 (d + 1), true), Ev.step (f := fun _ => some (y, m, wrap64 (d + 1), true)) (fun k => ?_) (Ev.now _), Ev.step (f := fun _ => some (y, m, wrap64 (d + 1), true)) (fun k => ?_) (Ev.now _), by simp only [good, wrap_eq (a := d + 1) (by omega) (by omega)]; omega⟩
      · simp only [times_Civil.l1]
        rw [length_eq]
        simp only [Option.bind_some]
        rw [if_neg h]
      · simp only [relayref02_Civil.l1]
        rw [length_eq']
        simp only [Option.bind_some]
        rw [if_neg h]

/-- Both loops over the years. -/
theorem years : ∀ (n : Nat) (d y : Int), d.toNat ≤ n → 0 ≤ d → 0 ≤ y → d + y ≤ 1000000000 →
    ∃ r, Ev (fun k => times_Civil.l0 k d y 1) r ∧ Ev (fun k => relayref02_Civil.l0 k d y) r ∧ good r := by
  have last : ∀ (d y : Int), 0 ≤ d → d ≤ 1000000000 → 0 ≤ y ∧ y ≤ 3000000000 → ¬ d ≥ yl y → ∃ r, Ev (fun k => times_Civil.l0 k d y 1) r ∧ Ev (fun k => relayref02_Civil.l0 k d y) r ∧ good r := by
    intro d y h1 h2 hy h
    obtain ⟨r, hp, hq, hg⟩ := months y (by omega) d.toNat d 1 (by omega) (by omega) (by omega) (by omega)
    refine ⟨r, Ev.step (fun k => ?_) hp, Ev.step (f := fun k => relayref02_Civil.j2 k d y) (fun k => ?_) (Ev.step (fun k => ?_) hq), hg⟩
    · simp only [times_Civil.l0]
      rw [year_eq]
      simp only [Option.bind_some]
      rw [if_neg h]
    · simp only [relayref02_Civil.l0]
      rw [leap_eq']
      simp only [Option.bind_some]
      unfold yl at h
      split
      · rename_i hl
        rw [if_pos hl] at h
        rw [if_pos (by omega)]
      · rename_i hl
        rw [if_neg hl] at h
        rw [if_pos (by omega)]
    · simp only [relayref02_Civil.j2]
  intro n
  induction n with
  | zero =>
    intro d y h0 h1 h2 h3
    have hb := yl_bd y
    exact last d y h1 (by omega) (by omega) (by omega)
  | succ n ih =>
    intro d y h0 h1 h2 h3
    have hb := yl_bd y
    by_cases h : d ≥ yl y
    · obtain ⟨r, hp, hq, hg⟩ := ih (d - yl y) (y + 1) (by omega) (by omega) (by omega) (by omega)
      refine ⟨r, Ev.step (fun k => ?_) hp, Ev.step (fun k => ?_) hq, hg⟩
      · simp only [times_Civil.l0]
        rw [year_eq]
        simp only [Option.bind_some]
        rw [if_pos h, wrap_eq (by omega) (by omega), wrap_eq (by omega) (by omega)]
      · simp only [relayref02_Civil.l0]
        rw [leap_eq']
        simp only [Option.bind_some]
        unfold yl at h hb ⊢
        split
        · rename_i hl
          rw [if_pos hl] at h
          rw [if_neg (by omega), wrap_eq (by omega) (by omega), wrap_eq (by omega) (by omega)]
        · rename_i hl
          rw [if_neg hl] at h
          rw [if_neg (by omega), wrap_eq (by omega) (by omega), wrap_eq (by omega) (by omega)]
    · exact last d y h1 (by omega) (by omega) h

theorem civil (d : Int) : ∃ r, Ev (fun k => times_Civil.f k d) r ∧ Ev (fun k => relayref02_Civil.f k d) r ∧ good r := by
  have no : ∃ r, Ev (fun k => times_Civil.j0 k d true) r ∧ Ev (fun k => relayref02_Civil.j0 k d true) r ∧ good r :=
    ⟨(0, 0, 0, false), Ev.step (f := fun _ => some (0, 0, 0, false)) (fun k => by simp [times_Civil.j0]) (Ev.now _), Ev.step (f := fun _ => some (0, 0, 0, false)) (fun k => by simp [relayref02_Civil.j0]) (Ev.now _), by simp [good]⟩
  unfold times_Civil.f relayref02_Civil.f
  by_cases h1 : d < 0
  · obtain ⟨r, hp, hq, hg⟩ := no
    exact ⟨r, Ev.congr (fun k => by rw [if_pos h1]) hp, Ev.congr (fun k => by rw [if_pos h1]) hq, hg⟩
  by_cases h2 : d ≥ 84006
  · obtain ⟨r, hp, hq, hg⟩ := no
    exact ⟨r, Ev.congr (fun k => by rw [if_neg h1, decide_eq_true h2]) hp, Ev.congr (fun k => by rw [if_neg h1, decide_eq_true (by omega)]) hq, hg⟩
  · obtain ⟨r, hp, hq, hg⟩ := years d.toNat d 1970 (by omega) (by omega) (by omega) (by omega)
    refine ⟨r, Ev.congr (f := fun k => times_Civil.j0 k d false) (fun k => by rw [if_neg h1, decide_eq_false h2]) (Ev.step (fun k => ?_) hp), Ev.congr (f := fun k => relayref02_Civil.j0 k d false) (fun k => by rw [if_neg h1, decide_eq_false (by omega)]) (Ev.step (fun k => ?_) hq), hg⟩
    · simp only [times_Civil.j0]
      rw [if_neg (by simp)]
    · simp only [relayref02_Civil.j0]
      rw [if_neg (by simp)]

end Go.Proofs.YteoehlcjllbhfaaDoor.PureCivil
