/- TimesCivil: for every whole number the program's Civil and Week tell what the document's Civil and Week tell. No condition. -/
import Derived.Test.YteoehlcjllbhfaaPTimesCivilx2
namespace Go.Proofs.Yteoehlcjllbhfaa.Pure
open Go.RowKit Go.Proofs.Yteoehlcjllbhfaa.PTimesCivil Go.Proofs.YteoehlcjllbhfaaW.PrintWords Go.Proofs.YteoehlcjllbhfaaW.PrintLast

namespace TC

/-- Is it a leap year? -/
def lp (y : Int) : Bool := if Int.tmod y 4 = 0 then (if Int.tmod y 100 = 0 then (Int.tmod y 400 == 0) else true) else (Int.tmod y 400 == 0)
/-- A year's days. -/
def yl (y : Int) : Int := if lp y = true then 366 else 365
/-- A month's days. -/
def ml (y m : Int) : Int := if m = 2 then (if lp y = true then 29 else 28) else if m = 4 then 30 else if m = 6 then 30 else if m = 9 then 30 else if m = 11 then 30 else 31

theorem leap_eq (y : Int) : times_leap.f y = some (lp y) := by
  unfold times_leap.f lp
  split
  · split <;> rfl
  · rfl
theorem leap_eq' (y : Int) : relayref02_leap.f y = some (lp y) := by
  unfold relayref02_leap.f lp
  split
  · split <;> rfl
  · rfl
theorem year_eq (y : Int) : times_year.f y = some (yl y) := by
  unfold times_year.f yl
  rw [leap_eq]
  simp only [Option.bind_some]
  split <;> rfl
theorem length_eq (y m : Int) : times_length.f y m = some (ml y m) := by
  unfold times_length.f ml
  rw [leap_eq]
  simp only [Option.bind_some]
  repeat' split
  all_goals rfl
theorem length_eq' (y m : Int) : relayref02_length.f y m = some (ml y m) := by
  unfold relayref02_length.f ml
  rw [leap_eq']
  simp only [Option.bind_some]
  repeat' split
  all_goals rfl
theorem yl_bd (y : Int) : 365 ≤ yl y ∧ yl y ≤ 366 := by unfold yl; split <;> omega
theorem ml_bd (y m : Int) : 28 ≤ ml y m ∧ ml y m ≤ 31 := by
  unfold ml
  repeat' split
  all_goals omega
theorem wrap_eq {a : Int} (h0 : -4000000000 ≤ a) (h : a ≤ 4000000000) : wrap64 a = a := by unfold wrap64; omega

/-- Both loops over the months. -/
theorem months (y : Int) : ∀ (n : Nat) (d m : Int), d.toNat ≤ n → 0 ≤ d → 0 ≤ m → d + m ≤ 2000000000 →
    ∃ r, Ev (fun k => times_Civil.l1 k d y m) r ∧ Ev (fun k => relayref02_Civil.l1 k d y m) r := by
  intro n
  induction n with
  | zero =>
    intro d m h0 h1 h2 h3
    have hb := ml_bd y m
    refine ⟨(y, m, wrap64 (d + 1), true), Ev.step (f := fun _ => some (y, m, wrap64 (d + 1), true)) (fun k => ?_) (Ev.now _), Ev.step (f := fun _ => some (y, m, wrap64 (d + 1), true)) (fun k => ?_) (Ev.now _)⟩
    · simp only [times_Civil.l1]
      rw [length_eq]
      simp only [Option.bind_some]
      rw [if_neg (by omega)]
    · simp only [relayref02_Civil.l1]
      rw [length_eq']
      simp only [Option.bind_some]
      rw [if_neg (by omega)]
  | succ n ih =>
    intro d m h0 h1 h2 h3
    have hb := ml_bd y m
    by_cases h : d ≥ ml y m
    · obtain ⟨r, hp, hq⟩ := ih (d - ml y m) (m + 1) (by omega) (by omega) (by omega) (by omega)
      refine ⟨r, Ev.step (fun k => ?_) hp, Ev.step (fun k => ?_) hq⟩
      · simp only [times_Civil.l1]
        rw [length_eq]
        simp only [Option.bind_some]
        rw [if_pos h, wrap_eq (by omega) (by omega), wrap_eq (by omega) (by omega)]
      · simp only [relayref02_Civil.l1]
        rw [length_eq']
        simp only [Option.bind_some]
        rw [if_pos h, wrap_eq (by omega) (by omega), wrap_eq (by omega) (by omega)]
    · refine ⟨(y, m, wrap64 (d + 1), true), Ev.step (f := fun _ => some (y, m, wrap64 (d + 1), true)) (fun k => ?_) (Ev.now _), Ev.step (f := fun _ => some (y, m, wrap64 (d + 1), true)) (fun k => ?_) (Ev.now _)⟩
      · simp only [times_Civil.l1]
        rw [length_eq]
        simp only [Option.bind_some]
        rw [if_neg h]
      · simp only [relayref02_Civil.l1]
        rw [length_eq']
        simp only [Option.bind_some]
        rw [if_neg h]

/-- Both loops over the years. -/
theorem years : ∀ (n : Nat) (d y : Int), d.toNat ≤ n → 0 ≤ d → 0 ≤ y → d + y ≤ 1000000000 →
    ∃ r, Ev (fun k => times_Civil.l0 k d y 1) r ∧ Ev (fun k => relayref02_Civil.l0 k d y) r := by
  have last : ∀ (d y : Int), 0 ≤ d → d ≤ 1000000000 → ¬ d ≥ yl y → ∃ r, Ev (fun k => times_Civil.l0 k d y 1) r ∧ Ev (fun k => relayref02_Civil.l0 k d y) r := by
    intro d y h1 h2 h
    obtain ⟨r, hp, hq⟩ := months y d.toNat d 1 (by omega) (by omega) (by omega) (by omega)
    refine ⟨r, Ev.step (fun k => ?_) hp, Ev.step (f := fun k => relayref02_Civil.j2 k d y) (fun k => ?_) (Ev.step (fun k => ?_) hq)⟩
    · simp only [times_Civil.l0]
      rw [year_eq]
      simp only [Option.bind_some]
      rw [if_neg h]
    · simp only [relayref02_Civil.l0]
      rw [leap_eq']
      simp only [Option.bind_some]
      unfold yl at h
      split
      · rename_i hl
        rw [if_pos hl] at h
        rw [if_pos (by omega)]
      · rename_i hl
        rw [if_neg hl] at h
        rw [if_pos (by omega)]
    · simp only [relayref02_Civil.j2]
  intro n
  induction n with
  | zero =>
    intro d y h0 h1 h2 h3
    have hb := yl_bd y
    exact last d y h1 (by omega) (by omega)
  | succ n ih =>
    intro d y h0 h1 h2 h3
    have hb := yl_bd y
    by_cases h : d ≥ yl y
    · obtain ⟨r, hp, hq⟩ := ih (d - yl y) (y + 1) (by omega) (by omega) (by omega) (by omega)
      refine ⟨r, Ev.step (fun k => ?_) hp, Ev.step (fun k => ?_) hq⟩
      · simp only [times_Civil.l0]
        rw [year_eq]
        simp only [Option.bind_some]
        rw [if_pos h, wrap_eq (by omega) (by omega), wrap_eq (by omega) (by omega)]
      · simp only [relayref02_Civil.l0]
        rw [leap_eq']
        simp only [Option.bind_some]
        unfold yl at h hb ⊢
        split
        · rename_i hl
          rw [if_pos hl] at h
          rw [if_neg (by omega), wrap_eq (by omega) (by omega), wrap_eq (by omega) (by omega)]
        · rename_i hl
          rw [if_neg hl] at h
          rw [if_neg (by omega), wrap_eq (by omega) (by omega), wrap_eq (by omega) (by omega)]
    · exact last d y h1 (by omega) h

theorem civil (d : Int) : ∃ r, Ev (fun k => times_Civil.f k d) r ∧ Ev (fun k => relayref02_Civil.f k d) r := by
  have no : ∃ r, Ev (fun k => times_Civil.j0 k d true) r ∧ Ev (fun k => relayref02_Civil.j0 k d true) r :=
    ⟨(0, 0, 0, false), Ev.step (f := fun _ => some (0, 0, 0, false)) (fun k => by simp [times_Civil.j0]) (Ev.now _), Ev.step (f := fun _ => some (0, 0, 0, false)) (fun k => by simp [relayref02_Civil.j0]) (Ev.now _)⟩
  unfold times_Civil.f relayref02_Civil.f
  by_cases h1 : d < 0
  · obtain ⟨r, hp, hq⟩ := no
    exact ⟨r, Ev.congr (fun k => by rw [if_pos h1]) hp, Ev.congr (fun k => by rw [if_pos h1]) hq⟩
  by_cases h2 : d ≥ 84006
  · obtain ⟨r, hp, hq⟩ := no
    exact ⟨r, Ev.congr (fun k => by rw [if_neg h1, decide_eq_true h2]) hp, Ev.congr (fun k => by rw [if_neg h1, decide_eq_true (by omega)]) hq⟩
  · obtain ⟨r, hp, hq⟩ := years d.toNat d 1970 (by omega) (by omega) (by omega) (by omega)
    refine ⟨r, Ev.congr (f := fun k => times_Civil.j0 k d false) (fun k => by rw [if_neg h1, decide_eq_false h2]) (Ev.step (fun k => ?_) hp), Ev.congr (f := fun k => relayref02_Civil.j0 k d false) (fun k => by rw [if_neg h1, decide_eq_false (by omega)]) (Ev.step (fun k => ?_) hq)⟩
    · simp only [times_Civil.j0]
      rw [if_neg (by simp)]
    · simp only [relayref02_Civil.j0]
      rw [if_neg (by simp)]

theorem week (d : Int) : ∃ r, times_Week.f d = some r ∧ relayref02_Week.f d = some r := by
  have h1 : Int.tmod d 7 < 7 := Int.tmod_lt_of_pos d (by omega)
  have h2 : -7 < Int.tmod d 7 := Int.lt_tmod_of_pos d (by omega)
  unfold times_Week.f relayref02_Week.f
  generalize Int.tmod d 7 = t at h1 h2 ⊢
  have h : t = -6 ∨ t = -5 ∨ t = -4 ∨ t = -3 ∨ t = -2 ∨ t = -1 ∨ t = 0 ∨ t = 1 ∨ t = 2 ∨ t = 3 ∨ t = 4 ∨ t = 5 ∨ t = 6 := by omega
  have l1 : -7 < Int.tmod (t + 4) 7 := Int.lt_tmod_of_pos _ (by omega)
  have l2 : Int.tmod (t + 4) 7 < 7 := Int.tmod_lt_of_pos _ (by omega)
  rw [wrap_eq (a := t + 7) (by omega) (by omega), wrap_eq (a := t + 7 + 4) (by omega) (by omega), wrap_eq (a := t + 4) (by omega) (by omega), wrap_eq (a := Int.tmod (t + 4) 7 + 7) (by omega) (by omega)]
  clear h1 h2 l1 l2
  rcases h with rfl | rfl | rfl | rfl | rfl | rfl | rfl | rfl | rfl | rfl | rfl | rfl | rfl <;> exact ⟨_, rfl, by decide⟩

end TC

/-- ∀ (a0 : Int), (Lit.int .i64 a0).wf = true → ∃ k, relaylaw02_TimesCivil.f k a0 = some true -/
theorem TimesCivil : relaylaw02_TimesCivil.Pure := by
  intro d _
  obtain ⟨r, hp, hq⟩ := TC.civil d
  obtain ⟨w, wp, wq⟩ := TC.week d
  refine Ev.rounds (Ev.bind hp (Ev.bind hq (Ev.congr (fun _ => ?_) (Ev.now true))))
  rw [wp, wq]
  simp

end Go.Proofs.Yteoehlcjllbhfaa.Pure
