/- TimesDaily: the walk of the law, out of the contracts of what it calls. -/
import Derived.Test.YteoehlcjllbhfaaGreatDoorXTimesx13

namespace Go.Proofs.YteoehlcjllbhfaaGreatDoor.Daily
open Go.RowKit Go.Proofs.YteoehlcjllbhfaaGreatDoor.XTimes Go.Proofs.YteoehlcjllbhfaaGreatDoorW.PrintWords Go.Proofs.YteoehlcjllbhfaaGreatDoorW.PrintLast Go.Proofs.YteoehlcjllbhfaaGreatDoorW.PrintMore
set_option linter.unusedVariables false

set_option maxHeartbeats 2000000 in
set_option maxRecDepth 100000 in
/-- Outside: the law asks whether the number is the last one. -/
theorem outside (k : Nat) (days y m d : Int) (ok : Bool) (w : World) (hL : LaidW w) (hd : days < 0 ∨ 84005 ≤ days) (h1 : times_Civil.f k days = some (y, m, d, ok)) (h2 : relaylaw02_awake.f k = some true) (h3 : ok = (days == 84005)) :
    Calls Tryz.prog 5 #[.int .i64 days] w fun e w' => e = .returned (.bool true) ∧ Below w.heap.size w w' := by
  have H1 := Aside0.mk h1
  have H2 := Aside0.mk h2
  have HL := Aside0.mk hL
  clear h1 h2 hL
  rcases hd with hd | hd
  · have b1 : decide (days < 0) = true := decide_eq_true hd
    have b2 : (days == 84005) = false := beq_eq_false_iff_ne.mpr (by omega)
    rw [b2] at h3
    subst h3
    clear hd
    go_enter Tryz.func5, Tryz.ntmps5
    go_wp2_with (first | (go_at_call 12; refine (times_Civil.calls k days y m d false _ ?h1 H1.out).mono ?_; (case h1 => exact HL.out); rintro e w' ⟨rfl, nd, rfl⟩) | (go_at_call 9; refine (relaylaw02_awake.calls k true _ ?h2 H2.out).mono ?_; (case h2 => exact HL.out.drawn (by repeat (first | exact Drawn0.refl _ | apply Drawn0.step))); rintro e w' ⟨rfl, hb⟩))
    go_ret
    exact ⟨rfl, by first | exact hb | exact pw_below_drewN hb _ | (exact Below.trans (Drawn0.below (by repeat (first | exact Drawn0.refl _ | apply Drawn0.step))) hb)⟩
  · have b0 : decide (days < 0) = false := decide_eq_false (by omega)
    have b1 : decide (84005 ≤ days) = true := decide_eq_true hd
    subst h3
    clear hd
    go_enter Tryz.func5, Tryz.ntmps5
    go_wp2_with (first | (go_at_call 12; refine (times_Civil.calls k days y m d _ _ ?h1 H1.out).mono ?_; (case h1 => exact HL.out); rintro e w' ⟨rfl, nd, rfl⟩) | (go_at_call 9; refine (relaylaw02_awake.calls k true _ ?h2 H2.out).mono ?_; (case h2 => exact HL.out.drawn (by repeat (first | exact Drawn0.refl _ | apply Drawn0.step))); rintro e w' ⟨rfl, hb⟩))
    go_ret
    exact ⟨by simp, by first | exact hb | exact pw_below_drewN hb _ | (exact Below.trans (Drawn0.below (by repeat (first | exact Drawn0.refl _ | apply Drawn0.step))) hb)⟩
set_option maxHeartbeats 2000000 in
set_option maxRecDepth 100000 in
theorem same (k : Nat) (days y m d wk wk2 : Int) (w : World) (hL : LaidW w) (hd0 : 0 ≤ days) (hd1 : days < 84005) (y0 : 1970 ≤ y) (y1 : y ≤ 2199) (m0 : 1 ≤ m) (m1 : m ≤ 12) (d0 : 1 ≤ d) (d1 : d ≤ 31)
    (h1 : times_Civil.f k days = some (y, m, d, true)) (h2 : times_Days.f k y m d = some (days, true)) (h3 : times_Civil.f k (days + 1) = some (y, m, d + 1, true)) (h4 : times_Week.f days = some wk) (h5 : times_Week.f (days + 1) = some wk2) (k0 : 0 ≤ wk) (k1 : wk ≤ 6) (h6 : wk2 = (wk + 1) % 7) :
    Calls Tryz.prog 5 #[.int .i64 days] w fun e w' => e = .returned (.bool true) ∧ Below w.heap.size w w' := by
  have H1 := Aside0.mk h1
  have H2 := Aside0.mk h2
  have H3 := Aside0.mk h3
  have H4 := Aside0.mk h4
  have H5 := Aside0.mk h5
  have HL := Aside0.mk hL
  clear h1 h2 h3 h4 h5 hL
  subst h6
  have b0 : decide (days < 0) = false := decide_eq_false (by omega)
  have b1 : decide (84005 ≤ days) = false := decide_eq_false (by omega)

  go_enter Tryz.func5, Tryz.ntmps5
  go_wp2_with (first
    | (go_at_call 12; (with_reducible refine (times_Civil.calls k days y m d true _ ?h1 H1.out).mono ?_); (case h1 => exact HL.out.drawn (by repeat (first | exact Drawn0.refl _ | apply Drawn0.step))); rintro e w' ⟨rfl, nd, rfl⟩)
    | (go_at_call 11; (with_reducible refine (times_Days.calls k y m d days true _ ?h2 H2.out).mono ?_); (case h2 => exact HL.out.drawn (by repeat (first | exact Drawn0.refl _ | apply Drawn0.step))); rintro e w' ⟨rfl, nd', rfl⟩)
    | (go_at_call 12; (with_reducible refine (times_Civil.calls k (days + 1) y m (d + 1) true _ ?h3 H3.out).mono ?_); (case h3 => exact HL.out.drawn (by repeat (first | exact Drawn0.refl _ | apply Drawn0.step))); rintro e w' ⟨rfl, nd'', rfl⟩)
    | (go_at_call 13; (with_reducible refine (times_Week.calls (days + 1) _ _ ?h4 H5.out).mono ?_); (case h4 => exact HL.out.drawn (by repeat (first | exact Drawn0.refl _ | apply Drawn0.step))); rintro e w' ⟨rfl, n1, rfl⟩)
    | (go_at_call 13; (with_reducible refine (times_Week.calls days wk _ ?h5 H4.out).mono ?_); (case h5 => exact HL.out.drawn (by repeat (first | exact Drawn0.refl _ | apply Drawn0.step))); rintro e w' ⟨rfl, n2, rfl⟩))
  go_ret
  exact ⟨by first | rfl | simp, Drawn0.below (by repeat (first | exact Drawn0.refl _ | apply Drawn0.step))⟩
set_option maxHeartbeats 2000000 in
set_option maxRecDepth 100000 in
theorem month (k : Nat) (days y m d wk wk2 : Int) (w : World) (hL : LaidW w) (hd0 : 0 ≤ days) (hd1 : days < 84005) (y0 : 1970 ≤ y) (y1 : y ≤ 2199) (m0 : 1 ≤ m) (m1 : m ≤ 12) (d0 : 1 ≤ d) (d1 : d ≤ 31)
    (h1 : times_Civil.f k days = some (y, m, d, true)) (h2 : times_Days.f k y m d = some (days, true)) (h3 : times_Civil.f k (days + 1) = some (y, m + 1, 1, true)) (h4 : times_Week.f days = some wk) (h5 : times_Week.f (days + 1) = some wk2) (k0 : 0 ≤ wk) (k1 : wk ≤ 6) (h6 : wk2 = (wk + 1) % 7) :
    Calls Tryz.prog 5 #[.int .i64 days] w fun e w' => e = .returned (.bool true) ∧ Below w.heap.size w w' := by
  have H1 := Aside0.mk h1
  have H2 := Aside0.mk h2
  have H3 := Aside0.mk h3
  have H4 := Aside0.mk h4
  have H5 := Aside0.mk h5
  have HL := Aside0.mk hL
  clear h1 h2 h3 h4 h5 hL
  subst h6
  have b0 : decide (days < 0) = false := decide_eq_false (by omega)
  have b1 : decide (84005 ≤ days) = false := decide_eq_false (by omega)
  have c1 : (m + 1 == m) = false := beq_eq_false_iff_ne.mpr (by omega)
  go_enter Tryz.func5, Tryz.ntmps5
  go_wp2_with (first
    | (go_at_call 12; (with_reducible refine (times_Civil.calls k days y m d true _ ?h1 H1.out).mono ?_); (case h1 => exact HL.out.drawn (by repeat (first | exact Drawn0.refl _ | apply Drawn0.step))); rintro e w' ⟨rfl, nd, rfl⟩)
    | (go_at_call 11; (with_reducible refine (times_Days.calls k y m d days true _ ?h2 H2.out).mono ?_); (case h2 => exact HL.out.drawn (by repeat (first | exact Drawn0.refl _ | apply Drawn0.step))); rintro e w' ⟨rfl, nd', rfl⟩)
    | (go_at_call 12; (with_reducible refine (times_Civil.calls k (days + 1) y (m + 1) 1 true _ ?h3 H3.out).mono ?_); (case h3 => exact HL.out.drawn (by repeat (first | exact Drawn0.refl _ | apply Drawn0.step))); rintro e w' ⟨rfl, nd'', rfl⟩)
    | (go_at_call 13; (with_reducible refine (times_Week.calls (days + 1) _ _ ?h4 H5.out).mono ?_); (case h4 => exact HL.out.drawn (by repeat (first | exact Drawn0.refl _ | apply Drawn0.step))); rintro e w' ⟨rfl, n1, rfl⟩)
    | (go_at_call 13; (with_reducible refine (times_Week.calls days wk _ ?h5 H4.out).mono ?_); (case h5 => exact HL.out.drawn (by repeat (first | exact Drawn0.refl _ | apply Drawn0.step))); rintro e w' ⟨rfl, n2, rfl⟩))
  go_ret
  exact ⟨by first | rfl | simp, Drawn0.below (by repeat (first | exact Drawn0.refl _ | apply Drawn0.step))⟩
set_option maxHeartbeats 2000000 in
set_option maxRecDepth 100000 in
theorem year (k : Nat) (days y d wk wk2 : Int) (w : World) (hL : LaidW w) (hd0 : 0 ≤ days) (hd1 : days < 84005) (y0 : 1970 ≤ y) (y1 : y ≤ 2199) (d0 : 1 ≤ d) (d1 : d ≤ 31)
    (h1 : times_Civil.f k days = some (y, 12, d, true)) (h2 : times_Days.f k y 12 d = some (days, true)) (h3 : times_Civil.f k (days + 1) = some (y + 1, 1, 1, true)) (h4 : times_Week.f days = some wk) (h5 : times_Week.f (days + 1) = some wk2) (k0 : 0 ≤ wk) (k1 : wk ≤ 6) (h6 : wk2 = (wk + 1) % 7) :
    Calls Tryz.prog 5 #[.int .i64 days] w fun e w' => e = .returned (.bool true) ∧ Below w.heap.size w w' := by
  have H1 := Aside0.mk h1
  have H2 := Aside0.mk h2
  have H3 := Aside0.mk h3
  have H4 := Aside0.mk h4
  have H5 := Aside0.mk h5
  have HL := Aside0.mk hL
  clear h1 h2 h3 h4 h5 hL
  subst h6
  have b0 : decide (days < 0) = false := decide_eq_false (by omega)
  have b1 : decide (84005 ≤ days) = false := decide_eq_false (by omega)
  have c1 : (y + 1 == y) = false := beq_eq_false_iff_ne.mpr (by omega)
  go_enter Tryz.func5, Tryz.ntmps5
  go_wp2_with (first
    | (go_at_call 12; (with_reducible refine (times_Civil.calls k days y 12 d true _ ?h1 H1.out).mono ?_); (case h1 => exact HL.out.drawn (by repeat (first | exact Drawn0.refl _ | apply Drawn0.step))); rintro e w' ⟨rfl, nd, rfl⟩)
    | (go_at_call 11; (with_reducible refine (times_Days.calls k y 12 d days true _ ?h2 H2.out).mono ?_); (case h2 => exact HL.out.drawn (by repeat (first | exact Drawn0.refl _ | apply Drawn0.step))); rintro e w' ⟨rfl, nd', rfl⟩)
    | (go_at_call 12; (with_reducible refine (times_Civil.calls k (days + 1) (y + 1) 1 1 true _ ?h3 H3.out).mono ?_); (case h3 => exact HL.out.drawn (by repeat (first | exact Drawn0.refl _ | apply Drawn0.step))); rintro e w' ⟨rfl, nd'', rfl⟩)
    | (go_at_call 13; (with_reducible refine (times_Week.calls (days + 1) _ _ ?h4 H5.out).mono ?_); (case h4 => exact HL.out.drawn (by repeat (first | exact Drawn0.refl _ | apply Drawn0.step))); rintro e w' ⟨rfl, n1, rfl⟩)
    | (go_at_call 13; (with_reducible refine (times_Week.calls days wk _ ?h5 H4.out).mono ?_); (case h5 => exact HL.out.drawn (by repeat (first | exact Drawn0.refl _ | apply Drawn0.step))); rintro e w' ⟨rfl, n2, rfl⟩))
  go_ret
  exact ⟨by first | rfl | simp, Drawn0.below (by repeat (first | exact Drawn0.refl _ | apply Drawn0.step))⟩
end Go.Proofs.YteoehlcjllbhfaaGreatDoor.Daily
