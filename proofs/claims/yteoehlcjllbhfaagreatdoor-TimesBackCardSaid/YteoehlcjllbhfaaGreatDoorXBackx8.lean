-- WRITTEN BY wip/tools/xprint.py out of the translation: the kit's print with this work's hooks.
import Derived.Test.YteoehlcjllbhfaaGreatDoorXBackx0
import Derived.Test.YteoehlcjllbhfaaGreatDoorXBackx2
import Derived.Test.YteoehlcjllbhfaaGreatDoorXBackx7
namespace Go.Proofs.YteoehlcjllbhfaaGreatDoor.XBack
open Go.RowKit Go.Proofs.YteoehlcjllbhfaaGreatDoorW.PrintWords Go.Proofs.YteoehlcjllbhfaaGreatDoorW.PrintLast Go.Proofs.YteoehlcjllbhfaaGreatDoorW.PrintMore
attribute [local go_sem] max2_int min2_int max_two min_two max_three min_three max_four min_four   -- for this text's walks alone
set_option linter.unusedVariables false
set_option linter.unusedSimpArgs false

/-! ### times_clock: function 20 -/
mutual
def times_clock.j0 : Nat → ByteArray → Bool → Option (Int × Bool)
  | 0, _, _ => none
  | k + 1, x0, x30 => if x30 = true then (some (0, false)) else ((times_two.f k x0).bind fun bt164 => (if 3 ≤ (x0.size : Int) then ((times_two.f k (x0.extract 3 x0.size)).bind fun bt167 => (if 6 ≤ (x0.size : Int) then ((times_two.f k (x0.extract 6 x0.size)).bind fun bt170 => (if bt164.2.2 = true then (if bt167.2.2 = true then (if bt170.2.2 = true then (if bt164.1 > 23 then (times_clock.j1 k bt164.1 bt167.1 bt170.1 bt170.2.1 true) else (if bt167.1 > 59 then (times_clock.j1 k bt164.1 bt167.1 bt170.1 bt170.2.1 true) else (times_clock.j1 k bt164.1 bt167.1 bt170.1 bt170.2.1 (decide (bt170.1 > 59))))) else (times_clock.j1 k bt164.1 bt167.1 bt170.1 bt170.2.1 true)) else (times_clock.j1 k bt164.1 bt167.1 bt170.1 bt170.2.1 true)) else (times_clock.j1 k bt164.1 bt167.1 bt170.1 bt170.2.1 true))) else (none))) else (none)))
def times_clock.j1 : Nat → Int → Int → Int → ByteArray → Bool → Option (Int × Bool)
  | 0, _, _, _, _, _ => none
  | k + 1, x4, x7, x10, x11, x72 => if x72 = true then (some (0, false)) else (if x11.toList = ([] : List UInt8) then (some (wrap64 ((wrap64 ((wrap64 (x4 * 3600000000000)) + (wrap64 (x7 * 60000000000)))) + (wrap64 (x10 * 1000000000))), true)) else (if 1 ≤ (x11.size : Int) then ((times_digits.f k (x11.extract 1 x11.size)).bind fun bt173 => (if 0 < (x11.size : Int) then (if (bt x11 0) = 46 then (if bt173.1.toList = ([] : List UInt8) then (some (0, false)) else (if (bt173.1.size : Int) > 9 then (some (0, false)) else (if bt173.2.toList = ([] : List UInt8) then ((times_fraction.f bt173.1 1000000000).bind fun bt175 => (some (wrap64 ((wrap64 ((wrap64 ((wrap64 (x4 * 3600000000000)) + (wrap64 (x7 * 60000000000)))) + (wrap64 (x10 * 1000000000)))) + bt175.1), bt175.2))) else (some (0, false))))) else (some (0, false))) else (none))) else (none)))
end
def times_clock.f (k : Nat) (a0 : ByteArray) : Option (Int × Bool) := if (a0.size : Int) < 8 then (times_clock.j0 k a0 true) else (if 2 < (a0.size : Int) then (if (bt a0 2) = 58 then (if 5 < (a0.size : Int) then (times_clock.j0 k a0 ((bt a0 5) != 58)) else (none)) else (times_clock.j0 k a0 true)) else (none))
theorem times_clock.mono_l : ∀ k, (∀ y0 y1, LeO (times_clock.j0 k y0 y1) (times_clock.j0 (k + 1) y0 y1)) ∧ (∀ y0 y1 y2 y3 y4, LeO (times_clock.j1 k y0 y1 y2 y3 y4) (times_clock.j1 (k + 1) y0 y1 y2 y3 y4))
  | 0 => ⟨fun _ _ r h => by simp [times_clock.j0] at h, fun _ _ _ _ _ r h => by simp [times_clock.j1] at h⟩
  | k + 1 => by
    obtain ⟨ih0, ih1⟩ := times_clock.mono_l k
    refine ⟨?_, ?_⟩
    · intro y0 y1
      unfold times_clock.j0
      repeat' first
      | (with_reducible exact ih0 _ _)
      | (with_reducible exact ih1 _ _ _ _ _)
      | (with_reducible exact times_digits.mono _ _)
      | (with_reducible exact times_two.mono _ _)
      | (with_reducible exact LeO.refl _)
      | (with_reducible exact LeO.none _)
      | (with_reducible refine LeO.ite ?_ ?_)
      | (with_reducible refine LeO.bind ?_ (fun _ => ?_))
      | exact ih0 _ _
      | exact ih1 _ _ _ _ _
      | exact times_digits.mono _ _
      | exact times_two.mono _ _
      | exact LeO.none _
      | refine LeO.ite ?_ ?_
      | refine LeO.bind ?_ (fun _ => ?_)
    · intro y0 y1 y2 y3 y4
      unfold times_clock.j1
      repeat' first
      | (with_reducible exact ih0 _ _)
      | (with_reducible exact ih1 _ _ _ _ _)
      | (with_reducible exact times_digits.mono _ _)
      | (with_reducible exact times_two.mono _ _)
      | (with_reducible exact LeO.refl _)
      | (with_reducible exact LeO.none _)
      | (with_reducible refine LeO.ite ?_ ?_)
      | (with_reducible refine LeO.bind ?_ (fun _ => ?_))
      | exact ih0 _ _
      | exact ih1 _ _ _ _ _
      | exact times_digits.mono _ _
      | exact times_two.mono _ _
      | exact LeO.none _
      | refine LeO.ite ?_ ?_
      | refine LeO.bind ?_ (fun _ => ?_)
theorem times_clock.mono : ∀ a0 k, LeO (times_clock.f k a0) (times_clock.f (k + 1) a0) := by
  intro a0 k
  obtain ⟨ih0, ih1⟩ := times_clock.mono_l k
  unfold times_clock.f
  repeat' first
      | (with_reducible exact ih0 _ _)
      | (with_reducible exact ih1 _ _ _ _ _)
      | (with_reducible exact times_digits.mono _ _)
      | (with_reducible exact times_two.mono _ _)
      | (with_reducible exact LeO.refl _)
      | (with_reducible exact LeO.none _)
      | (with_reducible refine LeO.ite ?_ ?_)
      | (with_reducible refine LeO.bind ?_ (fun _ => ?_))
      | exact ih0 _ _
      | exact ih1 _ _ _ _ _
      | exact times_digits.mono _ _
      | exact times_two.mono _ _
      | exact LeO.none _
      | refine LeO.ite ?_ ?_
      | refine LeO.bind ?_ (fun _ => ?_)
set_option maxHeartbeats 8000000 in
set_option maxRecDepth 100000 in
theorem times_clock.calls (k : Nat) (a0 : ByteArray) (r1 : Int) (r2 : Bool) (w : World) (hL : LaidW w) (h : times_clock.f k a0 = some (r1, r2)) :
    Calls Tryz.prog 20 #[.string a0] w fun e w' => e = .returned (.tuple #[.int .i64 r1, .bool r2]) ∧ Below w.heap.size w w' := by
  have HLaid := Aside0.mk hL
  clear hL
  have HB := Aside0.mk (Below.refl w.heap.size w)
  have H : (if (a0.size : Int) < 8 then (times_clock.j0 k a0 true) else (if 2 < (a0.size : Int) then (if (bt a0 2) = 58 then (if 5 < (a0.size : Int) then (times_clock.j0 k a0 ((bt a0 5) != 58)) else (none)) else (times_clock.j0 k a0 true)) else (none))) = some (r1, r2) := h
  clear h
  have HC2 := Aside0.mk H
  clear H
  go_enter Tryz.func20, Tryz.ntmps20
  go_upto_region 1 with (fail)
  go_cut [30] (fun v30 wc => ∃ (kq : Nat) (x30_1 : Bool), v30 = .bool x30_1 ∧ Aside0 (times_clock.j0 kq a0 x30_1 = some (r1, r2)) ∧ Aside0 (kq ≤ k) ∧ Aside0 (Below w.heap.size w wc))
  case first =>
    have H := HC2.out
    clear HC2
    by_cases c3 : (a0.size : Int) < 8
    · rw [if_pos c3] at H
      have c3b0 : decide ((a0.size : Int) < 8) = true := decide_eq_true c3
      have c3b1 : decide (a0.size < 8) = true := decide_eq_true (by omega)
      clear c3
      (first | rw [c3b0] | (simp only [i64_w, i32_w]; rw [c3b0]) | skip)
      have H' := Aside0.mk H
      clear H
      go_wp2
      go_meet
      case rel => exact ⟨_, (true), (by first | rfl | (simp; done) | (simp [*]; done) | (simp [*, bne]; done)), H', ⟨by first | omega | exact Nat.le_refl _⟩, ⟨by repeat (first | (with_reducible first | exact HB.out | apply below_alloc | apply pw_below_drewN | apply below_drew1) | exact HB.out)⟩⟩
    · rw [if_neg c3] at H
      have c3b0 : decide ((a0.size : Int) < 8) = false := decide_eq_false c3
      have c3b1 : decide (a0.size < 8) = false := decide_eq_false (by omega)
      clear c3
      (first | rw [c3b0] | (simp only [i64_w, i32_w]; rw [c3b0]) | skip)
      by_cases c4 : 2 < (a0.size : Int)
      · rw [if_pos c4] at H
        have c4b0 : decide (2 < (a0.size : Int)) = true := decide_eq_true c4
        have c4b1 : decide (2 < a0.size) = true := decide_eq_true (by omega)
        clear c4
        by_cases c6 : (bt a0 2) = 58
        · rw [if_pos c6] at H
          have c6b0 : ((bt a0 2) == 58) = true := beq_iff_eq.mpr c6
          have c6b1 : ((bt a0 2) != 58) = false := bne_eq_false_iff_eq.mpr c6
          clear c6
          by_cases c7 : 5 < (a0.size : Int)
          · rw [if_pos c7] at H
            have c7b0 : decide (5 < (a0.size : Int)) = true := decide_eq_true c7
            have c7b1 : decide (5 < a0.size) = true := decide_eq_true (by omega)
            clear c7
            have H' := Aside0.mk H
            clear H
            have p5 : 0 ≤ (2 : Int) := (by omega)
            have q5 : 2 < a0.size := (by have : (2 : Int) < (a0.size : Int) := of_decide_eq_true (by first | (with_reducible assumption) | assumption); omega)
            have hx5 : ∀ h : 2 < a0.size, ((a0[2]'h).toNat : Int) = bt a0 2 := bt_at a0 2
            clear p5
            have qi5 : (2 < (a0.size : Int)) = True := eq_true (of_decide_eq_true (by first | (with_reducible assumption) | assumption))
            replace q5 := eq_true q5
            have p8 : 0 ≤ (5 : Int) := (by omega)
            have q8 : 5 < a0.size := (by have : (5 : Int) < (a0.size : Int) := of_decide_eq_true (by first | (with_reducible assumption) | assumption); omega)
            have hx8 : ∀ h : 5 < a0.size, ((a0[5]'h).toNat : Int) = bt a0 5 := bt_at a0 5
            clear p8
            have qi8 : (5 < (a0.size : Int)) = True := eq_true (of_decide_eq_true (by first | (with_reducible assumption) | assumption))
            replace q8 := eq_true q8
            go_wp2
            go_meet
            case rel => exact ⟨_, (((bt a0 5) != 58)), (by first | rfl | (simp; done) | (simp [*]; done) | (simp [*, bne]; done)), H', ⟨by first | omega | exact Nat.le_refl _⟩, ⟨by repeat (first | (with_reducible first | exact HB.out | apply below_alloc | apply pw_below_drewN | apply below_drew1) | exact HB.out)⟩⟩
          · rw [if_neg c7] at H
            exact absurd H (by simp)
        · rw [if_neg c6] at H
          have c6b0 : ((bt a0 2) == 58) = false := beq_eq_false_iff_ne.mpr c6
          have c6b1 : ((bt a0 2) != 58) = true := bne_iff_ne.mpr c6
          have H' := Aside0.mk H
          clear H
          have p5 : 0 ≤ (2 : Int) := (by omega)
          have q5 : 2 < a0.size := (by have : (2 : Int) < (a0.size : Int) := of_decide_eq_true (by first | (with_reducible assumption) | assumption); omega)
          have hx5 : ∀ h : 2 < a0.size, ((a0[2]'h).toNat : Int) = bt a0 2 := bt_at a0 2
          clear p5
          have qi5 : (2 < (a0.size : Int)) = True := eq_true (of_decide_eq_true (by first | (with_reducible assumption) | assumption))
          replace q5 := eq_true q5
          go_wp2
          go_meet
          case rel => exact ⟨_, (true), (by first | rfl | (simp; done) | (simp [*]; done) | (simp [*, bne]; done)), H', ⟨by first | omega | exact Nat.le_refl _⟩, ⟨by repeat (first | (with_reducible first | exact HB.out | apply below_alloc | apply pw_below_drewN | apply below_drew1) | exact HB.out)⟩⟩
      · rw [if_neg c4] at H
        exact absurd H (by simp)
  case rest =>
    clear HC2
    try clear c2
    try clear p2
    try clear c3
    try clear c3b0
    try clear c3b1
    try clear c4
    try clear c4b0
    try clear c4b1
    try clear p5
    try clear q5
    try clear hx5
    try clear qi5
    try clear c6
    try clear c6b0
    try clear c6b1
    try clear c7
    try clear c7b0
    try clear c7b1
    try clear p8
    try clear q8
    try clear hx8
    try clear qi8
    try clear p5
    try clear p8
    try clear q5
    try clear q8
    obtain ⟨kq, x30_1, rfl, HA, HJ1, HB⟩ := hcut
    cases kq with
    | zero => exact absurd HA.out (by simp [times_clock.j0])
    | succ kj1 =>
      have H := HA.out
      clear HA
      simp only [times_clock.j0] at H
      by_cases c9 : x30_1 = true
      · subst c9
        have H1 : (some (0, false)) = some (r1, r2) := by rw [if_pos rfl] at H; exact H
        clear H
        have H := H1
        clear H1
        simp only [Option.some.injEq, Prod.mk.injEq] at H
        obtain ⟨rfl, rfl⟩ := H
        go_wp2
        go_ret2
        exact ⟨by first | rfl | (simp [errW_none, errW_some] <;> rfl) | (simp [*, errW_none, errW_some] <;> rfl), by repeat (first | (with_reducible first | exact HB.out | apply below_alloc | apply pw_below_drewN | apply below_drew1) | exact HB.out)⟩
      · replace c9 := Bool.eq_false_iff.mpr c9
        subst c9
        have H1 : ((times_two.f kj1 a0).bind fun bt164 => (if 3 ≤ (a0.size : Int) then ((times_two.f kj1 (a0.extract 3 a0.size)).bind fun bt167 => (if 6 ≤ (a0.size : Int) then ((times_two.f kj1 (a0.extract 6 a0.size)).bind fun bt170 => (if bt164.2.2 = true then (if bt167.2.2 = true then (if bt170.2.2 = true then (if bt164.1 > 23 then (times_clock.j1 kj1 bt164.1 bt167.1 bt170.1 bt170.2.1 true) else (if bt167.1 > 59 then (times_clock.j1 kj1 bt164.1 bt167.1 bt170.1 bt170.2.1 true) else (times_clock.j1 kj1 bt164.1 bt167.1 bt170.1 bt170.2.1 (decide (bt170.1 > 59))))) else (times_clock.j1 kj1 bt164.1 bt167.1 bt170.1 bt170.2.1 true)) else (times_clock.j1 kj1 bt164.1 bt167.1 bt170.1 bt170.2.1 true)) else (times_clock.j1 kj1 bt164.1 bt167.1 bt170.1 bt170.2.1 true))) else (none))) else (none))) = some (r1, r2) := by rw [if_neg (show ¬ (false = true) by decide)] at H; exact H
        clear H
        have H := H1
        clear H1
        replace H := Option.bind_eq_some_iff.mp H
        obtain ⟨⟨t164, t165, t166⟩, A100, H⟩ := H
        replace H : (if 3 ≤ (a0.size : Int) then ((times_two.f kj1 (a0.extract 3 a0.size)).bind fun bt167 => (if 6 ≤ (a0.size : Int) then ((times_two.f kj1 (a0.extract 6 a0.size)).bind fun bt170 => (if t166 = true then (if bt167.2.2 = true then (if bt170.2.2 = true then (if t164 > 23 then (times_clock.j1 kj1 t164 bt167.1 bt170.1 bt170.2.1 true) else (if bt167.1 > 59 then (times_clock.j1 kj1 t164 bt167.1 bt170.1 bt170.2.1 true) else (times_clock.j1 kj1 t164 bt167.1 bt170.1 bt170.2.1 (decide (bt170.1 > 59))))) else (times_clock.j1 kj1 t164 bt167.1 bt170.1 bt170.2.1 true)) else (times_clock.j1 kj1 t164 bt167.1 bt170.1 bt170.2.1 true)) else (times_clock.j1 kj1 t164 bt167.1 bt170.1 bt170.2.1 true))) else (none))) else (none)) = some (r1, r2) := H
        have A10 := Aside0.mk A100
        clear A100
        by_cases c11 : 3 ≤ (a0.size : Int)
        · rw [if_pos c11] at H
          have c11b0 := eq_true c11
          have c11b1 : decide (3 ≤ (a0.size : Int)) = true := decide_eq_true c11
          clear c11
          replace H := Option.bind_eq_some_iff.mp H
          obtain ⟨⟨t167, t168, t169⟩, A120, H⟩ := H
          replace H : (if 6 ≤ (a0.size : Int) then ((times_two.f kj1 (a0.extract 6 a0.size)).bind fun bt170 => (if t166 = true then (if t169 = true then (if bt170.2.2 = true then (if t164 > 23 then (times_clock.j1 kj1 t164 t167 bt170.1 bt170.2.1 true) else (if t167 > 59 then (times_clock.j1 kj1 t164 t167 bt170.1 bt170.2.1 true) else (times_clock.j1 kj1 t164 t167 bt170.1 bt170.2.1 (decide (bt170.1 > 59))))) else (times_clock.j1 kj1 t164 t167 bt170.1 bt170.2.1 true)) else (times_clock.j1 kj1 t164 t167 bt170.1 bt170.2.1 true)) else (times_clock.j1 kj1 t164 t167 bt170.1 bt170.2.1 true))) else (none)) = some (r1, r2) := H
          have A12 := Aside0.mk A120
          clear A120
          by_cases c13 : 6 ≤ (a0.size : Int)
          · rw [if_pos c13] at H
            have c13b0 := eq_true c13
            have c13b1 : decide (6 ≤ (a0.size : Int)) = true := decide_eq_true c13
            clear c13
            replace H := Option.bind_eq_some_iff.mp H
            obtain ⟨⟨t170, t171, t172⟩, A140, H⟩ := H
            replace H : (if t166 = true then (if t169 = true then (if t172 = true then (if t164 > 23 then (times_clock.j1 kj1 t164 t167 t170 t171 true) else (if t167 > 59 then (times_clock.j1 kj1 t164 t167 t170 t171 true) else (times_clock.j1 kj1 t164 t167 t170 t171 (decide (t170 > 59))))) else (times_clock.j1 kj1 t164 t167 t170 t171 true)) else (times_clock.j1 kj1 t164 t167 t170 t171 true)) else (times_clock.j1 kj1 t164 t167 t170 t171 true)) = some (r1, r2) := H
            have A14 := Aside0.mk A140
            clear A140
            have HC15 := Aside0.mk H
            clear H
            go_upto_region 6 with (first | ((with_reducible refine gate_callee (f := 39) rfl ?_); refine goesL_ (some 33) rfl rfl Tryz.func39 (by kernel_rfl) rfl #[.string a0] rfl (by (try simp only [List.map_toArray, List.map_cons, List.map_nil]); first | done | rfl | (simp only [List.length_drop, List.length_take]; rfl)) ?_; (with_reducible refine (times_two.calls kj1 a0 t164 t165 t166 _ ?side1 A10.out).mono ?_); (case side1 => first | exact HLaid.out | (refine LaidW.below HLaid.out ?_; repeat (first | (with_reducible first | exact HB.out | apply below_alloc | apply pw_below_drewN | apply below_drew1) | exact HB.out))); rintro e w16 ⟨rfl, hb⟩; refine ⟨_, rfl, ?_⟩; have n0_ := Aside0.mk (below_step (by repeat (first | (with_reducible first | exact HB.out | apply below_alloc | apply pw_below_drewN | apply below_drew1) | exact HB.out)) hb); clear HB; have HB := n0_; clear n0_; (try clear hb); (try clear hb2); (try clear hk); (try clear hi)) | ((with_reducible refine gate_callee (f := 39) rfl ?_); refine goesL_ (some 40) rfl rfl Tryz.func39 (by kernel_rfl) rfl #[.string (a0.extract 3 a0.size)] rfl (by (try simp only [List.map_toArray, List.map_cons, List.map_nil]); first | done | rfl | (simp only [List.length_drop, List.length_take]; rfl)) ?_; (with_reducible refine (times_two.calls kj1 (a0.extract 3 a0.size) t167 t168 t169 _ ?side1 A12.out).mono ?_); (case side1 => first | exact HLaid.out | (refine LaidW.below HLaid.out ?_; repeat (first | (with_reducible first | exact HB.out | apply below_alloc | apply pw_below_drewN | apply below_drew1) | exact HB.out))); rintro e w17 ⟨rfl, hb⟩; refine ⟨_, rfl, ?_⟩; have n0_ := Aside0.mk (below_step (by repeat (first | (with_reducible first | exact HB.out | apply below_alloc | apply pw_below_drewN | apply below_drew1) | exact HB.out)) hb); clear HB; have HB := n0_; clear n0_; (try clear hb); (try clear hb2); (try clear hk); (try clear hi)) | ((with_reducible refine gate_callee (f := 39) rfl ?_); refine goesL_ (some 47) rfl rfl Tryz.func39 (by kernel_rfl) rfl #[.string (a0.extract 6 a0.size)] rfl (by (try simp only [List.map_toArray, List.map_cons, List.map_nil]); first | done | rfl | (simp only [List.length_drop, List.length_take]; rfl)) ?_; (with_reducible refine (times_two.calls kj1 (a0.extract 6 a0.size) t170 t171 t172 _ ?side1 A14.out).mono ?_); (case side1 => first | exact HLaid.out | (refine LaidW.below HLaid.out ?_; repeat (first | (with_reducible first | exact HB.out | apply below_alloc | apply pw_below_drewN | apply below_drew1) | exact HB.out))); rintro e w18 ⟨rfl, hb⟩; refine ⟨_, rfl, ?_⟩; have n0_ := Aside0.mk (below_step (by repeat (first | (with_reducible first | exact HB.out | apply below_alloc | apply pw_below_drewN | apply below_drew1) | exact HB.out)) hb); clear HB; have HB := n0_; clear n0_; (try clear hb); (try clear hb2); (try clear hk); (try clear hi)))
            (try simp only [Act.put, List.setIfInBounds_toArray, List.set_cons_zero, List.set_cons_succ])
            go_cut [72] (fun v72 wc => ∃ (kq : Nat) (x72_14 : Bool), v72 = .bool x72_14 ∧ Aside0 (times_clock.j1 kq t164 t167 t170 t171 x72_14 = some (r1, r2)) ∧ Aside0 (kq ≤ kj1) ∧ Aside0 (Below w.heap.size w wc))
            case first =>
              have H := HC15.out
              clear HC15
              by_cases c19 : t166 = true
              · subst c19
                have H1 : (if t169 = true then (if t172 = true then (if t164 > 23 then (times_clock.j1 kj1 t164 t167 t170 t171 true) else (if t167 > 59 then (times_clock.j1 kj1 t164 t167 t170 t171 true) else (times_clock.j1 kj1 t164 t167 t170 t171 (decide (t170 > 59))))) else (times_clock.j1 kj1 t164 t167 t170 t171 true)) else (times_clock.j1 kj1 t164 t167 t170 t171 true)) = some (r1, r2) := by rw [if_pos rfl] at H; exact H
                clear H
                have H := H1
                clear H1
                by_cases c20 : t169 = true
                · subst c20
                  have H1 : (if t172 = true then (if t164 > 23 then (times_clock.j1 kj1 t164 t167 t170 t171 true) else (if t167 > 59 then (times_clock.j1 kj1 t164 t167 t170 t171 true) else (times_clock.j1 kj1 t164 t167 t170 t171 (decide (t170 > 59))))) else (times_clock.j1 kj1 t164 t167 t170 t171 true)) = some (r1, r2) := by rw [if_pos rfl] at H; exact H
                  clear H
                  have H := H1
                  clear H1
                  by_cases c21 : t172 = true
                  · subst c21
                    have H1 : (if t164 > 23 then (times_clock.j1 kj1 t164 t167 t170 t171 true) else (if t167 > 59 then (times_clock.j1 kj1 t164 t167 t170 t171 true) else (times_clock.j1 kj1 t164 t167 t170 t171 (decide (t170 > 59))))) = some (r1, r2) := by rw [if_pos rfl] at H; exact H
                    clear H
                    have H := H1
                    clear H1
                    by_cases c22 : t164 > 23
                    · rw [if_pos c22] at H
                      have c22b0 : decide (23 < t164) = true := decide_eq_true c22
                      clear c22
                      (first | rw [c22b0] | (simp only [i64_w, i32_w]; rw [c22b0]) | skip)
                      have H' := Aside0.mk H
                      clear H
                      go_wp2
                      go_meet
                      case rel => exact ⟨_, (true), (by first | rfl | (simp; done) | (simp [*]; done) | (simp [*, bne]; done)), H', ⟨by have := HJ1.out; first | omega | exact Nat.le_refl _⟩, ⟨by repeat (first | (with_reducible first | exact HB.out | apply below_alloc | apply pw_below_drewN | apply below_drew1) | exact HB.out)⟩⟩
                    · rw [if_neg c22] at H
                      have c22b0 : decide (23 < t164) = false := decide_eq_false c22
                      clear c22
                      (first | rw [c22b0] | (simp only [i64_w, i32_w]; rw [c22b0]) | skip)
                      by_cases c23 : t167 > 59
                      · rw [if_pos c23] at H
                        have c23b0 : decide (59 < t167) = true := decide_eq_true c23
                        clear c23
                        have H' := Aside0.mk H
                        clear H
                        go_wp2
                        go_meet
                        case rel => exact ⟨_, (true), (by first | rfl | (simp; done) | (simp [*]; done) | (simp [*, bne]; done)), H', ⟨by have := HJ1.out; first | omega | exact Nat.le_refl _⟩, ⟨by repeat (first | (with_reducible first | exact HB.out | apply below_alloc | apply pw_below_drewN | apply below_drew1) | exact HB.out)⟩⟩
                      · rw [if_neg c23] at H
                        have c23b0 : decide (59 < t167) = false := decide_eq_false c23
                        clear c23
                        have H' := Aside0.mk H
                        clear H
                        go_wp2
                        go_meet
                        case rel => exact ⟨_, (decide (t170 > 59)), (by first | rfl | (simp; done) | (simp [*]; done) | (simp [*, bne]; done)), H', ⟨by have := HJ1.out; first | omega | exact Nat.le_refl _⟩, ⟨by repeat (first | (with_reducible first | exact HB.out | apply below_alloc | apply pw_below_drewN | apply below_drew1) | exact HB.out)⟩⟩
                  · replace c21 := Bool.eq_false_iff.mpr c21
                    subst c21
                    have H1 : (times_clock.j1 kj1 t164 t167 t170 t171 true) = some (r1, r2) := by rw [if_neg (show ¬ (false = true) by decide)] at H; exact H
                    clear H
                    have H := H1
                    clear H1
                    have H' := Aside0.mk H
                    clear H
                    go_wp2
                    go_meet
                    case rel => exact ⟨_, (true), (by first | rfl | (simp; done) | (simp [*]; done) | (simp [*, bne]; done)), H', ⟨by have := HJ1.out; first | omega | exact Nat.le_refl _⟩, ⟨by repeat (first | (with_reducible first | exact HB.out | apply below_alloc | apply pw_below_drewN | apply below_drew1) | exact HB.out)⟩⟩
                · replace c20 := Bool.eq_false_iff.mpr c20
                  subst c20
                  have H1 : (times_clock.j1 kj1 t164 t167 t170 t171 true) = some (r1, r2) := by rw [if_neg (show ¬ (false = true) by decide)] at H; exact H
                  clear H
                  have H := H1
                  clear H1
                  have H' := Aside0.mk H
                  clear H
                  go_wp2
                  go_meet
                  case rel => exact ⟨_, (true), (by first | rfl | (simp; done) | (simp [*]; done) | (simp [*, bne]; done)), H', ⟨by have := HJ1.out; first | omega | exact Nat.le_refl _⟩, ⟨by repeat (first | (with_reducible first | exact HB.out | apply below_alloc | apply pw_below_drewN | apply below_drew1) | exact HB.out)⟩⟩
              · replace c19 := Bool.eq_false_iff.mpr c19
                subst c19
                have H1 : (times_clock.j1 kj1 t164 t167 t170 t171 true) = some (r1, r2) := by rw [if_neg (show ¬ (false = true) by decide)] at H; exact H
                clear H
                have H := H1
                clear H1
                have H' := Aside0.mk H
                clear H
                go_wp2
                go_meet
                case rel => exact ⟨_, (true), (by first | rfl | (simp; done) | (simp [*]; done) | (simp [*, bne]; done)), H', ⟨by have := HJ1.out; first | omega | exact Nat.le_refl _⟩, ⟨by repeat (first | (with_reducible first | exact HB.out | apply below_alloc | apply pw_below_drewN | apply below_drew1) | exact HB.out)⟩⟩
            case rest =>
              clear HC15
              try clear c1
              try clear c2
              try clear p2
              try clear c3
              try clear c3b0
              try clear c3b1
              try clear c4
              try clear c4b0
              try clear c4b1
              try clear p5
              try clear q5
              try clear hx5
              try clear qi5
              try clear c6
              try clear c6b0
              try clear c6b1
              try clear c7
              try clear c7b0
              try clear c7b1
              try clear p8
              try clear q8
              try clear hx8
              try clear qi8
              try clear c9
              try clear c11
              try clear c11b0
              try clear c11b1
              try clear c13
              try clear c13b0
              try clear c13b1
              try clear c19
              try clear c20
              try clear c21
              try clear c22
              try clear c22b0
              try clear c23
              try clear c23b0
              try clear p2
              try clear p5
              try clear p8
              try clear q5
              try clear q8
              obtain ⟨kq, x72_14, rfl, HA, HJ14, HB⟩ := hcut
              cases kq with
              | zero => exact absurd HA.out (by simp [times_clock.j1])
              | succ kj14 =>
                have H := HA.out
                clear HA
                simp only [times_clock.j1] at H
                by_cases c24 : x72_14 = true
                · subst c24
                  have H1 : (some (0, false)) = some (r1, r2) := by rw [if_pos rfl] at H; exact H
                  clear H
                  have H := H1
                  clear H1
                  simp only [Option.some.injEq, Prod.mk.injEq] at H
                  obtain ⟨rfl, rfl⟩ := H
                  go_wp2
                  go_ret2
                  exact ⟨by first | rfl | (simp [errW_none, errW_some] <;> rfl) | (simp [*, errW_none, errW_some] <;> rfl), by repeat (first | (with_reducible first | exact HB.out | apply below_alloc | apply pw_below_drewN | apply below_drew1) | exact HB.out)⟩
                · replace c24 := Bool.eq_false_iff.mpr c24
                  subst c24
                  have H1 : (if t171.toList = ([] : List UInt8) then (some (wrap64 ((wrap64 ((wrap64 (t164 * 3600000000000)) + (wrap64 (t167 * 60000000000)))) + (wrap64 (t170 * 1000000000))), true)) else (if 1 ≤ (t171.size : Int) then ((times_digits.f kj14 (t171.extract 1 t171.size)).bind fun bt173 => (if 0 < (t171.size : Int) then (if (bt t171 0) = 46 then (if bt173.1.toList = ([] : List UInt8) then (some (0, false)) else (if (bt173.1.size : Int) > 9 then (some (0, false)) else (if bt173.2.toList = ([] : List UInt8) then ((times_fraction.f bt173.1 1000000000).bind fun bt175 => (some (wrap64 ((wrap64 ((wrap64 ((wrap64 (t164 * 3600000000000)) + (wrap64 (t167 * 60000000000)))) + (wrap64 (t170 * 1000000000)))) + bt175.1), bt175.2))) else (some (0, false))))) else (some (0, false))) else (none))) else (none))) = some (r1, r2) := by rw [if_neg (show ¬ (false = true) by decide)] at H; exact H
                  clear H
                  have H := H1
                  clear H1
                  by_cases c25 : t171.toList = ([] : List UInt8)
                  · rw [if_pos c25] at H
                    have c25b0 : (t171.toList == ([] : List UInt8)) = true := beq_iff_eq.mpr c25
                    have c25b1 : (t171.toList != ([] : List UInt8)) = false := bne_eq_false_iff_eq.mpr c25
                    clear c25
                    simp only [Option.some.injEq, Prod.mk.injEq] at H
                    obtain ⟨rfl, rfl⟩ := H
                    go_wp2
                    go_ret2
                    exact ⟨by first | rfl | (simp [errW_none, errW_some] <;> rfl) | (simp [*, errW_none, errW_some] <;> rfl), by repeat (first | (with_reducible first | exact HB.out | apply below_alloc | apply pw_below_drewN | apply below_drew1) | exact HB.out)⟩
                  · rw [if_neg c25] at H
                    have c25b0 : (t171.toList == ([] : List UInt8)) = false := beq_eq_false_iff_ne.mpr c25
                    have c25b1 : (t171.toList != ([] : List UInt8)) = true := bne_iff_ne.mpr c25
                    by_cases c26 : 1 ≤ (t171.size : Int)
                    · rw [if_pos c26] at H
                      have c26b0 := eq_true c26
                      have c26b1 : decide (1 ≤ (t171.size : Int)) = true := decide_eq_true c26
                      clear c26
                      replace H := Option.bind_eq_some_iff.mp H
                      obtain ⟨⟨t173, t174⟩, A270, H⟩ := H
                      replace H : (if 0 < (t171.size : Int) then (if (bt t171 0) = 46 then (if t173.toList = ([] : List UInt8) then (some (0, false)) else (if (t173.size : Int) > 9 then (some (0, false)) else (if t174.toList = ([] : List UInt8) then ((times_fraction.f t173 1000000000).bind fun bt175 => (some (wrap64 ((wrap64 ((wrap64 ((wrap64 (t164 * 3600000000000)) + (wrap64 (t167 * 60000000000)))) + (wrap64 (t170 * 1000000000)))) + bt175.1), bt175.2))) else (some (0, false))))) else (some (0, false))) else (none)) = some (r1, r2) := H
                      have A27 := Aside0.mk A270
                      clear A270
                      by_cases c28 : 0 < (t171.size : Int)
                      · rw [if_pos c28] at H
                        have c28b0 : decide (0 < (t171.size : Int)) = true := decide_eq_true c28
                        have c28b1 : decide (0 < t171.size) = true := decide_eq_true (by omega)
                        clear c28
                        by_cases c30 : (bt t171 0) = 46
                        · rw [if_pos c30] at H
                          have c30b0 : ((bt t171 0) == 46) = true := beq_iff_eq.mpr c30
                          have c30b1 : ((bt t171 0) != 46) = false := bne_eq_false_iff_eq.mpr c30
                          clear c30
                          by_cases c31 : t173.toList = ([] : List UInt8)
                          · rw [if_pos c31] at H
                            have c31b0 : (t173.toList == ([] : List UInt8)) = true := beq_iff_eq.mpr c31
                            have c31b1 : (t173.toList != ([] : List UInt8)) = false := bne_eq_false_iff_eq.mpr c31
                            clear c31
                            simp only [Option.some.injEq, Prod.mk.injEq] at H
                            obtain ⟨rfl, rfl⟩ := H
                            go_wp2_with (first | ((with_reducible refine gate_callee (f := 34) rfl ?_); refine goesL_ (some 87) rfl rfl Tryz.func34 (by kernel_rfl) rfl #[.string (t171.extract 1 t171.size)] rfl (by (try simp only [List.map_toArray, List.map_cons, List.map_nil]); first | done | rfl | (simp only [List.length_drop, List.length_take]; rfl)) ?_; (with_reducible refine (times_digits.calls kj14 (t171.extract 1 t171.size) t173 t174 _ ?side1 A27.out).mono ?_); (case side1 => first | exact HLaid.out | (refine LaidW.below HLaid.out ?_; repeat (first | (with_reducible first | exact HB.out | apply below_alloc | apply pw_below_drewN | apply below_drew1) | exact HB.out))); rintro e w' ⟨rfl, ⟨nd, rfl⟩⟩; refine ⟨_, rfl, ?_⟩; have p29 : 0 ≤ (0 : Int) := (by omega); have q29 : 0 < t171.size := (by have : (0 : Int) < (t171.size : Int) := of_decide_eq_true (by first | (with_reducible assumption) | assumption); omega); have hx29 : ∀ h : 0 < t171.size, ((t171[0]'h).toNat : Int) = bt t171 0 := bt_at t171 0; clear p29; have qi29 : (0 < (t171.size : Int)) = True := eq_true (of_decide_eq_true (by first | (with_reducible assumption) | assumption)); replace q29 := eq_true q29))
                            go_ret2
                            exact ⟨by first | rfl | (simp [errW_none, errW_some] <;> rfl) | (simp [*, errW_none, errW_some] <;> rfl), by repeat (first | (with_reducible first | exact HB.out | apply below_alloc | apply pw_below_drewN | apply below_drew1) | exact HB.out)⟩
                          · rw [if_neg c31] at H
                            have c31b0 : (t173.toList == ([] : List UInt8)) = false := beq_eq_false_iff_ne.mpr c31
                            have c31b1 : (t173.toList != ([] : List UInt8)) = true := bne_iff_ne.mpr c31
                            by_cases c32 : (t173.size : Int) > 9
                            · rw [if_pos c32] at H
                              have c32b0 : decide (9 < (t173.size : Int)) = true := decide_eq_true c32
                              have c32b1 : decide (9 < t173.size) = true := decide_eq_true (by omega)
                              clear c32
                              simp only [Option.some.injEq, Prod.mk.injEq] at H
                              obtain ⟨rfl, rfl⟩ := H
                              go_wp2_with (first | ((with_reducible refine gate_callee (f := 34) rfl ?_); refine goesL_ (some 87) rfl rfl Tryz.func34 (by kernel_rfl) rfl #[.string (t171.extract 1 t171.size)] rfl (by (try simp only [List.map_toArray, List.map_cons, List.map_nil]); first | done | rfl | (simp only [List.length_drop, List.length_take]; rfl)) ?_; (with_reducible refine (times_digits.calls kj14 (t171.extract 1 t171.size) t173 t174 _ ?side1 A27.out).mono ?_); (case side1 => first | exact HLaid.out | (refine LaidW.below HLaid.out ?_; repeat (first | (with_reducible first | exact HB.out | apply below_alloc | apply pw_below_drewN | apply below_drew1) | exact HB.out))); rintro e w' ⟨rfl, ⟨nd, rfl⟩⟩; refine ⟨_, rfl, ?_⟩; have p29 : 0 ≤ (0 : Int) := (by omega); have q29 : 0 < t171.size := (by have : (0 : Int) < (t171.size : Int) := of_decide_eq_true (by first | (with_reducible assumption) | assumption); omega); have hx29 : ∀ h : 0 < t171.size, ((t171[0]'h).toNat : Int) = bt t171 0 := bt_at t171 0; clear p29; have qi29 : (0 < (t171.size : Int)) = True := eq_true (of_decide_eq_true (by first | (with_reducible assumption) | assumption)); replace q29 := eq_true q29))
                              go_ret2
                              exact ⟨by first | rfl | (simp [errW_none, errW_some] <;> rfl) | (simp [*, errW_none, errW_some] <;> rfl), by repeat (first | (with_reducible first | exact HB.out | apply below_alloc | apply pw_below_drewN | apply below_drew1) | exact HB.out)⟩
                            · rw [if_neg c32] at H
                              have c32b0 : decide (9 < (t173.size : Int)) = false := decide_eq_false c32
                              have c32b1 : decide (9 < t173.size) = false := decide_eq_false (by omega)
                              clear c32
                              by_cases c33 : t174.toList = ([] : List UInt8)
                              · rw [if_pos c33] at H
                                have c33b0 : (t174.toList == ([] : List UInt8)) = true := beq_iff_eq.mpr c33
                                have c33b1 : (t174.toList != ([] : List UInt8)) = false := bne_eq_false_iff_eq.mpr c33
                                clear c33
                                replace H := Option.bind_eq_some_iff.mp H
                                obtain ⟨⟨t175, t176⟩, A340, H⟩ := H
                                replace H : (some (wrap64 ((wrap64 ((wrap64 ((wrap64 (t164 * 3600000000000)) + (wrap64 (t167 * 60000000000)))) + (wrap64 (t170 * 1000000000)))) + t175), t176)) = some (r1, r2) := H
                                have A34 := Aside0.mk A340
                                clear A340
                                simp only [Option.some.injEq, Prod.mk.injEq] at H
                                obtain ⟨rfl, rfl⟩ := H
                                go_wp2_with (first | ((with_reducible refine gate_callee (f := 34) rfl ?_); refine goesL_ (some 87) rfl rfl Tryz.func34 (by kernel_rfl) rfl #[.string (t171.extract 1 t171.size)] rfl (by (try simp only [List.map_toArray, List.map_cons, List.map_nil]); first | done | rfl | (simp only [List.length_drop, List.length_take]; rfl)) ?_; (with_reducible refine (times_digits.calls kj14 (t171.extract 1 t171.size) t173 t174 _ ?side1 A27.out).mono ?_); (case side1 => first | exact HLaid.out | (refine LaidW.below HLaid.out ?_; repeat (first | (with_reducible first | exact HB.out | apply below_alloc | apply pw_below_drewN | apply below_drew1) | exact HB.out))); rintro e w' ⟨rfl, ⟨nd, rfl⟩⟩; refine ⟨_, rfl, ?_⟩; have p29 : 0 ≤ (0 : Int) := (by omega); have q29 : 0 < t171.size := (by have : (0 : Int) < (t171.size : Int) := of_decide_eq_true (by first | (with_reducible assumption) | assumption); omega); have hx29 : ∀ h : 0 < t171.size, ((t171[0]'h).toNat : Int) = bt t171 0 := bt_at t171 0; clear p29; have qi29 : (0 < (t171.size : Int)) = True := eq_true (of_decide_eq_true (by first | (with_reducible assumption) | assumption)); replace q29 := eq_true q29) | ((with_reducible refine gate_callee (f := 40) rfl ?_); refine goesL_ (some 108) rfl rfl Tryz.func40 (by kernel_rfl) rfl #[.string t173, .int .i64 1000000000] rfl (by (try simp only [List.map_toArray, List.map_cons, List.map_nil]); first | done | rfl | (simp only [List.length_drop, List.length_take]; rfl)) ?_; (with_reducible refine (times_fraction.calls t173 1000000000 t175 t176 _ ?side1 A34.out).mono ?_); (case side1 => first | exact HLaid.out | (refine LaidW.below HLaid.out ?_; repeat (first | (with_reducible first | exact HB.out | apply below_alloc | apply pw_below_drewN | apply below_drew1) | exact HB.out))); rintro e w35 ⟨rfl, hb⟩; refine ⟨_, rfl, ?_⟩; have n0_ := Aside0.mk (below_step (by repeat (first | (with_reducible first | exact HB.out | apply below_alloc | apply pw_below_drewN | apply below_drew1) | exact HB.out)) hb); clear HB; have HB := n0_; clear n0_; (try clear hb); (try clear hb2); (try clear hk); (try clear hi)))
                                go_ret2
                                exact ⟨by first | rfl | (simp [errW_none, errW_some] <;> rfl) | (simp [*, errW_none, errW_some] <;> rfl), by repeat (first | (with_reducible first | exact HB.out | apply below_alloc | apply pw_below_drewN | apply below_drew1) | exact HB.out)⟩
                              · rw [if_neg c33] at H
                                have c33b0 : (t174.toList == ([] : List UInt8)) = false := beq_eq_false_iff_ne.mpr c33
                                have c33b1 : (t174.toList != ([] : List UInt8)) = true := bne_iff_ne.mpr c33
                                simp only [Option.some.injEq, Prod.mk.injEq] at H
                                obtain ⟨rfl, rfl⟩ := H
                                go_wp2_with (first | ((with_reducible refine gate_callee (f := 34) rfl ?_); refine goesL_ (some 87) rfl rfl Tryz.func34 (by kernel_rfl) rfl #[.string (t171.extract 1 t171.size)] rfl (by (try simp only [List.map_toArray, List.map_cons, List.map_nil]); first | done | rfl | (simp only [List.length_drop, List.length_take]; rfl)) ?_; (with_reducible refine (times_digits.calls kj14 (t171.extract 1 t171.size) t173 t174 _ ?side1 A27.out).mono ?_); (case side1 => first | exact HLaid.out | (refine LaidW.below HLaid.out ?_; repeat (first | (with_reducible first | exact HB.out | apply below_alloc | apply pw_below_drewN | apply below_drew1) | exact HB.out))); rintro e w' ⟨rfl, ⟨nd, rfl⟩⟩; refine ⟨_, rfl, ?_⟩; have p29 : 0 ≤ (0 : Int) := (by omega); have q29 : 0 < t171.size := (by have : (0 : Int) < (t171.size : Int) := of_decide_eq_true (by first | (with_reducible assumption) | assumption); omega); have hx29 : ∀ h : 0 < t171.size, ((t171[0]'h).toNat : Int) = bt t171 0 := bt_at t171 0; clear p29; have qi29 : (0 < (t171.size : Int)) = True := eq_true (of_decide_eq_true (by first | (with_reducible assumption) | assumption)); replace q29 := eq_true q29))
                                go_ret2
                                exact ⟨by first | rfl | (simp [errW_none, errW_some] <;> rfl) | (simp [*, errW_none, errW_some] <;> rfl), by repeat (first | (with_reducible first | exact HB.out | apply below_alloc | apply pw_below_drewN | apply below_drew1) | exact HB.out)⟩
                        · rw [if_neg c30] at H
                          have c30b0 : ((bt t171 0) == 46) = false := beq_eq_false_iff_ne.mpr c30
                          have c30b1 : ((bt t171 0) != 46) = true := bne_iff_ne.mpr c30
                          simp only [Option.some.injEq, Prod.mk.injEq] at H
                          obtain ⟨rfl, rfl⟩ := H
                          go_wp2_with (first | ((with_reducible refine gate_callee (f := 34) rfl ?_); refine goesL_ (some 87) rfl rfl Tryz.func34 (by kernel_rfl) rfl #[.string (t171.extract 1 t171.size)] rfl (by (try simp only [List.map_toArray, List.map_cons, List.map_nil]); first | done | rfl | (simp only [List.length_drop, List.length_take]; rfl)) ?_; (with_reducible refine (times_digits.calls kj14 (t171.extract 1 t171.size) t173 t174 _ ?side1 A27.out).mono ?_); (case side1 => first | exact HLaid.out | (refine LaidW.below HLaid.out ?_; repeat (first | (with_reducible first | exact HB.out | apply below_alloc | apply pw_below_drewN | apply below_drew1) | exact HB.out))); rintro e w' ⟨rfl, ⟨nd, rfl⟩⟩; refine ⟨_, rfl, ?_⟩; have p29 : 0 ≤ (0 : Int) := (by omega); have q29 : 0 < t171.size := (by have : (0 : Int) < (t171.size : Int) := of_decide_eq_true (by first | (with_reducible assumption) | assumption); omega); have hx29 : ∀ h : 0 < t171.size, ((t171[0]'h).toNat : Int) = bt t171 0 := bt_at t171 0; clear p29; have qi29 : (0 < (t171.size : Int)) = True := eq_true (of_decide_eq_true (by first | (with_reducible assumption) | assumption)); replace q29 := eq_true q29))
                          go_ret2
                          exact ⟨by first | rfl | (simp [errW_none, errW_some] <;> rfl) | (simp [*, errW_none, errW_some] <;> rfl), by repeat (first | (with_reducible first | exact HB.out | apply below_alloc | apply pw_below_drewN | apply below_drew1) | exact HB.out)⟩
                      · rw [if_neg c28] at H
                        exact absurd H (by simp)
                    · rw [if_neg c26] at H
                      exact absurd H (by simp)
          · rw [if_neg c13] at H
            exact absurd H (by simp)
        · rw [if_neg c11] at H
          exact absurd H (by simp)

end Go.Proofs.YteoehlcjllbhfaaGreatDoor.XBack
