-- WRITTEN BY wip/tools/xprint.py out of the translation: the kit's print with this work's hooks.
import Derived.Test.YteoehlcjllbhfaaGreatDoorXBackx0
import Derived.Test.YteoehlcjllbhfaaGreatDoorXBackx9
namespace Go.Proofs.YteoehlcjllbhfaaGreatDoor.XBack
open Go.RowKit Go.Proofs.YteoehlcjllbhfaaGreatDoorW.PrintWords Go.Proofs.YteoehlcjllbhfaaGreatDoorW.PrintLast Go.Proofs.YteoehlcjllbhfaaGreatDoorW.PrintMore
attribute [local go_sem] max2_int min2_int max_two min_two max_three min_three max_four min_four   -- for this text's walks alone
set_option linter.unusedVariables false
set_option linter.unusedSimpArgs false

/-! ### value_fits: function 45 -/
def value_fits.j0 : Nat → Int → Int → Bool → Option (Bool)
  | 0, _, _, _ => none
  | k + 1, x0, x1, x36 => if x36 = true then ((value_most.f k x0).bind fun t184 => (some (decide (x1 ≤ t184)))) else (if x0 = 14 then (some true) else (if x0 = 15 then (if x1 < 7258118400000000000 then (some ((Int.tmod x1 86400000000000) == 0)) else (some false)) else (if x0 = 16 then (some (decide (x1 < 86400000000000))) else (if x0 = 17 then (some (decide (x1 < 7258118400000000000))) else (some false)))))
def value_fits.f (k : Nat) (a0 : Int) (a1 : Int) : Option (Bool) := if a0 = 1 then (some (decide (a1 ≤ 1))) else ((value_signed.f a0).bind fun t178 => (if t178 = true then ((value_width.f k a0).bind fun t179 => (if 0 ≤ (IntKind.u64.wrap (t179 - 1)) then (if (wrap64 (a1)) ≥ (wrap64 (-(shl .i64 1 (IntKind.u64.wrap (t179 - 1))))) then (if (wrap64 (a1)) ≤ (wrap64 ((shl .i64 1 (IntKind.u64.wrap (t179 - 1))) - 1)) then (some true) else ((value_width.f k a0).bind fun t180 => (some (t180 == 64)))) else ((value_width.f k a0).bind fun t181 => (some (t181 == 64)))) else (none))) else ((value_unsigned.f a0).bind fun t182 => (if t182 = true then (value_fits.j0 k a0 a1 true) else ((value_row.f a0).bind fun t183 => (value_fits.j0 k a0 a1 t183))))))
theorem value_fits.mono_l : ∀ k, (∀ y0 y1 y2, LeO (value_fits.j0 k y0 y1 y2) (value_fits.j0 (k + 1) y0 y1 y2))
  | 0 => fun _ _ _ r h => by simp [value_fits.j0] at h
  | k + 1 => by
    have ih0 := value_fits.mono_l k
    · intro y0 y1 y2
      unfold value_fits.j0
      repeat' first
      | (with_reducible exact ih0 _ _ _)
      | (with_reducible exact value_most.mono _ _)
      | (with_reducible exact value_width.mono _ _)
      | (with_reducible exact LeO.refl _)
      | (with_reducible exact LeO.none _)
      | (with_reducible refine LeO.ite ?_ ?_)
      | (with_reducible refine LeO.bind ?_ (fun _ => ?_))
      | exact ih0 _ _ _
      | exact value_most.mono _ _
      | exact value_width.mono _ _
      | exact LeO.none _
      | refine LeO.ite ?_ ?_
      | refine LeO.bind ?_ (fun _ => ?_)
theorem value_fits.mono : ∀ a0 a1 k, LeO (value_fits.f k a0 a1) (value_fits.f (k + 1) a0 a1) := by
  intro a0 a1 k
  have ih0 := value_fits.mono_l k
  unfold value_fits.f
  repeat' first
      | (with_reducible exact ih0 _ _ _)
      | (with_reducible exact value_most.mono _ _)
      | (with_reducible exact value_width.mono _ _)
      | (with_reducible exact LeO.refl _)
      | (with_reducible exact LeO.none _)
      | (with_reducible refine LeO.ite ?_ ?_)
      | (with_reducible refine LeO.bind ?_ (fun _ => ?_))
      | exact ih0 _ _ _
      | exact value_most.mono _ _
      | exact value_width.mono _ _
      | exact LeO.none _
      | refine LeO.ite ?_ ?_
      | refine LeO.bind ?_ (fun _ => ?_)
set_option maxHeartbeats 8000000 in
set_option maxRecDepth 100000 in
theorem value_fits.calls (k : Nat) (a0 : Int) (a1 : Int) (r : Bool) (w : World) (hL : LaidW w) (h : value_fits.f k a0 a1 = some r) :
    Calls Tryz.prog 45 #[.int .u8 a0, .int .u64 a1] w fun e w' => e = .returned (.bool r) ∧ Drawn0 w w' := by
  have HLaid := Aside0.mk hL
  clear hL
  have H : (if a0 = 1 then (some (decide (a1 ≤ 1))) else ((value_signed.f a0).bind fun t178 => (if t178 = true then ((value_width.f k a0).bind fun t179 => (if 0 ≤ (IntKind.u64.wrap (t179 - 1)) then (if (wrap64 (a1)) ≥ (wrap64 (-(shl .i64 1 (IntKind.u64.wrap (t179 - 1))))) then (if (wrap64 (a1)) ≤ (wrap64 ((shl .i64 1 (IntKind.u64.wrap (t179 - 1))) - 1)) then (some true) else ((value_width.f k a0).bind fun t180 => (some (t180 == 64)))) else ((value_width.f k a0).bind fun t181 => (some (t181 == 64)))) else (none))) else ((value_unsigned.f a0).bind fun t182 => (if t182 = true then (value_fits.j0 k a0 a1 true) else ((value_row.f a0).bind fun t183 => (value_fits.j0 k a0 a1 t183))))))) = some r := h
  clear h
  by_cases c3 : a0 = 1
  · rw [if_pos c3] at H
    have c3b0 : (a0 == 1) = true := beq_iff_eq.mpr c3
    have c3b1 : (a0 != 1) = false := bne_eq_false_iff_eq.mpr c3
    clear c3
    obtain rfl := Option.some.inj H
    go_enter Tryz.func45, Tryz.ntmps45
    go_wp2
    go_ret
    exact ⟨by first | rfl | (simp; done) | (simp [*]; done) | (simp [*, bne]; done), by repeat (first | exact Drawn0.refl _ | apply Drawn0.step)⟩
  · rw [if_neg c3] at H
    have c3b0 : (a0 == 1) = false := beq_eq_false_iff_ne.mpr c3
    have c3b1 : (a0 != 1) = true := bne_iff_ne.mpr c3
    replace H := Option.bind_eq_some_iff.mp H
    obtain ⟨t178, A40, H⟩ := H
    replace H : (if t178 = true then ((value_width.f k a0).bind fun t179 => (if 0 ≤ (IntKind.u64.wrap (t179 - 1)) then (if (wrap64 (a1)) ≥ (wrap64 (-(shl .i64 1 (IntKind.u64.wrap (t179 - 1))))) then (if (wrap64 (a1)) ≤ (wrap64 ((shl .i64 1 (IntKind.u64.wrap (t179 - 1))) - 1)) then (some true) else ((value_width.f k a0).bind fun t180 => (some (t180 == 64)))) else ((value_width.f k a0).bind fun t181 => (some (t181 == 64)))) else (none))) else ((value_unsigned.f a0).bind fun t182 => (if t182 = true then (value_fits.j0 k a0 a1 true) else ((value_row.f a0).bind fun t183 => (value_fits.j0 k a0 a1 t183))))) = some r := H
    have A4 := Aside0.mk A40
    clear A40
    by_cases c5 : t178 = true
    · subst c5
      have H1 : ((value_width.f k a0).bind fun t179 => (if 0 ≤ (IntKind.u64.wrap (t179 - 1)) then (if (wrap64 (a1)) ≥ (wrap64 (-(shl .i64 1 (IntKind.u64.wrap (t179 - 1))))) then (if (wrap64 (a1)) ≤ (wrap64 ((shl .i64 1 (IntKind.u64.wrap (t179 - 1))) - 1)) then (some true) else ((value_width.f k a0).bind fun t180 => (some (t180 == 64)))) else ((value_width.f k a0).bind fun t181 => (some (t181 == 64)))) else (none))) = some r := by rw [if_pos rfl] at H; exact H
      clear H
      have H := H1
      clear H1
      replace H := Option.bind_eq_some_iff.mp H
      obtain ⟨t179, A60, H⟩ := H
      replace H : (if 0 ≤ (IntKind.u64.wrap (t179 - 1)) then (if (wrap64 (a1)) ≥ (wrap64 (-(shl .i64 1 (IntKind.u64.wrap (t179 - 1))))) then (if (wrap64 (a1)) ≤ (wrap64 ((shl .i64 1 (IntKind.u64.wrap (t179 - 1))) - 1)) then (some true) else ((value_width.f k a0).bind fun t180 => (some (t180 == 64)))) else ((value_width.f k a0).bind fun t181 => (some (t181 == 64)))) else (none)) = some r := H
      have A6 := Aside0.mk A60
      clear A60
      obtain ⟨ji7, hji7⟩ : ∃ j_ : Int, (IntKind.u64.wrap (t179 - 1)) = j_ := ⟨_, rfl⟩
      replace H : (if 0 ≤ (ji7) then (if (wrap64 (a1)) ≥ (wrap64 (-(shl .i64 1 (ji7)))) then (if (wrap64 (a1)) ≤ (wrap64 ((shl .i64 1 (ji7)) - 1)) then (some true) else ((value_width.f k a0).bind fun t180 => (some (t180 == 64)))) else ((value_width.f k a0).bind fun t181 => (some (t181 == 64)))) else (none)) = some r := by first | (rw [hji7] at H; exact H) | (simp only [hji7] at H ⊢; exact H)
      (try rw [hji7] at A4)
      (try rw [hji7] at A6)
      by_cases c8 : 0 ≤ (ji7)
      · rw [if_pos c8] at H
        have c8b0 := eq_true c8
        have c8b1 : decide (0 ≤ (ji7)) = true := decide_eq_true c8
        clear c8
        obtain ⟨ji9, hji9⟩ : ∃ j_ : Int, (shl .i64 1 (ji7)) = j_ := ⟨_, rfl⟩
        replace H : (if (wrap64 (a1)) ≥ (wrap64 (-(ji9))) then (if (wrap64 (a1)) ≤ (wrap64 ((ji9) - 1)) then (some true) else ((value_width.f k a0).bind fun t180 => (some (t180 == 64)))) else ((value_width.f k a0).bind fun t181 => (some (t181 == 64)))) = some r := by first | (rw [hji9] at H; exact H) | (simp only [hji9] at H ⊢; exact H)
        (try rw [hji9] at A4)
        (try rw [hji9] at A6)
        have hji9_ : (IntKind.i64.wrap (1 * 2 ^ min (ji7).toNat 64)) = ji9 := hji9
        have hji9z : (ji7) ≤ 64 → (IntKind.i64.wrap (1 * 2 ^ (ji7).toNat)) = ji9 := shl_small hji9
        have hji9u : (IntKind.i64.wrap (2 ^ min (ji7).toNat 64)) = ji9 := by have h_ := hji9_; rw [Int.one_mul] at h_; exact h_
        have hji9v : (ji7) ≤ 64 → (IntKind.i64.wrap (2 ^ (ji7).toNat)) = ji9 := fun hle_ => by have h_ := hji9z hle_; rw [Int.one_mul] at h_; exact h_
        have hji9y : (wrap64 (1 * 2 ^ min (ji7).toNat 64)) = ji9 := (i64_w _).symm.trans hji9_
        have hji9x : (ji7) ≤ 64 → (wrap64 (1 * 2 ^ (ji7).toNat)) = ji9 := fun h_ => (i64_w _).symm.trans (hji9z h_)
        by_cases c10 : (wrap64 (a1)) ≥ (wrap64 (-(ji9)))
        · rw [if_pos c10] at H
          have c10b0 : decide ((wrap64 (-(ji9))) ≤ (wrap64 (a1))) = true := decide_eq_true c10
          clear c10
          by_cases c11 : (wrap64 (a1)) ≤ (wrap64 ((ji9) - 1))
          · rw [if_pos c11] at H
            have c11b0 : decide ((wrap64 (a1)) ≤ (wrap64 ((ji9) - 1))) = true := decide_eq_true c11
            clear c11
            obtain rfl := Option.some.inj H
            go_enter Tryz.func45, Tryz.ntmps45
            go_wp2_with (first | ((with_reducible refine gate_callee (f := 66) rfl ?_); refine goesL_ (some 16) rfl rfl Tryz.func66 (by kernel_rfl) rfl #[.int .u8 a0] rfl (by (try simp only [List.map_toArray, List.map_cons, List.map_nil]); first | done | rfl | (simp only [List.length_drop, List.length_take]; rfl)) ?_; (with_reducible refine (value_signed.calls a0 true _ ?side1 A4.out).mono ?_); (case side1 => first | exact HLaid.out | (refine LaidW.drawn HLaid.out ?_; repeat (first | exact Drawn0.refl _ | apply Drawn0.step))); rintro e w' ⟨rfl, ⟨nd, rfl⟩⟩; refine ⟨_, rfl, ?_⟩) | ((with_reducible refine gate_callee (f := 67) rfl ?_); refine goesL_ (some 18) rfl rfl Tryz.func67 (by kernel_rfl) rfl #[.int .u8 a0] rfl (by (try simp only [List.map_toArray, List.map_cons, List.map_nil]); first | done | rfl | (simp only [List.length_drop, List.length_take]; rfl)) ?_; (with_reducible refine (value_width.calls k a0 t179 _ ?side1 A6.out).mono ?_); (case side1 => first | exact HLaid.out | (refine LaidW.drawn HLaid.out ?_; repeat (first | exact Drawn0.refl _ | apply Drawn0.step))); rintro e w' ⟨rfl, ⟨nd, rfl⟩⟩; refine ⟨_, rfl, ?_⟩))
            go_ret
            exact ⟨by first | rfl | (simp; done) | (simp only [← hji7, ← hji9] <;> (first | rfl | simp)) | (simp [*]; done), by repeat (first | exact Drawn0.refl _ | apply Drawn0.step)⟩
          · rw [if_neg c11] at H
            have c11b0 : decide ((wrap64 (a1)) ≤ (wrap64 ((ji9) - 1))) = false := decide_eq_false c11
            clear c11
            replace H := Option.bind_eq_some_iff.mp H
            obtain ⟨t180, A120, H⟩ := H
            replace H : (some (t180 == 64)) = some r := H
            have A12 := Aside0.mk A120
            clear A120
            obtain rfl := Option.some.inj H
            go_enter Tryz.func45, Tryz.ntmps45
            go_wp2_with (first | ((with_reducible refine gate_callee (f := 66) rfl ?_); refine goesL_ (some 16) rfl rfl Tryz.func66 (by kernel_rfl) rfl #[.int .u8 a0] rfl (by (try simp only [List.map_toArray, List.map_cons, List.map_nil]); first | done | rfl | (simp only [List.length_drop, List.length_take]; rfl)) ?_; (with_reducible refine (value_signed.calls a0 true _ ?side1 A4.out).mono ?_); (case side1 => first | exact HLaid.out | (refine LaidW.drawn HLaid.out ?_; repeat (first | exact Drawn0.refl _ | apply Drawn0.step))); rintro e w' ⟨rfl, ⟨nd, rfl⟩⟩; refine ⟨_, rfl, ?_⟩) | ((with_reducible refine gate_callee (f := 67) rfl ?_); refine goesL_ (some 18) rfl rfl Tryz.func67 (by kernel_rfl) rfl #[.int .u8 a0] rfl (by (try simp only [List.map_toArray, List.map_cons, List.map_nil]); first | done | rfl | (simp only [List.length_drop, List.length_take]; rfl)) ?_; (with_reducible refine (value_width.calls k a0 t179 _ ?side1 A6.out).mono ?_); (case side1 => first | exact HLaid.out | (refine LaidW.drawn HLaid.out ?_; repeat (first | exact Drawn0.refl _ | apply Drawn0.step))); rintro e w' ⟨rfl, ⟨nd, rfl⟩⟩; refine ⟨_, rfl, ?_⟩) | (go_at_call 67; (with_reducible refine (value_width.calls k a0 t180 _ ?side1 A12.out).mono ?_); (case side1 => first | exact HLaid.out | (refine LaidW.drawn HLaid.out ?_; repeat (first | exact Drawn0.refl _ | apply Drawn0.step))); rintro e w' ⟨rfl, ⟨nd, rfl⟩⟩))
            go_ret
            exact ⟨by first | rfl | (simp; done) | (simp only [← hji7, ← hji9] <;> (first | rfl | simp)) | (simp [*]; done), by repeat (first | exact Drawn0.refl _ | apply Drawn0.step)⟩
        · rw [if_neg c10] at H
          have c10b0 : decide ((wrap64 (-(ji9))) ≤ (wrap64 (a1))) = false := decide_eq_false c10
          clear c10
          replace H := Option.bind_eq_some_iff.mp H
          obtain ⟨t181, A130, H⟩ := H
          replace H : (some (t181 == 64)) = some r := H
          have A13 := Aside0.mk A130
          clear A130
          obtain rfl := Option.some.inj H
          go_enter Tryz.func45, Tryz.ntmps45
          go_wp2_with (first | ((with_reducible refine gate_callee (f := 66) rfl ?_); refine goesL_ (some 16) rfl rfl Tryz.func66 (by kernel_rfl) rfl #[.int .u8 a0] rfl (by (try simp only [List.map_toArray, List.map_cons, List.map_nil]); first | done | rfl | (simp only [List.length_drop, List.length_take]; rfl)) ?_; (with_reducible refine (value_signed.calls a0 true _ ?side1 A4.out).mono ?_); (case side1 => first | exact HLaid.out | (refine LaidW.drawn HLaid.out ?_; repeat (first | exact Drawn0.refl _ | apply Drawn0.step))); rintro e w' ⟨rfl, ⟨nd, rfl⟩⟩; refine ⟨_, rfl, ?_⟩) | ((with_reducible refine gate_callee (f := 67) rfl ?_); refine goesL_ (some 18) rfl rfl Tryz.func67 (by kernel_rfl) rfl #[.int .u8 a0] rfl (by (try simp only [List.map_toArray, List.map_cons, List.map_nil]); first | done | rfl | (simp only [List.length_drop, List.length_take]; rfl)) ?_; (with_reducible refine (value_width.calls k a0 t179 _ ?side1 A6.out).mono ?_); (case side1 => first | exact HLaid.out | (refine LaidW.drawn HLaid.out ?_; repeat (first | exact Drawn0.refl _ | apply Drawn0.step))); rintro e w' ⟨rfl, ⟨nd, rfl⟩⟩; refine ⟨_, rfl, ?_⟩) | (go_at_call 67; (with_reducible refine (value_width.calls k a0 t181 _ ?side1 A13.out).mono ?_); (case side1 => first | exact HLaid.out | (refine LaidW.drawn HLaid.out ?_; repeat (first | exact Drawn0.refl _ | apply Drawn0.step))); rintro e w' ⟨rfl, ⟨nd, rfl⟩⟩))
          go_ret
          exact ⟨by first | rfl | (simp; done) | (simp only [← hji7, ← hji9] <;> (first | rfl | simp)) | (simp [*]; done), by repeat (first | exact Drawn0.refl _ | apply Drawn0.step)⟩
      · rw [if_neg c8] at H
        exact absurd H (by simp)
    · replace c5 := Bool.eq_false_iff.mpr c5
      subst c5
      have H1 : ((value_unsigned.f a0).bind fun t182 => (if t182 = true then (value_fits.j0 k a0 a1 true) else ((value_row.f a0).bind fun t183 => (value_fits.j0 k a0 a1 t183)))) = some r := by rw [if_neg (show ¬ (false = true) by decide)] at H; exact H
      clear H
      have H := H1
      clear H1
      have HC14 := Aside0.mk H
      clear H
      go_enter Tryz.func45, Tryz.ntmps45
      go_upto_region 7 with (first | ((with_reducible refine gate_callee (f := 66) rfl ?_); refine goesL_ (some 16) rfl rfl Tryz.func66 (by kernel_rfl) rfl #[.int .u8 a0] rfl (by (try simp only [List.map_toArray, List.map_cons, List.map_nil]); first | done | rfl | (simp only [List.length_drop, List.length_take]; rfl)) ?_; (with_reducible refine (value_signed.calls a0 false _ ?side1 A4.out).mono ?_); (case side1 => first | exact HLaid.out | (refine LaidW.drawn HLaid.out ?_; repeat (first | exact Drawn0.refl _ | apply Drawn0.step))); rintro e w' ⟨rfl, ⟨nd, rfl⟩⟩; refine ⟨_, rfl, ?_⟩))
      (try simp only [Act.put, List.setIfInBounds_toArray, List.set_cons_zero, List.set_cons_succ])
      go_cut [36] (fun v36 wc => ∃ (kq : Nat) (x36_13 : Bool), v36 = .bool x36_13 ∧ Aside0 (value_fits.j0 kq a0 a1 x36_13 = some r) ∧ Aside0 (kq ≤ k) ∧ Drawn0 w wc)
      case first =>
        have H := HC14.out
        clear HC14
        replace H := Option.bind_eq_some_iff.mp H
        obtain ⟨t182, A150, H⟩ := H
        replace H : (if t182 = true then (value_fits.j0 k a0 a1 true) else ((value_row.f a0).bind fun t183 => (value_fits.j0 k a0 a1 t183))) = some r := H
        have A15 := Aside0.mk A150
        clear A150
        by_cases c16 : t182 = true
        · subst c16
          have H1 : (value_fits.j0 k a0 a1 true) = some r := by rw [if_pos rfl] at H; exact H
          clear H
          have H := H1
          clear H1
          have H' := Aside0.mk H
          clear H
          go_wp2_with (first | ((with_reducible refine gate_callee (f := 43) rfl ?_); refine goesL_ (some 38) rfl rfl Tryz.func43 (by kernel_rfl) rfl #[.int .u8 a0] rfl (by (try simp only [List.map_toArray, List.map_cons, List.map_nil]); first | done | rfl | (simp only [List.length_drop, List.length_take]; rfl)) ?_; (with_reducible refine (value_unsigned.calls a0 true _ ?side1 A15.out).mono ?_); (case side1 => first | exact HLaid.out | (refine LaidW.drawn HLaid.out ?_; repeat (first | exact Drawn0.refl _ | apply Drawn0.step))); rintro e w' ⟨rfl, ⟨nd, rfl⟩⟩; refine ⟨_, rfl, ?_⟩))
          go_meet
          case rel => exact ⟨_, (true), (by first | rfl | (simp; done) | (simp [*]; done) | (simp [*, bne]; done)), H', ⟨by first | omega | exact Nat.le_refl _⟩, by repeat (first | exact Drawn0.refl _ | apply Drawn0.step)⟩
        · replace c16 := Bool.eq_false_iff.mpr c16
          subst c16
          have H1 : ((value_row.f a0).bind fun t183 => (value_fits.j0 k a0 a1 t183)) = some r := by rw [if_neg (show ¬ (false = true) by decide)] at H; exact H
          clear H
          have H := H1
          clear H1
          replace H := Option.bind_eq_some_iff.mp H
          obtain ⟨t183, A170, H⟩ := H
          replace H : (value_fits.j0 k a0 a1 t183) = some r := H
          have A17 := Aside0.mk A170
          clear A170
          have H' := Aside0.mk H
          clear H
          go_wp2_with (first | ((with_reducible refine gate_callee (f := 43) rfl ?_); refine goesL_ (some 38) rfl rfl Tryz.func43 (by kernel_rfl) rfl #[.int .u8 a0] rfl (by (try simp only [List.map_toArray, List.map_cons, List.map_nil]); first | done | rfl | (simp only [List.length_drop, List.length_take]; rfl)) ?_; (with_reducible refine (value_unsigned.calls a0 false _ ?side1 A15.out).mono ?_); (case side1 => first | exact HLaid.out | (refine LaidW.drawn HLaid.out ?_; repeat (first | exact Drawn0.refl _ | apply Drawn0.step))); rintro e w' ⟨rfl, ⟨nd, rfl⟩⟩; refine ⟨_, rfl, ?_⟩) | (go_at_call 44; (with_reducible refine (value_row.calls a0 t183 _ ?side1 A17.out).mono ?_); (case side1 => first | exact HLaid.out | (refine LaidW.drawn HLaid.out ?_; repeat (first | exact Drawn0.refl _ | apply Drawn0.step))); rintro e w' ⟨rfl, ⟨nd, rfl⟩⟩))
          go_meet
          case rel => exact ⟨_, (t183), (by first | rfl | (simp; done) | (simp [*]; done) | (simp [*, bne]; done)), H', ⟨by first | omega | exact Nat.le_refl _⟩, by repeat (first | exact Drawn0.refl _ | apply Drawn0.step)⟩
      case rest =>
        clear HC14
        try clear c1
        try clear p2
        try clear c3
        try clear c3b0
        try clear c3b1
        try clear c4
        try clear c5
        try clear c6
        try clear p6
        try clear c8
        try clear c8b0
        try clear c8b1
        try clear c10
        try clear c10b0
        try clear c11
        try clear c11b0
        try clear c16
        obtain ⟨kq, x36_13, rfl, HA, HJ13, ⟨mc13, rfl⟩⟩ := hcut
        cases kq with
        | zero => exact absurd HA.out (by simp [value_fits.j0])
        | succ kj13 =>
          have H := HA.out
          clear HA
          simp only [value_fits.j0] at H
          by_cases c18 : x36_13 = true
          · subst c18
            have H1 : ((value_most.f kj13 a0).bind fun t184 => (some (decide (a1 ≤ t184)))) = some r := by rw [if_pos rfl] at H; exact H
            clear H
            have H := H1
            clear H1
            replace H := Option.bind_eq_some_iff.mp H
            obtain ⟨t184, A190, H⟩ := H
            replace H : (some (decide (a1 ≤ t184))) = some r := H
            have A19 := Aside0.mk A190
            clear A190
            obtain rfl := Option.some.inj H
            go_wp2_with (first | ((with_reducible refine gate_callee (f := 68) rfl ?_); refine goesL_ (some 45) rfl rfl Tryz.func68 (by kernel_rfl) rfl #[.int .u8 a0] rfl (by (try simp only [List.map_toArray, List.map_cons, List.map_nil]); first | done | rfl | (simp only [List.length_drop, List.length_take]; rfl)) ?_; (with_reducible refine (value_most.calls kj13 a0 t184 _ ?side1 A19.out).mono ?_); (case side1 => first | exact HLaid.out | (refine LaidW.drawn HLaid.out ?_; repeat (first | exact Drawn0.refl _ | apply Drawn0.step))); rintro e w' ⟨rfl, ⟨nd, rfl⟩⟩; refine ⟨_, rfl, ?_⟩))
            go_ret
            exact ⟨by first | rfl | (simp; done) | (simp [*]; done) | (simp [*, bne]; done), by repeat (first | exact Drawn0.refl _ | apply Drawn0.step)⟩
          · replace c18 := Bool.eq_false_iff.mpr c18
            subst c18
            have H1 : (if a0 = 14 then (some true) else (if a0 = 15 then (if a1 < 7258118400000000000 then (some ((Int.tmod a1 86400000000000) == 0)) else (some false)) else (if a0 = 16 then (some (decide (a1 < 86400000000000))) else (if a0 = 17 then (some (decide (a1 < 7258118400000000000))) else (some false))))) = some r := by rw [if_neg (show ¬ (false = true) by decide)] at H; exact H
            clear H
            have H := H1
            clear H1
            by_cases c20 : a0 = 14
            · rw [if_pos c20] at H
              have c20b0 : (a0 == 14) = true := beq_iff_eq.mpr c20
              have c20b1 : (a0 != 14) = false := bne_eq_false_iff_eq.mpr c20
              clear c20
              obtain rfl := Option.some.inj H
              go_wp2
              go_ret
              exact ⟨by first | rfl | (simp; done) | (simp [*]; done) | (simp [*, bne]; done), by repeat (first | exact Drawn0.refl _ | apply Drawn0.step)⟩
            · rw [if_neg c20] at H
              have c20b0 : (a0 == 14) = false := beq_eq_false_iff_ne.mpr c20
              have c20b1 : (a0 != 14) = true := bne_iff_ne.mpr c20
              by_cases c21 : a0 = 15
              · rw [if_pos c21] at H
                have c21b0 : (a0 == 15) = true := beq_iff_eq.mpr c21
                have c21b1 : (a0 != 15) = false := bne_eq_false_iff_eq.mpr c21
                clear c21
                by_cases c22 : a1 < 7258118400000000000
                · rw [if_pos c22] at H
                  have c22b0 : decide (a1 < 7258118400000000000) = true := decide_eq_true c22
                  clear c22
                  obtain rfl := Option.some.inj H
                  go_wp2
                  go_ret
                  exact ⟨by first | rfl | (simp; done) | (simp [*]; done) | (simp [*, bne]; done), by repeat (first | exact Drawn0.refl _ | apply Drawn0.step)⟩
                · rw [if_neg c22] at H
                  have c22b0 : decide (a1 < 7258118400000000000) = false := decide_eq_false c22
                  clear c22
                  obtain rfl := Option.some.inj H
                  go_wp2
                  go_ret
                  exact ⟨by first | rfl | (simp; done) | (simp [*]; done) | (simp [*, bne]; done), by repeat (first | exact Drawn0.refl _ | apply Drawn0.step)⟩
              · rw [if_neg c21] at H
                have c21b0 : (a0 == 15) = false := beq_eq_false_iff_ne.mpr c21
                have c21b1 : (a0 != 15) = true := bne_iff_ne.mpr c21
                by_cases c23 : a0 = 16
                · rw [if_pos c23] at H
                  have c23b0 : (a0 == 16) = true := beq_iff_eq.mpr c23
                  have c23b1 : (a0 != 16) = false := bne_eq_false_iff_eq.mpr c23
                  clear c23
                  obtain rfl := Option.some.inj H
                  go_wp2
                  go_ret
                  exact ⟨by first | rfl | (simp; done) | (simp [*]; done) | (simp [*, bne]; done), by repeat (first | exact Drawn0.refl _ | apply Drawn0.step)⟩
                · rw [if_neg c23] at H
                  have c23b0 : (a0 == 16) = false := beq_eq_false_iff_ne.mpr c23
                  have c23b1 : (a0 != 16) = true := bne_iff_ne.mpr c23
                  by_cases c24 : a0 = 17
                  · rw [if_pos c24] at H
                    have c24b0 : (a0 == 17) = true := beq_iff_eq.mpr c24
                    have c24b1 : (a0 != 17) = false := bne_eq_false_iff_eq.mpr c24
                    clear c24
                    obtain rfl := Option.some.inj H
                    go_wp2
                    go_ret
                    exact ⟨by first | rfl | (simp; done) | (simp [*]; done) | (simp [*, bne]; done), by repeat (first | exact Drawn0.refl _ | apply Drawn0.step)⟩
                  · rw [if_neg c24] at H
                    have c24b0 : (a0 == 17) = false := beq_eq_false_iff_ne.mpr c24
                    have c24b1 : (a0 != 17) = true := bne_iff_ne.mpr c24
                    obtain rfl := Option.some.inj H
                    go_wp2
                    go_ret
                    exact ⟨by first | rfl | (simp; done) | (simp [*]; done) | (simp [*, bne]; done), by repeat (first | exact Drawn0.refl _ | apply Drawn0.step)⟩

end Go.Proofs.YteoehlcjllbhfaaGreatDoor.XBack
