-- WRITTEN BY wip/tools/xprint.py out of the translation: the kit's print with this work's hooks.
import Derived.Test.YteoehlcjllbhfaaDoorXPrintsx0
import Derived.Test.YteoehlcjllbhfaaDoorXPrintsx1
namespace Go.Proofs.YteoehlcjllbhfaaDoor.XPrints
open Go.RowKit Go.Proofs.YteoehlcjllbhfaaDoorW.PrintWords Go.Proofs.YteoehlcjllbhfaaDoorW.PrintLast Go.Proofs.YteoehlcjllbhfaaDoorW.PrintMore
attribute [local go_sem] max2_int min2_int max_two min_two max_three min_three max_four min_four   -- for this text's walks alone
set_option linter.unusedVariables false
set_option linter.unusedSimpArgs false

/-! ### value_fits: function 17 -/
def value_fits.j0 : Nat → Int → Int → Bool → Option (Bool)
  | 0, _, _, _ => none
  | k + 1, x0, x1, x36 => if x36 = true then ((value_most.f k x0).bind fun t108 => (some (decide (x1 ≤ t108)))) else (if x0 = 14 then (some true) else (if x0 = 15 then (if x1 < 7258118400000000000 then (some ((Int.tmod x1 86400000000000) == 0)) else (some false)) else (if x0 = 16 then (some (decide (x1 < 86400000000000))) else (if x0 = 17 then (some (decide (x1 < 7258118400000000000))) else (some false)))))
def value_fits.f (k : Nat) (a0 : Int) (a1 : Int) : Option (Bool) := if a0 = 1 then (some (decide (a1 ≤ 1))) else ((value_signed.f a0).bind fun t102 => (if t102 = true then ((value_width.f k a0).bind fun t103 => (if 0 ≤ (IntKind.u64.wrap (t103 - 1)) then (if (wrap64 (a1)) ≥ (wrap64 (-(shl .i64 1 (IntKind.u64.wrap (t103 - 1))))) then (if (wrap64 (a1)) ≤ (wrap64 ((shl .i64 1 (IntKind.u64.wrap (t103 - 1))) - 1)) then (some true) else ((value_width.f k a0).bind fun t104 => (some (t104 == 64)))) else ((value_width.f k a0).bind fun t105 => (some (t105 == 64)))) else (none))) else ((value_unsigned.f a0).bind fun t106 => (if t106 = true then (value_fits.j0 k a0 a1 true) else ((value_row.f a0).bind fun t107 => (value_fits.j0 k a0 a1 t107))))))
theorem value_fits.mono_l : ∀ k, (∀ y0 y1 y2, LeO (value_fits.j0 k y0 y1 y2) (value_fits.j0 (k + 1) y0 y1 y2))
  | 0 => fun _ _ _ r h => by simp [value_fits.j0] at h
  | k + 1 => by
    have ih0 := value_fits.mono_l k
    · intro y0 y1 y2
      unfold value_fits.j0
      repeat' first
      | (with_reducible exact ih0 _ _ _)
      | (with_reducible exact value_most.mono _ _)
      | (with_reducible exact value_width.mono _ _)
      | (with_reducible exact LeO.refl _)
      | (with_reducible exact LeO.none _)
      | (with_reducible refine LeO.ite ?_ ?_)
      | (with_reducible refine LeO.bind ?_ (fun _ => ?_))
      | exact ih0 _ _ _
      | exact value_most.mono _ _
      | exact value_width.mono _ _
      | exact LeO.none _
      | refine LeO.ite ?_ ?_
      | refine LeO.bind ?_ (fun _ => ?_)
theorem value_fits.mono : ∀ a0 a1 k, LeO (value_fits.f k a0 a1) (value_fits.f (k + 1) a0 a1) := by
  intro a0 a1 k
  have ih0 := value_fits.mono_l k
  unfold value_fits.f
  repeat' first
      | (with_reducible exact ih0 _ _ _)
      | (with_reducible exact value_most.mono _ _)
      | (with_reducible exact value_width.mono _ _)
      | (with_reducible exact LeO.refl _)
      | (with_reducible exact LeO.none _)
      | (with_reducible refine LeO.ite ?_ ?_)
      | (with_reducible refine LeO.bind ?_ (fun _ => ?_))
      | exact ih0 _ _ _
      | exact value_most.mono _ _
      | exact value_width.mono _ _
      | exact LeO.none _
      | refine LeO.ite ?_ ?_
      | refine LeO.bind ?_ (fun _ => ?_)
set_option maxHeartbeats 8000000 in
set_option maxRecDepth 100000 in
theorem value_fits.calls (k : Nat) (a0 : Int) (a1 : Int) (r : Bool) (w : World) (hL : LaidW w) (h : value_fits.f k a0 a1 = some r) :
    Calls Tryd.prog 17 #[.int .u8 a0, .int .u64 a1] w fun e w' => e = .returned (.bool r) ∧ Drawn0 w w' := by
  have HLaid := Aside0.mk hL
  clear hL
  have H : (if a0 = 1 then (some (decide (a1 ≤ 1))) else ((value_signed.f a0).bind fun t102 => (if t102 = true then ((value_width.f k a0).bind fun t103 => (if 0 ≤ (IntKind.u64.wrap (t103 - 1)) then (if (wrap64 (a1)) ≥ (wrap64 (-(shl .i64 1 (IntKind.u64.wrap (t103 - 1))))) then (if (wrap64 (a1)) ≤ (wrap64 ((shl .i64 1 (IntKind.u64.wrap (t103 - 1))) - 1)) then (some true) else ((value_width.f k a0).bind fun t104 => (some (t104 == 64)))) else ((value_width.f k a0).bind fun t105 => (some (t105 == 64)))) else (none))) else ((value_unsigned.f a0).bind fun t106 => (if t106 = true then (value_fits.j0 k a0 a1 true) else ((value_row.f a0).bind fun t107 => (value_fits.j0 k a0 a1 t107))))))) = some r := h
  clear h
  by_cases c3 : a0 = 1
  · rw [if_pos c3] at H
    have c3b0 : (a0 == 1) = true := beq_iff_eq.mpr c3
    have c3b1 : (a0 != 1) = false := bne_eq_false_iff_eq.mpr c3
    clear c3
    obtain rfl := Option.some.inj H
    go_enter Tryd.func17, Tryd.ntmps17
    go_wp2
    go_ret
    exact ⟨by first | rfl | (simp; done) | (simp [*]; done) | (simp [*, bne]; done), by repeat (first | exact Drawn0.refl _ | apply Drawn0.step)⟩
  · rw [if_neg c3] at H
    have c3b0 : (a0 == 1) = false := beq_eq_false_iff_ne.mpr c3
    have c3b1 : (a0 != 1) = true := bne_iff_ne.mpr c3
    replace H := Option.bind_eq_some_iff.mp H
    obtain ⟨t102, A40, H⟩ := H
    replace H : (if t102 = true then ((value_width.f k a0).bind fun t103 => (if 0 ≤ (IntKind.u64.wrap (t103 - 1)) then (if (wrap64 (a1)) ≥ (wrap64 (-(shl .i64 1 (IntKind.u64.wrap (t103 - 1))))) then (if (wrap64 (a1)) ≤ (wrap64 ((shl .i64 1 (IntKind.u64.wrap (t103 - 1))) - 1)) then (some true) else ((value_width.f k a0).bind fun t104 => (some (t104 == 64)))) else ((value_width.f k a0).bind fun t105 => (some (t105 == 64)))) else (none))) else ((value_unsigned.f a0).bind fun t106 => (if t106 = true then (value_fits.j0 k a0 a1 true) else ((value_row.f a0).bind fun t107 => (value_fits.j0 k a0 a1 t107))))) = some r := H
    have A4 := Aside0.mk A40
    clear A40
    by_cases c5 : t102 = true
    · subst c5
      have H1 : ((value_width.f k a0).bind fun t103 => (if 0 ≤ (IntKind.u64.wrap (t103 - 1)) then (if (wrap64 (a1)) ≥ (wrap64 (-(shl .i64 1 (IntKind.u64.wrap (t103 - 1))))) then (if (wrap64 (a1)) ≤ (wrap64 ((shl .i64 1 (IntKind.u64.wrap (t103 - 1))) - 1)) then (some true) else ((value_width.f k a0).bind fun t104 => (some (t104 == 64)))) else ((value_width.f k a0).bind fun t105 => (some (t105 == 64)))) else (none))) = some r := by rw [if_pos rfl] at H; exact H
      clear H
      have H := H1
      clear H1
      replace H := Option.bind_eq_some_iff.mp H
      obtain ⟨t103, A60, H⟩ := H
      replace H : (if 0 ≤ (IntKind.u64.wrap (t103 - 1)) then (if (wrap64 (a1)) ≥ (wrap64 (-(shl .i64 1 (IntKind.u64.wrap (t103 - 1))))) then (if (wrap64 (a1)) ≤ (wrap64 ((shl .i64 1 (IntKind.u64.wrap (t103 - 1))) - 1)) then (some true) else ((value_width.f k a0).bind fun t104 => (some (t104 == 64)))) else ((value_width.f k a0).bind fun t105 => (some (t105 == 64)))) else (none)) = some r := H
      have A6 := Aside0.mk A60
      clear A60
      obtain ⟨ji7, hji7⟩ : ∃ j_ : Int, (IntKind.u64.wrap (t103 - 1)) = j_ := ⟨_, rfl⟩
      replace H : (if 0 ≤ (ji7) then (if (wrap64 (a1)) ≥ (wrap64 (-(shl .i64 1 (ji7)))) then (if (wrap64 (a1)) ≤ (wrap64 ((shl .i64 1 (ji7)) - 1)) then (some true) else ((value_width.f k a0).bind fun t104 => (some (t104 == 64)))) else ((value_width.f k a0).bind fun t105 => (some (t105 == 64)))) else (none)) = some r := by first | (rw [hji7] at H; exact H) | (simp only [hji7] at H ⊢; exact H)
      (try rw [hji7] at A4)
      (try rw [hji7] at A6)
      by_cases c8 : 0 ≤ (ji7)
      · rw [if_pos c8] at H
        have c8b0 := eq_true c8
        have c8b1 : decide (0 ≤ (ji7)) = true := decide_eq_true c8
        clear c8
        obtain ⟨ji9, hji9⟩ : ∃ j_ : Int, (shl .i64 1 (ji7)) = j_ := ⟨_, rfl⟩
        replace H : (if (wrap64 (a1)) ≥ (wrap64 (-(ji9))) then (if (wrap64 (a1)) ≤ (wrap64 ((ji9) - 1)) then (some true) else ((value_width.f k a0).bind fun t104 => (some (t104 == 64)))) else ((value_width.f k a0).bind fun t105 => (some (t105 == 64)))) = some r := by first | (rw [hji9] at H; exact H) | (simp only [hji9] at H ⊢; exact H)
        (try rw [hji9] at A4)
        (try rw [hji9] at A6)
        have hji9_ : (IntKind.i64.wrap (1 * 2 ^ min (ji7).toNat 64)) = ji9 := hji9
        have hji9z : (ji7) ≤ 64 → (IntKind.i64.wrap (1 * 2 ^ (ji7).toNat)) = ji9 := shl_small hji9
        have hji9u : (IntKind.i64.wrap (2 ^ min (ji7).toNat 64)) = ji9 := by have h_ := hji9_; rw [Int.one_mul] at h_; exact h_
        have hji9v : (ji7) ≤ 64 → (IntKind.i64.wrap (2 ^ (ji7).toNat)) = ji9 := fun hle_ => by have h_ := hji9z hle_; rw [Int.one_mul] at h_; exact h_
        have hji9y : (wrap64 (1 * 2 ^ min (ji7).toNat 64)) = ji9 := (i64_w _).symm.trans hji9_
        have hji9x : (ji7) ≤ 64 → (wrap64 (1 * 2 ^ (ji7).toNat)) = ji9 := fun h_ => (i64_w _).symm.trans (hji9z h_)
        by_cases c10 : (wrap64 (a1)) ≥ (wrap64 (-(ji9)))
        · rw [if_pos c10] at H
          have c10b0 : decide ((wrap64 (-(ji9))) ≤ (wrap64 (a1))) = true := decide_eq_true c10
          clear c10
          by_cases c11 : (wrap64 (a1)) ≤ (wrap64 ((ji9) - 1))
          · rw [if_pos c11] at H
            have c11b0 : decide ((wrap64 (a1)) ≤ (wrap64 ((ji9) - 1))) = true := decide_eq_true c11
            clear c11
            obtain rfl := Option.some.inj H
            go_enter Tryd.func17, Tryd.ntmps17
            go_wp2_with (first | ((with_reducible refine gate_callee (f := 26) rfl ?_); refine goesL_ (some 16) rfl rfl Tryd.func26 (by kernel_rfl) rfl #[.int .u8 a0] rfl (by (try simp only [List.map_toArray, List.map_cons, List.map_nil]); first | done | rfl | (simp only [List.length_drop, List.length_take]; rfl)) ?_; (with_reducible refine (value_signed.calls a0 true _ ?side1 A4.out).mono ?_); (case side1 => first | exact HLaid.out | (refine LaidW.drawn HLaid.out ?_; repeat (first | exact Drawn0.refl _ | apply Drawn0.step))); rintro e w' ⟨rfl, ⟨nd, rfl⟩⟩; refine ⟨_, rfl, ?_⟩) | ((with_reducible refine gate_callee (f := 27) rfl ?_); refine goesL_ (some 18) rfl rfl Tryd.func27 (by kernel_rfl) rfl #[.int .u8 a0] rfl (by (try simp only [List.map_toArray, List.map_cons, List.map_nil]); first | done | rfl | (simp only [List.length_drop, List.length_take]; rfl)) ?_; (with_reducible refine (value_width.calls k a0 t103 _ ?side1 A6.out).mono ?_); (case side1 => first | exact HLaid.out | (refine LaidW.drawn HLaid.out ?_; repeat (first | exact Drawn0.refl _ | apply Drawn0.step))); rintro e w' ⟨rfl, ⟨nd, rfl⟩⟩; refine ⟨_, rfl, ?_⟩))
            go_ret
            exact ⟨by first | rfl | (simp; done) | (simp only [← hji7, ← hji9] <;> (first | rfl | simp)) | (simp [*]; done), by repeat (first | exact Drawn0.refl _ | apply Drawn0.step)⟩
          · rw [if_neg c11] at H
            have c11b0 : decide ((wrap64 (a1)) ≤ (wrap64 ((ji9) - 1))) = false := decide_eq_false c11
            clear c11
            replace H := Option.bind_eq_some_iff.mp H
            obtain ⟨t104, A120, H⟩ := H
            replace H : (some (t104 == 64)) = some r := H
            have A12 := Aside0.mk A120
            clear A120
            obtain rfl := Option.some.inj H
            go_enter Tryd.func17, Tryd.ntmps17
            go_wp2_with (first | ((with_reducible refine gate_callee (f := 26) rfl ?_); refine goesL_ (some 16) rfl rfl Tryd.func26 (by kernel_rfl) rfl #[.int .u8 a0] rfl (by (try simp only [List.map_toArray, List.map_cons, List.map_nil]); first | done | rfl | (simp only [List.length_drop, List.length_take]; rfl)) ?_; (with_reducible refine (value_signed.calls a0 true _ ?side1 A4.out).mono ?_); (case side1 => first | exact HLaid.out | (refine LaidW.drawn HLaid.out ?_; repeat (first | exact Drawn0.refl _ | apply Drawn0.step))); rintro e w' ⟨rfl, ⟨nd, rfl⟩⟩; refine ⟨_, rfl, ?_⟩) | ((with_reducible refine gate_callee (f := 27) rfl ?_); refine goesL_ (some 18) rfl rfl Tryd.func27 (by kernel_rfl) rfl #[.int .u8 a0] rfl (by (try simp only [List.map_toArray, List.map_cons, List.map_nil]); first | done | rfl | (simp only [List.length_drop, List.length_take]; rfl)) ?_; (with_reducible refine (value_width.calls k a0 t103 _ ?side1 A6.out).mono ?_); (case side1 => first | exact HLaid.out | (refine LaidW.drawn HLaid.out ?_; repeat (first | exact Drawn0.refl _ | apply Drawn0.step))); rintro e w' ⟨rfl, ⟨nd, rfl⟩⟩; refine ⟨_, rfl, ?_⟩) | (go_at_call 27; (with_reducible refine (value_width.calls k a0 t104 _ ?side1 A12.out).mono ?_); (case side1 => first | exact HLaid.out | (refine LaidW.drawn HLaid.out ?_; repeat (first | exact Drawn0.refl _ | apply Drawn0.step))); rintro e w' ⟨rfl, ⟨nd, rfl⟩⟩))
            go_ret
            exact ⟨by first | rfl | (simp; done) | (simp only [← hji7, ← hji9] <;> (first | rfl | simp)) | (simp [*]; done), by repeat (first | exact Drawn0.refl _ | apply Drawn0.step)⟩
        · rw [if_neg c10] at H
          have c10b0 : decide ((wrap64 (-(ji9))) ≤ (wrap64 (a1))) = false := decide_eq_false c10
          clear c10
          replace H := Option.bind_eq_some_iff.mp H
          obtain ⟨t105, A130, H⟩ := H
          replace H : (some (t105 == 64)) = some r := H
          have A13 := Aside0.mk A130
          clear A130
          obtain rfl := Option.some.inj H
          go_enter Tryd.func17, Tryd.ntmps17
          go_wp2_with (first | ((with_reducible refine gate_callee (f := 26) rfl ?_); refine goesL_ (some 16) rfl rfl Tryd.func26 (by kernel_rfl) rfl #[.int .u8 a0] rfl (by (try simp only [List.map_toArray, List.map_cons, List.map_nil]); first | done | rfl | (simp only [List.length_drop, List.length_take]; rfl)) ?_; (with_reducible refine (value_signed.calls a0 true _ ?side1 A4.out).mono ?_); (case side1 => first | exact HLaid.out | (refine LaidW.drawn HLaid.out ?_; repeat (first | exact Drawn0.refl _ | apply Drawn0.step))); rintro e w' ⟨rfl, ⟨nd, rfl⟩⟩; refine ⟨_, rfl, ?_⟩) | ((with_reducible refine gate_callee (f := 27) rfl ?_); refine goesL_ (some 18) rfl rfl Tryd.func27 (by kernel_rfl) rfl #[.int .u8 a0] rfl (by (try simp only [List.map_toArray, List.map_cons, List.map_nil]); first | done | rfl | (simp only [List.length_drop, List.length_take]; rfl)) ?_; (with_reducible refine (value_width.calls k a0 t103 _ ?side1 A6.out).mono ?_); (case side1 => first | exact HLaid.out | (refine LaidW.drawn HLaid.out ?_; repeat (first | exact Drawn0.refl _ | apply Drawn0.step))); rintro e w' ⟨rfl, ⟨nd, rfl⟩⟩; refine ⟨_, rfl, ?_⟩) | (go_at_call 27; (with_reducible refine (value_width.calls k a0 t105 _ ?side1 A13.out).mono ?_); (case side1 => first | exact HLaid.out | (refine LaidW.drawn HLaid.out ?_; repeat (first | exact Drawn0.refl _ | apply Drawn0.step))); rintro e w' ⟨rfl, ⟨nd, rfl⟩⟩))
          go_ret
          exact ⟨by first | rfl | (simp; done) | (simp only [← hji7, ← hji9] <;> (first | rfl | simp)) | (simp [*]; done), by repeat (first | exact Drawn0.refl _ | apply Drawn0.step)⟩
      · rw [if_neg c8] at H
        exact absurd H (by simp)
    · replace c5 := Bool.eq_false_iff.mpr c5
      subst c5
      have H1 : ((value_unsigned.f a0).bind fun t106 => (if t106 = true then (value_fits.j0 k a0 a1 true) else ((value_row.f a0).bind fun t107 => (value_fits.j0 k a0 a1 t107)))) = some r := by rw [if_neg (show ¬ (false = true) by decide)] at H; exact H
      clear H
      have H := H1
      clear H1
      have HC14 := Aside0.mk H
      clear H
      go_enter Tryd.func17, Tryd.ntmps17
      go_upto_region 7 with (first | ((with_reducible refine gate_callee (f := 26) rfl ?_); refine goesL_ (some 16) rfl rfl Tryd.func26 (by kernel_rfl) rfl #[.int .u8 a0] rfl (by (try simp only [List.map_toArray, List.map_cons, List.map_nil]); first | done | rfl | (simp only [List.length_drop, List.length_take]; rfl)) ?_; (with_reducible refine (value_signed.calls a0 false _ ?side1 A4.out).mono ?_); (case side1 => first | exact HLaid.out | (refine LaidW.drawn HLaid.out ?_; repeat (first | exact Drawn0.refl _ | apply Drawn0.step))); rintro e w' ⟨rfl, ⟨nd, rfl⟩⟩; refine ⟨_, rfl, ?_⟩))
      (try simp only [Act.put, List.setIfInBounds_toArray, List.set_cons_zero, List.set_cons_succ])
      go_cut [36] (fun v36 wc => ∃ (kq : Nat) (x36_13 : Bool), v36 = .bool x36_13 ∧ Aside0 (value_fits.j0 kq a0 a1 x36_13 = some r) ∧ Aside0 (kq ≤ k) ∧ Drawn0 w wc)
      case first =>
        have H := HC14.out
        clear HC14
        replace H := Option.bind_eq_some_iff.mp H
        obtain ⟨t106, A150, H⟩ := H
        replace H : (if t106 = true then (value_fits.j0 k a0 a1 true) else ((value_row.f a0).bind fun t107 => (value_fits.j0 k a0 a1 t107))) = some r := H
        have A15 := Aside0.mk A150
        clear A150
        by_cases c16 : t106 = true
        · subst c16
          have H1 : (value_fits.j0 k a0 a1 true) = some r := by rw [if_pos rfl] at H; exact H
          clear H
          have H := H1
          clear H1
          have H' := Aside0.mk H
          clear H
          go_wp2_with (first | ((with_reducible refine gate_callee (f := 28) rfl ?_); refine goesL_ (some 38) rfl rfl Tryd.func28 (by kernel_rfl) rfl #[.int .u8 a0] rfl (by (try simp only [List.map_toArray, List.map_cons, List.map_nil]); first | done | rfl | (simp only [List.length_drop, List.length_take]; rfl)) ?_; (with_reducible refine (value_unsigned.calls a0 true _ ?side1 A15.out).mono ?_); (case side1 => first | exact HLaid.out | (refine LaidW.drawn HLaid.out ?_; repeat (first | exact Drawn0.refl _ | apply Drawn0.step))); rintro e w' ⟨rfl, ⟨nd, rfl⟩⟩; refine ⟨_, rfl, ?_⟩))
          go_meet
          case rel => exact ⟨_, (true), (by first | rfl | (simp; done) | (simp [*]; done) | (simp [*, bne]; done)), H', ⟨by first | omega | exact Nat.le_refl _⟩, by repeat (first | exact Drawn0.refl _ | apply Drawn0.step)⟩
        · replace c16 := Bool.eq_false_iff.mpr c16
          subst c16
          have H1 : ((value_row.f a0).bind fun t107 => (value_fits.j0 k a0 a1 t107)) = some r := by rw [if_neg (show ¬ (false = true) by decide)] at H; exact H
          clear H
          have H := H1
          clear H1
          replace H := Option.bind_eq_some_iff.mp H
          obtain ⟨t107, A170, H⟩ := H
          replace H : (value_fits.j0 k a0 a1 t107) = some r := H
          have A17 := Aside0.mk A170
          clear A170
          have H' := Aside0.mk H
          clear H
          go_wp2_with (first | ((with_reducible refine gate_callee (f := 28) rfl ?_); refine goesL_ (some 38) rfl rfl Tryd.func28 (by kernel_rfl) rfl #[.int .u8 a0] rfl (by (try simp only [List.map_toArray, List.map_cons, List.map_nil]); first | done | rfl | (simp only [List.length_drop, List.length_take]; rfl)) ?_; (with_reducible refine (value_unsigned.calls a0 false _ ?side1 A15.out).mono ?_); (case side1 => first | exact HLaid.out | (refine LaidW.drawn HLaid.out ?_; repeat (first | exact Drawn0.refl _ | apply Drawn0.step))); rintro e w' ⟨rfl, ⟨nd, rfl⟩⟩; refine ⟨_, rfl, ?_⟩) | (go_at_call 29; (with_reducible refine (value_row.calls a0 t107 _ ?side1 A17.out).mono ?_); (case side1 => first | exact HLaid.out | (refine LaidW.drawn HLaid.out ?_; repeat (first | exact Drawn0.refl _ | apply Drawn0.step))); rintro e w' ⟨rfl, ⟨nd, rfl⟩⟩))
          go_meet
          case rel => exact ⟨_, (t107), (by first | rfl | (simp; done) | (simp [*]; done) | (simp [*, bne]; done)), H', ⟨by first | omega | exact Nat.le_refl _⟩, by repeat (first | exact Drawn0.refl _ | apply Drawn0.step)⟩
      case rest =>
        clear HC14
        try clear c1
        try clear c2
        try clear p2
        try clear c3
        try clear c3b0
        try clear c3b1
        try clear c5
        try clear p6
        try clear c8
        try clear c8b0
        try clear c8b1
        try clear c10
        try clear c10b0
        try clear c11
        try clear c11b0
        try clear c16
        try clear c17
        obtain ⟨kq, x36_13, rfl, HA, HJ13, ⟨mc13, rfl⟩⟩ := hcut
        cases kq with
        | zero => exact absurd HA.out (by simp [value_fits.j0])
        | succ kj13 =>
          have H := HA.out
          clear HA
          simp only [value_fits.j0] at H
          by_cases c18 : x36_13 = true
          · subst c18
            have H1 : ((value_most.f kj13 a0).bind fun t108 => (some (decide (a1 ≤ t108)))) = some r := by rw [if_pos rfl] at H; exact H
            clear H
            have H := H1
            clear H1
            replace H := Option.bind_eq_some_iff.mp H
            obtain ⟨t108, A190, H⟩ := H
            replace H : (some (decide (a1 ≤ t108))) = some r := H
            have A19 := Aside0.mk A190
            clear A190
            obtain rfl := Option.some.inj H
            go_wp2_with (first | ((with_reducible refine gate_callee (f := 30) rfl ?_); refine goesL_ (some 45) rfl rfl Tryd.func30 (by kernel_rfl) rfl #[.int .u8 a0] rfl (by (try simp only [List.map_toArray, List.map_cons, List.map_nil]); first | done | rfl | (simp only [List.length_drop, List.length_take]; rfl)) ?_; (with_reducible refine (value_most.calls kj13 a0 t108 _ ?side1 A19.out).mono ?_); (case side1 => first | exact HLaid.out | (refine LaidW.drawn HLaid.out ?_; repeat (first | exact Drawn0.refl _ | apply Drawn0.step))); rintro e w' ⟨rfl, ⟨nd, rfl⟩⟩; refine ⟨_, rfl, ?_⟩))
            go_ret
            exact ⟨by first | rfl | (simp; done) | (simp [*]; done) | (simp [*, bne]; done), by repeat (first | exact Drawn0.refl _ | apply Drawn0.step)⟩
          · replace c18 := Bool.eq_false_iff.mpr c18
            subst c18
            have H1 : (if a0 = 14 then (some true) else (if a0 = 15 then (if a1 < 7258118400000000000 then (some ((Int.tmod a1 86400000000000) == 0)) else (some false)) else (if a0 = 16 then (some (decide (a1 < 86400000000000))) else (if a0 = 17 then (some (decide (a1 < 7258118400000000000))) else (some false))))) = some r := by rw [if_neg (show ¬ (false = true) by decide)] at H; exact H
            clear H
            have H := H1
            clear H1
            by_cases c20 : a0 = 14
            · rw [if_pos c20] at H
              have c20b0 : (a0 == 14) = true := beq_iff_eq.mpr c20
              have c20b1 : (a0 != 14) = false := bne_eq_false_iff_eq.mpr c20
              clear c20
              obtain rfl := Option.some.inj H
              go_wp2
              go_ret
              exact ⟨by first | rfl | (simp; done) | (simp [*]; done) | (simp [*, bne]; done), by repeat (first | exact Drawn0.refl _ | apply Drawn0.step)⟩
            · rw [if_neg c20] at H
              have c20b0 : (a0 == 14) = false := beq_eq_false_iff_ne.mpr c20
              have c20b1 : (a0 != 14) = true := bne_iff_ne.mpr c20
              by_cases c21 : a0 = 15
              · rw [if_pos c21] at H
                have c21b0 : (a0 == 15) = true := beq_iff_eq.mpr c21
                have c21b1 : (a0 != 15) = false := bne_eq_false_iff_eq.mpr c21
                clear c21
                by_cases c22 : a1 < 7258118400000000000
                · rw [if_pos c22] at H
                  have c22b0 : decide (a1 < 7258118400000000000) = true := decide_eq_true c22
                  clear c22
                  obtain rfl := Option.some.inj H
                  go_wp2
                  go_ret
                  exact ⟨by first | rfl | (simp; done) | (simp [*]; done) | (simp [*, bne]; done), by repeat (first | exact Drawn0.refl _ | apply Drawn0.step)⟩
                · rw [if_neg c22] at H
                  have c22b0 : decide (a1 < 7258118400000000000) = false := decide_eq_false c22
                  clear c22
                  obtain rfl := Option.some.inj H
                  go_wp2
                  go_ret
                  exact ⟨by first | rfl | (simp; done) | (simp [*]; done) | (simp [*, bne]; done), by repeat (first | exact Drawn0.refl _ | apply Drawn0.step)⟩
              · rw [if_neg c21] at H
                have c21b0 : (a0 == 15) = false := beq_eq_false_iff_ne.mpr c21
                have c21b1 : (a0 != 15) = true := bne_iff_ne.mpr c21
                by_cases c23 : a0 = 16
                · rw [if_pos c23] at H
                  have c23b0 : (a0 == 16) = true := beq_iff_eq.mpr c23
                  have c23b1 : (a0 != 16) = false := bne_eq_false_iff_eq.mpr c23
                  clear c23
                  obtain rfl := Option.some.inj H
                  go_wp2
                  go_ret
                  exact ⟨by first | rfl | (simp; done) | (simp [*]; done) | (simp [*, bne]; done), by repeat (first | exact Drawn0.refl _ | apply Drawn0.step)⟩
                · rw [if_neg c23] at H
                  have c23b0 : (a0 == 16) = false := beq_eq_false_iff_ne.mpr c23
                  have c23b1 : (a0 != 16) = true := bne_iff_ne.mpr c23
                  by_cases c24 : a0 = 17
                  · rw [if_pos c24] at H
                    have c24b0 : (a0 == 17) = true := beq_iff_eq.mpr c24
                    have c24b1 : (a0 != 17) = false := bne_eq_false_iff_eq.mpr c24
                    clear c24
                    obtain rfl := Option.some.inj H
                    go_wp2
                    go_ret
                    exact ⟨by first | rfl | (simp; done) | (simp [*]; done) | (simp [*, bne]; done), by repeat (first | exact Drawn0.refl _ | apply Drawn0.step)⟩
                  · rw [if_neg c24] at H
                    have c24b0 : (a0 == 17) = false := beq_eq_false_iff_ne.mpr c24
                    have c24b1 : (a0 != 17) = true := bne_iff_ne.mpr c24
                    obtain rfl := Option.some.inj H
                    go_wp2
                    go_ret
                    exact ⟨by first | rfl | (simp; done) | (simp [*]; done) | (simp [*, bne]; done), by repeat (first | exact Drawn0.refl _ | apply Drawn0.step)⟩

/-! ### value_May: function 6 -/
/-- Is a float, told by its bits, no number? -/
def nanB (b : Int) : Bool := FloatKind.f64.format.order b.toNat b.toNat != some .eq
def value_May.f (k : Nat) (a0 : Int) (a1 : Int) (a2 : ByteArray) : Option (Bool) :=
  if a0 = 19 then (if a1 = 0 then (some (decide ((a2.size : Int) ≤ 254))) else (some false)) else (if a2.toList = ([] : List UInt8) then (if a0 = 18 then (if nanB a1 = true then (some (a1 == 9221120237041090561)) else (some true)) else ((value_known.f a0).bind fun t900 => (if t900 = true then (value_fits.f k a0 a1) else (some false)))) else (some false))
theorem value_May.mono : ∀ a0 a1 a2 k, LeO (value_May.f k a0 a1 a2) (value_May.f (k + 1) a0 a1 a2) := by
  intro a0 a1 a2 k
  unfold value_May.f
  repeat' first
      | (with_reducible exact LeO.refl _)
      | (with_reducible exact LeO.none _)
      | (with_reducible exact value_fits.mono _ _ _)
      | (with_reducible refine LeO.ite ?_ ?_)
      | (with_reducible refine LeO.bind ?_ (fun _ => ?_))
theorem frombits_run (a : Int) (w : World) : (callFunc 15 #[.int .u64 a]).run Tryd.prog w = .ok (.value (.float .f64 a.toNat)) w := by
  rw [run_callFunc_extern (fn := Tryd.f15) (e := Extern.MathFloatBits.float64frombits) (by kernel_rfl) (by kernel_rfl) (by kernel_rfl) (by kernel_rfl) (by kernel_rfl)]
  rfl
theorem isnan_calls (b : Nat) (w : World) : Calls Tryd.prog 14 #[.float .f64 b] w fun e w' => e = .returned (.bool (FloatKind.f64.format.order b b != some .eq)) ∧ w = w' := by
  go_enter Tryd.func14, Tryd.ntmps14
  go_wp2
  go_ret
  exact ⟨rfl, rfl⟩
set_option maxHeartbeats 4000000 in
set_option maxRecDepth 100000 in
theorem value_May.calls (k : Nat) (a0_0 : Int) (a0_1 : Int) (a0_2 : ByteArray) (r : Bool) (w : World) (hL : LaidW w) (h : value_May.f k a0_0 a0_1 a0_2 = some r) :
    Calls Tryd.prog 6 #[.agg #[.int .u8 a0_0, .int .u64 a0_1, .string a0_2]] w fun e w' => e = .returned (.bool r) ∧ Below w.heap.size w w' := by
  have hu32 := Tryd.underlying25
  have hfb := frombits_run
  unfold value_May.f at h
  by_cases c0 : a0_0 = 19
  · rw [if_pos c0] at h
    have c0b : (a0_0 == 19) = true := beq_iff_eq.mpr c0
    clear c0
    by_cases c1 : a0_1 = 0
    · rw [if_pos c1] at h
      have c1b : (a0_1 == 0) = true := beq_iff_eq.mpr c1
      clear c1
      obtain rfl := Option.some.inj h
      go_enter Tryd.func6, Tryd.ntmps6
      go_wp2_with fail
      go_ret
      exact ⟨by first | rfl | simp, Go.Joins.below_alloc1 _ _⟩
    · rw [if_neg c1] at h
      have c1b : (a0_1 == 0) = false := beq_eq_false_iff_ne.mpr c1
      clear c1
      obtain rfl := Option.some.inj h
      go_enter Tryd.func6, Tryd.ntmps6
      go_wp2_with fail
      go_ret
      exact ⟨by first | rfl | simp, Go.Joins.below_alloc1 _ _⟩
  rw [if_neg c0] at h
  have c0b : (a0_0 == 19) = false := beq_eq_false_iff_ne.mpr c0
  clear c0
  by_cases c2 : a0_2.toList = []
  · rw [if_pos c2] at h
    have c2b : a0_2.toList.isEmpty = true := by rw [c2]; rfl
    by_cases c3 : a0_0 = 18
    · rw [if_pos c3] at h
      have c3b : (a0_0 == 18) = true := beq_iff_eq.mpr c3
      clear c3
      by_cases c4 : nanB a0_1 = true
      · rw [if_pos c4] at h
        unfold nanB at c4
        obtain rfl := Option.some.inj h
        go_enter Tryd.func6, Tryd.ntmps6
        go_wp2_with (go_at_call 14; refine (isnan_calls _ _).mono ?_; rintro e w' ⟨rfl, rfl⟩)
        go_ret
        exact ⟨by first | rfl | simp, by repeat (first | exact Below.refl _ _ | exact Go.Joins.below_alloc1 _ _ | apply below_drew1)⟩
      · rw [if_neg c4] at h
        unfold nanB at c4
        replace c4 := Bool.eq_false_iff.mpr c4
        obtain rfl := Option.some.inj h
        go_enter Tryd.func6, Tryd.ntmps6
        go_wp2_with (go_at_call 14; refine (isnan_calls _ _).mono ?_; rintro e w' ⟨rfl, rfl⟩)
        go_ret
        exact ⟨by first | rfl | simp, by repeat (first | exact Below.refl _ _ | exact Go.Joins.below_alloc1 _ _ | apply below_drew1)⟩
    · rw [if_neg c3] at h
      have c3b : (a0_0 == 18) = false := beq_eq_false_iff_ne.mpr c3
      clear c3
      obtain ⟨t, A0, H⟩ := Option.bind_eq_some_iff.mp h
      clear h
      have A := Aside0.mk A0
      clear A0
      cases t with
      | true =>
        have H : value_fits.f k a0_0 a0_1 = some r := H
        have B := Aside0.mk H
        clear H
        go_enter Tryd.func6, Tryd.ntmps6
        go_wp2_with (first | (go_at_call 16; refine (value_known.calls a0_0 true _ ?hl1 A.out).mono ?_; (case hl1 => refine LaidW.below hL ?_; repeat (first | exact Below.refl _ _ | exact Go.Joins.below_alloc1 _ _ | apply below_drew1 | apply pw_below_drewN)); rintro e w' ⟨rfl, nd, rfl⟩) | (go_at_call 17; refine (value_fits.calls k a0_0 a0_1 r _ ?hl2 B.out).mono ?_; (case hl2 => refine LaidW.below hL ?_; repeat (first | exact Below.refl _ _ | exact Go.Joins.below_alloc1 _ _ | apply below_drew1 | apply pw_below_drewN)); rintro e w' ⟨rfl, nd', rfl⟩))
        go_ret
        exact ⟨by first | rfl | simp, by repeat (first | exact Below.refl _ _ | exact Go.Joins.below_alloc1 _ _ | apply below_drew1 | apply pw_below_drewN)⟩
      | false =>
        have H : some false = some r := H
        obtain rfl := Option.some.inj H
        go_enter Tryd.func6, Tryd.ntmps6
        go_wp2_with (first | (go_at_call 16; refine (value_known.calls a0_0 false _ ?hl3 A.out).mono ?_; (case hl3 => refine LaidW.below hL ?_; repeat (first | exact Below.refl _ _ | exact Go.Joins.below_alloc1 _ _ | apply below_drew1 | apply pw_below_drewN)); rintro e w' ⟨rfl, nd, rfl⟩))
        go_ret
        exact ⟨by first | rfl | simp, by repeat (first | exact Below.refl _ _ | exact Go.Joins.below_alloc1 _ _ | apply below_drew1 | apply pw_below_drewN)⟩
  · rw [if_neg c2] at h
    have c2b : a0_2.toList.isEmpty = false := by simp [c2]
    obtain rfl := Option.some.inj h
    go_enter Tryd.func6, Tryd.ntmps6
    go_wp2_with fail
    go_ret
    exact ⟨by first | rfl | simp, Go.Joins.below_alloc1 _ _⟩

/-! ### strconv_FormatUint: function 18 -/
theorem len61 : Tryd.prog.arrayLen 61 = 24 := by simp [Program.arrayLen, Tryd.underlying61]
open Go.Sort Go.Lib in
set_option maxHeartbeats 6400000 in
set_option maxRecDepth 100000 in
theorem fmt_uint10 (u : Nat) (hu64 : u < 18446744073709551616) (w : World) (hL : LaidW w) :
    Calls Tryd.prog 31 #[.int .u64 u, .int .i64 10] w fun e w' => e = .returned (.string ⟨(Lib.decDigits u).toArray⟩) ∧ Below w.heap.size w w' := by
  by_cases hs : u < 100
  · have c1 : decide ((u : Int) < 100) = true := decide_eq_true (by omega)
    have hw : wrap64 (u : Int) = (u : Int) := by unfold wrap64; omega
    go_enter Tryd.func31, Tryd.ntmps31
    go_wp2_with (go_at_call 45; refine (Tryd.internal_strconv_small u hs _).mono ?_; rintro e w' ⟨rfl, rfl⟩)
    go_ret
    exact ⟨rfl, by repeat (first | exact Below.refl _ _ | apply below_drew1)⟩
  · have c1 : decide ((u : Int) < 100) = false := decide_eq_false (by omega)
    have hu1 : 1 ≤ u := by omega
    have hnd20 : Lib.nDigits u ≤ 20 := by have := Lib.numDigits_eq u hu1 hu64; split at this <;> omega
    have hsl1 : ∀ W, (Instr.sliceAt 61 (.pointer (some ⟨w.heap.size, 0, none⟩)) none (some (.int .i64 (Lib.nDigits u : Int))) none).run Tryd.prog W = .ok (.slice (some ⟨w.heap.size, 0, none⟩) (Lib.nDigits u) 24) W := fun W => by
      rw [run_sliceAt_array_h W 61 ⟨w.heap.size, 0, none⟩ (by simp [Program.arrayLen, Program.elem, Tryd.underlying61]) .i64 (Lib.nDigits u : Int) (by omega) (by rw [len61]; omega)]
      have := len61
      go_simp
      try omega
    have hH0 : Holds (fun (b : UInt8) => Value.int .u8 (b.toNat : Int)) (w.alloc (.cells Lib.zeros24 61)) w.heap.size 0 (Array.replicate (Lib.nDigits u) 0) := by
      intro j hj
      have hj' : j < Lib.nDigits u := by simpa using hj
      refine ⟨?_, World.frozen?_alloc_new _ _ _ _⟩
      rw [World.cell?_alloc_new, Nat.zero_add, Lib.zeros24_at _ (by omega), getElem!_pos _ j hj]
      simp
    have hfmt := Tryd.internal_strconv_formatBase10 w.heap.size 0 24 u (Array.replicate (Lib.nDigits u) 0) (w.alloc (.cells Lib.zeros24 61)) hH0 (by rw [Array.size_replicate]; exact Lib.lt_pow_nDigits u) hu64 (by rw [Array.size_replicate]; omega)
    rw [Array.size_replicate] at hfmt
    have HH0 := Lib.hid hH0
    have HF0 := Lib.hid hfmt
    have HLa := Lib.hid hL
    clear hH0 hL hfmt
    go_enter Tryd.func31, Tryd.ntmps31
    go_wp2_with (go_at_call 46; refine (Tryd.internal_strconv_numDigits u hu1 hu64 _ (Lib.tabIs_alloc HLa.out.pow _)).mono ?_; rintro e w' ⟨rfl, rfl⟩)
    go_at_call 47
    refine HF0.out.mono ?_
    rintro e w' ⟨rfl, k, v', dk, rfl, hF⟩
    have hcv : (convert 59 9 (.slice (some ⟨w.heap.size, 0, none⟩) (Lib.nDigits u) 24)).run Tryd.prog ((putRow (fun (b : UInt8) => Value.int .u8 (b.toNat : Int)) (w.alloc (.cells Lib.zeros24 61)) w.heap.size 0 dk).drewN k) = .ok (.string ⟨(Lib.decDigits u).toArray⟩) ((putRow (fun (b : UInt8) => Value.int .u8 (b.toNat : Int)) (w.alloc (.cells Lib.zeros24 61)) w.heap.size 0 dk).drewN k) := by
      have h := run_convert_bytes_back (P := Tryd.prog) ((putRow (fun (b : UInt8) => Value.int .u8 (b.toNat : Int)) (w.alloc (.cells Lib.zeros24 61)) w.heap.size 0 dk).drewN k) 59 9 5 ⟨w.heap.size, 0, none⟩ 24 (Lib.decDigits u) Tryd.underlying59 Tryd.underlying5 Tryd.underlying9 (fun j hj => by
        rw [Lib.row_is_numeral hF j hj, Lib.add_plain, World.cell?_drewN]
        exact cell?_putRow (fun (b : UInt8) => Value.int .u8 (b.toNat : Int)) _ w.heap.size 0 _ dk HH0.out (by rw [hF.size, Array.size_replicate]) j (by rw [hF.size]; rw [Lib.decDigits_length] at hj; exact hj))
      rw [Lib.decDigits_length] at h
      exact h
    have hbl : Below w.heap.size w ((putRow (fun (b : UInt8) => Value.int .u8 (b.toNat : Int)) (w.alloc (.cells Lib.zeros24 61)) w.heap.size 0 dk).drewN k) := by
      obtain ⟨os', _, e⟩ := putRow_grow_new (fun (b : UInt8) => Value.int .u8 (b.toNat : Int)) w #[.cells Lib.zeros24 61] w.heap.size 0 dk (Nat.le_refl _)
      rw [alloc_eq_grow, e]
      exact Lib.below_grow _ w (Nat.le_refl _) k os'
    have HB := Lib.hid hbl
    clear hbl HH0 HF0
    go_wp2
    go_ret
    exact ⟨rfl, by repeat (first | exact HB.out | apply below_drew1)⟩
/-- strconv.FormatUint, at base 10. -/
def strconv_FormatUint.f (a0 a1 : Int) : Option (ByteArray) := if a1 = 10 ∧ 0 ≤ a0 ∧ a0 < 18446744073709551616 then some (⟨(Lib.decDigits a0.toNat).toArray⟩ : ByteArray) else none
theorem strconv_FormatUint.calls (a0 a1 : Int) (r : ByteArray) (w : World) (hL : LaidW w) (h : strconv_FormatUint.f a0 a1 = some r) :
    Calls Tryd.prog 18 #[.int .u64 a0, .int .i64 a1] w fun e w' => e = .returned (.string r) ∧ Below w.heap.size w w' := by
  unfold strconv_FormatUint.f at h
  by_cases hc : a1 = 10 ∧ 0 ≤ a0 ∧ a0 < 18446744073709551616
  case neg => rw [if_neg hc] at h; cases h
  rw [if_pos hc] at h
  obtain rfl := Option.some.inj h
  obtain ⟨rfl, h0, h1⟩ := hc
  obtain ⟨u, rfl⟩ : ∃ u : Nat, a0 = u := ⟨a0.toNat, by omega⟩
  have HC := Lib.hid (fmt_uint10 u (by omega) w hL)
  clear h hL
  go_enter Tryd.func18, Tryd.ntmps18
  go_wp2_with (go_at_call 31; refine HC.out.mono ?_; rintro e w' ⟨rfl, hb⟩)
  go_ret
  exact ⟨rfl, by repeat (first | exact hb | apply below_drew1)⟩

end Go.Proofs.YteoehlcjllbhfaaDoor.XPrints
