-- WRITTEN BY wip/tools/xprint.py out of the translation: the kit's print with this work's hooks.
import Derived.Test.YtmdkbhbconnmmaaDoorXLexx0
import Derived.Test.YtmdkbhbconnmmaaDoorXLexx1
import Derived.Test.YtmdkbhbconnmmaaDoorXLexx2
namespace Go.Proofs.YtmdkbhbconnmmaaDoor.XLex
open Go.RowKit Go.Proofs.YtmdkbhbconnmmaaDoorW.PrintWords Go.Proofs.YtmdkbhbconnmmaaDoorW.PrintLast Go.Proofs.YtmdkbhbconnmmaaDoorW.PrintMore
attribute [local go_sem] max2_int min2_int max_two min_two max_three min_three max_four min_four   -- for this text's walks alone
set_option linter.unusedVariables false
set_option linter.unusedSimpArgs false

/-! ### relayref03_address: function 12 -/
mutual
def relayref03_address.j0 : Nat → ByteArray → Int → ByteArray → Bool → Option (Int)
  | 0, _, _, _, _ => none
  | k + 1, x0, x1, x5, x59 => if x59 = true then (some (-1)) else (relayref03_address.l0 k x0 x5 (wrap64 (x1 + 3)) (wrap64 (x1 + 3)))
def relayref03_address.j2 : Nat → ByteArray → ByteArray → Int → Int → Option (Int)
  | 0, _, _, _, _ => none
  | k + 1, x0, x5, x6, x7 => if x7 = x6 then (relayref03_address.j3 k x0 x5 x7 true) else (if (wrap64 (x7 - x6)) > 4 then (relayref03_address.j3 k x0 x5 x7 true) else (if (wrap64 (x7 - x6)) > 1 then (if 0 ≤ x6 then (if x6 < (x0.size : Int) then (relayref03_address.j3 k x0 x5 x7 ((bt x0 x6) == 48)) else (none)) else (none)) else (relayref03_address.j3 k x0 x5 x7 false)))
def relayref03_address.j3 : Nat → ByteArray → ByteArray → Int → Bool → Option (Int)
  | 0, _, _, _, _ => none
  | k + 1, x0, x5, x7, x95 => if x95 = true then (some (-1)) else (if 2 < (x5.size : Int) then (if (bt x5 2) = 88 then (if (wrap64 (x7 + 1)) ≥ (x0.size : Int) then (relayref03_address.j4 k x0 x7 true) else (if 0 ≤ x7 then (if x7 < (x0.size : Int) then (if (bt x0 x7) = 46 then (if 0 ≤ (wrap64 (x7 + 1)) then (if (wrap64 (x7 + 1)) < (x0.size : Int) then (if (bt x0 (wrap64 (x7 + 1))) < 48 then (relayref03_address.j4 k x0 x7 true) else (relayref03_address.j4 k x0 x7 (decide ((bt x0 (wrap64 (x7 + 1))) > 55)))) else (none)) else (none)) else (relayref03_address.j4 k x0 x7 true)) else (none)) else (none))) else (if x7 < (x0.size : Int) then (if 0 ≤ x7 then ((relayref03_inner.f (bt x0 x7)).bind fun t106 => (if t106 = true then (some (-1)) else (some x7))) else (none)) else (some x7))) else (none))
def relayref03_address.j4 : Nat → ByteArray → Int → Bool → Option (Int)
  | 0, _, _, _ => none
  | k + 1, x0, x7, x123 => if x123 = true then (some (-1)) else (if (wrap64 (x7 + 2)) < (x0.size : Int) then (if 0 ≤ (wrap64 (x7 + 2)) then ((relayref03_inner.f (bt x0 (wrap64 (x7 + 2)))).bind fun t105 => (if t105 = true then (some (-1)) else (some (wrap64 (x7 + 2))))) else (none)) else (some (wrap64 (x7 + 2))))
def relayref03_address.l0 : Nat → ByteArray → ByteArray → Int → Int → Option (Int)
  | 0, _, _, _, _ => none
  | k + 1, x0, x5, x6, x7 => if x7 < (x0.size : Int) then (if 0 ≤ x7 then ((relayref03_digit.f (bt x0 x7)).bind fun t104 => (if t104 = true then (relayref03_address.l0 k x0 x5 x6 (wrap64 (x7 + 1))) else (relayref03_address.j2 k x0 x5 x6 x7))) else (none)) else (relayref03_address.j2 k x0 x5 x6 x7)
end
def relayref03_address.f (k : Nat) (a0 : ByteArray) (a1 : Int) : Option (Int) := if 0 ≤ a1 then (if a1 ≤ (mn (a0.size : Int) (wrap64 (a1 + 3))) then (if (mn (a0.size : Int) (wrap64 (a1 + 3))) ≤ (a0.size : Int) then ((relayref03_Upper.f (a0.extract (a1 : Int).toNat ((mn (a0.size : Int) (wrap64 (a1 + 3))) : Int).toNat)).bind fun t103 => (if (t103.size : Int) < 3 then (relayref03_address.j0 k a0 a1 t103 true) else (if 1 < (t103.size : Int) then (if (bt t103 1) = 73 then (if 2 < (t103.size : Int) then (if (bt t103 2) = 88 then (relayref03_address.j0 k a0 a1 t103 false) else (if (bt t103 2) = 66 then (relayref03_address.j0 k a0 a1 t103 false) else (if (bt t103 2) = 87 then (relayref03_address.j0 k a0 a1 t103 false) else (if (bt t103 2) = 68 then (relayref03_address.j0 k a0 a1 t103 false) else (relayref03_address.j0 k a0 a1 t103 ((bt t103 2) != 76)))))) else (none)) else (if (bt t103 1) = 81 then (if 2 < (t103.size : Int) then (if (bt t103 2) = 88 then (relayref03_address.j0 k a0 a1 t103 false) else (if (bt t103 2) = 66 then (relayref03_address.j0 k a0 a1 t103 false) else (if (bt t103 2) = 87 then (relayref03_address.j0 k a0 a1 t103 false) else (if (bt t103 2) = 68 then (relayref03_address.j0 k a0 a1 t103 false) else (relayref03_address.j0 k a0 a1 t103 ((bt t103 2) != 76)))))) else (none)) else (if (bt t103 1) = 77 then (if 2 < (t103.size : Int) then (if (bt t103 2) = 88 then (relayref03_address.j0 k a0 a1 t103 false) else (if (bt t103 2) = 66 then (relayref03_address.j0 k a0 a1 t103 false) else (if (bt t103 2) = 87 then (relayref03_address.j0 k a0 a1 t103 false) else (if (bt t103 2) = 68 then (relayref03_address.j0 k a0 a1 t103 false) else (relayref03_address.j0 k a0 a1 t103 ((bt t103 2) != 76)))))) else (none)) else (relayref03_address.j0 k a0 a1 t103 true)))) else (none)))) else (none)) else (none)) else (none)
theorem relayref03_address.mono_l : ∀ k, (∀ y0 y1 y2 y3, LeO (relayref03_address.j0 k y0 y1 y2 y3) (relayref03_address.j0 (k + 1) y0 y1 y2 y3)) ∧ (∀ y0 y1 y2 y3, LeO (relayref03_address.j2 k y0 y1 y2 y3) (relayref03_address.j2 (k + 1) y0 y1 y2 y3)) ∧ (∀ y0 y1 y2 y3, LeO (relayref03_address.j3 k y0 y1 y2 y3) (relayref03_address.j3 (k + 1) y0 y1 y2 y3)) ∧ (∀ y0 y1 y2, LeO (relayref03_address.j4 k y0 y1 y2) (relayref03_address.j4 (k + 1) y0 y1 y2)) ∧ (∀ y0 y1 y2 y3, LeO (relayref03_address.l0 k y0 y1 y2 y3) (relayref03_address.l0 (k + 1) y0 y1 y2 y3))
  | 0 => ⟨fun _ _ _ _ r h => by simp [relayref03_address.j0] at h, fun _ _ _ _ r h => by simp [relayref03_address.j2] at h, fun _ _ _ _ r h => by simp [relayref03_address.j3] at h, fun _ _ _ r h => by simp [relayref03_address.j4] at h, fun _ _ _ _ r h => by simp [relayref03_address.l0] at h⟩
  | k + 1 => by
    obtain ⟨ih0, ih1, ih2, ih3, ih4⟩ := relayref03_address.mono_l k
    refine ⟨?_, ?_, ?_, ?_, ?_⟩
    · intro y0 y1 y2 y3
      unfold relayref03_address.j0
      repeat' first
      | (with_reducible exact ih0 _ _ _ _)
      | (with_reducible exact ih1 _ _ _ _)
      | (with_reducible exact ih2 _ _ _ _)
      | (with_reducible exact ih3 _ _ _)
      | (with_reducible exact ih4 _ _ _ _)
      | (with_reducible exact LeO.refl _)
      | (with_reducible exact LeO.none _)
      | (with_reducible refine LeO.ite ?_ ?_)
      | (with_reducible refine LeO.bind ?_ (fun _ => ?_))
      | exact ih0 _ _ _ _
      | exact ih1 _ _ _ _
      | exact ih2 _ _ _ _
      | exact ih3 _ _ _
      | exact ih4 _ _ _ _
      | exact LeO.none _
      | refine LeO.ite ?_ ?_
      | refine LeO.bind ?_ (fun _ => ?_)
    · intro y0 y1 y2 y3
      unfold relayref03_address.j2
      repeat' first
      | (with_reducible exact ih0 _ _ _ _)
      | (with_reducible exact ih1 _ _ _ _)
      | (with_reducible exact ih2 _ _ _ _)
      | (with_reducible exact ih3 _ _ _)
      | (with_reducible exact ih4 _ _ _ _)
      | (with_reducible exact LeO.refl _)
      | (with_reducible exact LeO.none _)
      | (with_reducible refine LeO.ite ?_ ?_)
      | (with_reducible refine LeO.bind ?_ (fun _ => ?_))
      | exact ih0 _ _ _ _
      | exact ih1 _ _ _ _
      | exact ih2 _ _ _ _
      | exact ih3 _ _ _
      | exact ih4 _ _ _ _
      | exact LeO.none _
      | refine LeO.ite ?_ ?_
      | refine LeO.bind ?_ (fun _ => ?_)
    · intro y0 y1 y2 y3
      unfold relayref03_address.j3
      repeat' first
      | (with_reducible exact ih0 _ _ _ _)
      | (with_reducible exact ih1 _ _ _ _)
      | (with_reducible exact ih2 _ _ _ _)
      | (with_reducible exact ih3 _ _ _)
      | (with_reducible exact ih4 _ _ _ _)
      | (with_reducible exact LeO.refl _)
      | (with_reducible exact LeO.none _)
      | (with_reducible refine LeO.ite ?_ ?_)
      | (with_reducible refine LeO.bind ?_ (fun _ => ?_))
      | exact ih0 _ _ _ _
      | exact ih1 _ _ _ _
      | exact ih2 _ _ _ _
      | exact ih3 _ _ _
      | exact ih4 _ _ _ _
      | exact LeO.none _
      | refine LeO.ite ?_ ?_
      | refine LeO.bind ?_ (fun _ => ?_)
    · intro y0 y1 y2
      unfold relayref03_address.j4
      repeat' first
      | (with_reducible exact ih0 _ _ _ _)
      | (with_reducible exact ih1 _ _ _ _)
      | (with_reducible exact ih2 _ _ _ _)
      | (with_reducible exact ih3 _ _ _)
      | (with_reducible exact ih4 _ _ _ _)
      | (with_reducible exact LeO.refl _)
      | (with_reducible exact LeO.none _)
      | (with_reducible refine LeO.ite ?_ ?_)
      | (with_reducible refine LeO.bind ?_ (fun _ => ?_))
      | exact ih0 _ _ _ _
      | exact ih1 _ _ _ _
      | exact ih2 _ _ _ _
      | exact ih3 _ _ _
      | exact ih4 _ _ _ _
      | exact LeO.none _
      | refine LeO.ite ?_ ?_
      | refine LeO.bind ?_ (fun _ => ?_)
    · intro y0 y1 y2 y3
      unfold relayref03_address.l0
      repeat' first
      | (with_reducible exact ih0 _ _ _ _)
      | (with_reducible exact ih1 _ _ _ _)
      | (with_reducible exact ih2 _ _ _ _)
      | (with_reducible exact ih3 _ _ _)
      | (with_reducible exact ih4 _ _ _ _)
      | (with_reducible exact LeO.refl _)
      | (with_reducible exact LeO.none _)
      | (with_reducible refine LeO.ite ?_ ?_)
      | (with_reducible refine LeO.bind ?_ (fun _ => ?_))
      | exact ih0 _ _ _ _
      | exact ih1 _ _ _ _
      | exact ih2 _ _ _ _
      | exact ih3 _ _ _
      | exact ih4 _ _ _ _
      | exact LeO.none _
      | refine LeO.ite ?_ ?_
      | refine LeO.bind ?_ (fun _ => ?_)
theorem relayref03_address.mono : ∀ a0 a1 k, LeO (relayref03_address.f k a0 a1) (relayref03_address.f (k + 1) a0 a1) := by
  intro a0 a1 k
  obtain ⟨ih0, ih1, ih2, ih3, ih4⟩ := relayref03_address.mono_l k
  unfold relayref03_address.f
  repeat' first
      | (with_reducible exact ih0 _ _ _ _)
      | (with_reducible exact ih1 _ _ _ _)
      | (with_reducible exact ih2 _ _ _ _)
      | (with_reducible exact ih3 _ _ _)
      | (with_reducible exact ih4 _ _ _ _)
      | (with_reducible exact LeO.refl _)
      | (with_reducible exact LeO.none _)
      | (with_reducible refine LeO.ite ?_ ?_)
      | (with_reducible refine LeO.bind ?_ (fun _ => ?_))
      | exact ih0 _ _ _ _
      | exact ih1 _ _ _ _
      | exact ih2 _ _ _ _
      | exact ih3 _ _ _
      | exact ih4 _ _ _ _
      | exact LeO.none _
      | refine LeO.ite ?_ ?_
      | refine LeO.bind ?_ (fun _ => ?_)
set_option maxHeartbeats 8000000 in
set_option maxRecDepth 100000 in
theorem relayref03_address.calls (k : Nat) (a0 : ByteArray) (a1 : Int) (r : Int) (w : World) (hL : LaidW w) (h : relayref03_address.f k a0 a1 = some r) :
    Calls Tryd.prog 12 #[.string a0, .int .i64 a1] w fun e w' => e = .returned (.int .i64 r) ∧ Below w.heap.size w w' := by
  have HLaid := Aside0.mk hL
  clear hL
  have HB := Aside0.mk (Below.refl w.heap.size w)
  have H : (if 0 ≤ a1 then (if a1 ≤ (mn (a0.size : Int) (wrap64 (a1 + 3))) then (if (mn (a0.size : Int) (wrap64 (a1 + 3))) ≤ (a0.size : Int) then ((relayref03_Upper.f (a0.extract (a1 : Int).toNat ((mn (a0.size : Int) (wrap64 (a1 + 3))) : Int).toNat)).bind fun t103 => (if (t103.size : Int) < 3 then (relayref03_address.j0 k a0 a1 t103 true) else (if 1 < (t103.size : Int) then (if (bt t103 1) = 73 then (if 2 < (t103.size : Int) then (if (bt t103 2) = 88 then (relayref03_address.j0 k a0 a1 t103 false) else (if (bt t103 2) = 66 then (relayref03_address.j0 k a0 a1 t103 false) else (if (bt t103 2) = 87 then (relayref03_address.j0 k a0 a1 t103 false) else (if (bt t103 2) = 68 then (relayref03_address.j0 k a0 a1 t103 false) else (relayref03_address.j0 k a0 a1 t103 ((bt t103 2) != 76)))))) else (none)) else (if (bt t103 1) = 81 then (if 2 < (t103.size : Int) then (if (bt t103 2) = 88 then (relayref03_address.j0 k a0 a1 t103 false) else (if (bt t103 2) = 66 then (relayref03_address.j0 k a0 a1 t103 false) else (if (bt t103 2) = 87 then (relayref03_address.j0 k a0 a1 t103 false) else (if (bt t103 2) = 68 then (relayref03_address.j0 k a0 a1 t103 false) else (relayref03_address.j0 k a0 a1 t103 ((bt t103 2) != 76)))))) else (none)) else (if (bt t103 1) = 77 then (if 2 < (t103.size : Int) then (if (bt t103 2) = 88 then (relayref03_address.j0 k a0 a1 t103 false) else (if (bt t103 2) = 66 then (relayref03_address.j0 k a0 a1 t103 false) else (if (bt t103 2) = 87 then (relayref03_address.j0 k a0 a1 t103 false) else (if (bt t103 2) = 68 then (relayref03_address.j0 k a0 a1 t103 false) else (relayref03_address.j0 k a0 a1 t103 ((bt t103 2) != 76)))))) else (none)) else (relayref03_address.j0 k a0 a1 t103 true)))) else (none)))) else (none)) else (none)) else (none)) = some r := h
  clear h
  obtain ⟨ji3, hji3⟩ : ∃ j_ : Int, (mn (a0.size : Int) (wrap64 (a1 + 3))) = j_ := ⟨_, rfl⟩
  replace H : (if 0 ≤ a1 then (if a1 ≤ (ji3) then (if (ji3) ≤ (a0.size : Int) then ((relayref03_Upper.f (a0.extract (a1 : Int).toNat ((ji3) : Int).toNat)).bind fun t103 => (if (t103.size : Int) < 3 then (relayref03_address.j0 k a0 a1 t103 true) else (if 1 < (t103.size : Int) then (if (bt t103 1) = 73 then (if 2 < (t103.size : Int) then (if (bt t103 2) = 88 then (relayref03_address.j0 k a0 a1 t103 false) else (if (bt t103 2) = 66 then (relayref03_address.j0 k a0 a1 t103 false) else (if (bt t103 2) = 87 then (relayref03_address.j0 k a0 a1 t103 false) else (if (bt t103 2) = 68 then (relayref03_address.j0 k a0 a1 t103 false) else (relayref03_address.j0 k a0 a1 t103 ((bt t103 2) != 76)))))) else (none)) else (if (bt t103 1) = 81 then (if 2 < (t103.size : Int) then (if (bt t103 2) = 88 then (relayref03_address.j0 k a0 a1 t103 false) else (if (bt t103 2) = 66 then (relayref03_address.j0 k a0 a1 t103 false) else (if (bt t103 2) = 87 then (relayref03_address.j0 k a0 a1 t103 false) else (if (bt t103 2) = 68 then (relayref03_address.j0 k a0 a1 t103 false) else (relayref03_address.j0 k a0 a1 t103 ((bt t103 2) != 76)))))) else (none)) else (if (bt t103 1) = 77 then (if 2 < (t103.size : Int) then (if (bt t103 2) = 88 then (relayref03_address.j0 k a0 a1 t103 false) else (if (bt t103 2) = 66 then (relayref03_address.j0 k a0 a1 t103 false) else (if (bt t103 2) = 87 then (relayref03_address.j0 k a0 a1 t103 false) else (if (bt t103 2) = 68 then (relayref03_address.j0 k a0 a1 t103 false) else (relayref03_address.j0 k a0 a1 t103 ((bt t103 2) != 76)))))) else (none)) else (relayref03_address.j0 k a0 a1 t103 true)))) else (none)))) else (none)) else (none)) else (none)) = some r := by first | (rw [hji3] at H; exact H) | (simp only [hji3] at H ⊢; exact H)
  have hji3_ : (if (wrap64 (a1 + 3)) < (a0.size : Int) then (wrap64 (a1 + 3)) else (a0.size : Int)) = ji3 := hji3
  by_cases c4 : 0 ≤ a1
  · rw [if_pos c4] at H
    have c4b0 := eq_true c4
    have c4b1 : decide (0 ≤ a1) = true := decide_eq_true c4
    clear c4
    by_cases c5 : a1 ≤ (ji3)
    · rw [if_pos c5] at H
      have c5b0 := eq_true c5
      have c5b1 : decide (a1 ≤ (ji3)) = true := decide_eq_true c5
      clear c5
      by_cases c6 : (ji3) ≤ (a0.size : Int)
      · rw [if_pos c6] at H
        have c6b0 := eq_true c6
        have c6b1 : decide ((ji3) ≤ (a0.size : Int)) = true := decide_eq_true c6
        clear c6
        replace H := Option.bind_eq_some_iff.mp H
        obtain ⟨t103, A70, H⟩ := H
        replace H : (if (t103.size : Int) < 3 then (relayref03_address.j0 k a0 a1 t103 true) else (if 1 < (t103.size : Int) then (if (bt t103 1) = 73 then (if 2 < (t103.size : Int) then (if (bt t103 2) = 88 then (relayref03_address.j0 k a0 a1 t103 false) else (if (bt t103 2) = 66 then (relayref03_address.j0 k a0 a1 t103 false) else (if (bt t103 2) = 87 then (relayref03_address.j0 k a0 a1 t103 false) else (if (bt t103 2) = 68 then (relayref03_address.j0 k a0 a1 t103 false) else (relayref03_address.j0 k a0 a1 t103 ((bt t103 2) != 76)))))) else (none)) else (if (bt t103 1) = 81 then (if 2 < (t103.size : Int) then (if (bt t103 2) = 88 then (relayref03_address.j0 k a0 a1 t103 false) else (if (bt t103 2) = 66 then (relayref03_address.j0 k a0 a1 t103 false) else (if (bt t103 2) = 87 then (relayref03_address.j0 k a0 a1 t103 false) else (if (bt t103 2) = 68 then (relayref03_address.j0 k a0 a1 t103 false) else (relayref03_address.j0 k a0 a1 t103 ((bt t103 2) != 76)))))) else (none)) else (if (bt t103 1) = 77 then (if 2 < (t103.size : Int) then (if (bt t103 2) = 88 then (relayref03_address.j0 k a0 a1 t103 false) else (if (bt t103 2) = 66 then (relayref03_address.j0 k a0 a1 t103 false) else (if (bt t103 2) = 87 then (relayref03_address.j0 k a0 a1 t103 false) else (if (bt t103 2) = 68 then (relayref03_address.j0 k a0 a1 t103 false) else (relayref03_address.j0 k a0 a1 t103 ((bt t103 2) != 76)))))) else (none)) else (relayref03_address.j0 k a0 a1 t103 true)))) else (none))) = some r := H
        have A7 := Aside0.mk A70
        clear A70
        have HC8 := Aside0.mk H
        clear H
        go_enter Tryd.func12, Tryd.ntmps12
        go_upto_region 2 with (first | ((with_reducible refine gate_callee (f := 11) rfl ?_); refine goesL_ (some 16) rfl rfl Tryd.func11 (by kernel_rfl) rfl #[.string (a0.extract (a1 : Int).toNat ((ji3) : Int).toNat)] rfl (by (try simp only [List.map_toArray, List.map_cons, List.map_nil]); first | done | (simp only [hji3]; rfl) | rfl | (simp only [List.length_drop, List.length_take]; rfl)) ?_; (with_reducible refine (relayref03_Upper.calls (a0.extract (a1 : Int).toNat ((ji3) : Int).toNat) t103 _ ?side1 A7.out).mono ?_); (case side1 => first | exact HLaid.out | (refine LaidW.below HLaid.out ?_; repeat (first | (with_reducible first | exact HB.out | apply below_alloc | apply pw_below_drewN | apply below_drew1) | exact HB.out))); rintro e w9 ⟨rfl, hb⟩; refine ⟨_, rfl, ?_⟩; have n0_ := Aside0.mk (below_step (by repeat (first | (with_reducible first | exact HB.out | apply below_alloc | apply pw_below_drewN | apply below_drew1) | exact HB.out)) hb); clear HB; have HB := n0_; clear n0_; (try clear hb); (try clear hb2); (try clear hk); (try clear hi)))
        (try simp only [Act.put, List.setIfInBounds_toArray, List.set_cons_zero, List.set_cons_succ])
        go_cut [59] (fun v59 wc => ∃ (kq : Nat) (x59_7 : Bool), v59 = .bool x59_7 ∧ Aside0 (relayref03_address.j0 kq a0 a1 t103 x59_7 = some r) ∧ Aside0 (kq ≤ k) ∧ Aside0 (Below w.heap.size w wc))
        case first =>
          have H := HC8.out
          clear HC8
          by_cases c10 : (t103.size : Int) < 3
          · rw [if_pos c10] at H
            have c10b0 : decide ((t103.size : Int) < 3) = true := decide_eq_true c10
            have c10b1 : decide (t103.size < 3) = true := decide_eq_true (by omega)
            clear c10
            (first | rw [c10b0] | (simp only [i64_w, i32_w]; rw [c10b0]) | skip)
            have H' := Aside0.mk H
            clear H
            go_wp2
            go_meet
            case rel => exact ⟨_, (true), (by first | rfl | (simp; done) | (simp [*]; done) | (simp [*, bne]; done)), H', ⟨by first | omega | exact Nat.le_refl _⟩, ⟨by repeat (first | (with_reducible first | exact HB.out | apply below_alloc | apply pw_below_drewN | apply below_drew1) | exact HB.out)⟩⟩
          · rw [if_neg c10] at H
            have c10b0 : decide ((t103.size : Int) < 3) = false := decide_eq_false c10
            have c10b1 : decide (t103.size < 3) = false := decide_eq_false (by omega)
            clear c10
            (first | rw [c10b0] | (simp only [i64_w, i32_w]; rw [c10b0]) | skip)
            by_cases c11 : 1 < (t103.size : Int)
            · rw [if_pos c11] at H
              have c11b0 : decide (1 < (t103.size : Int)) = true := decide_eq_true c11
              have c11b1 : decide (1 < t103.size) = true := decide_eq_true (by omega)
              clear c11
              by_cases c13 : (bt t103 1) = 73
              · rw [if_pos c13] at H
                have c13b0 : ((bt t103 1) == 73) = true := beq_iff_eq.mpr c13
                have c13b1 : ((bt t103 1) != 73) = false := bne_eq_false_iff_eq.mpr c13
                clear c13
                by_cases c14 : 2 < (t103.size : Int)
                · rw [if_pos c14] at H
                  have c14b0 : decide (2 < (t103.size : Int)) = true := decide_eq_true c14
                  have c14b1 : decide (2 < t103.size) = true := decide_eq_true (by omega)
                  clear c14
                  by_cases c16 : (bt t103 2) = 88
                  · rw [if_pos c16] at H
                    have c16b0 : ((bt t103 2) == 88) = true := beq_iff_eq.mpr c16
                    have c16b1 : ((bt t103 2) != 88) = false := bne_eq_false_iff_eq.mpr c16
                    clear c16
                    have H' := Aside0.mk H
                    clear H
                    have p12 : 0 ≤ (1 : Int) := (by omega)
                    have q12 : 1 < t103.size := (by have : (1 : Int) < (t103.size : Int) := of_decide_eq_true (by first | (with_reducible assumption) | assumption); omega)
                    have hx12 : ∀ h : 1 < t103.size, ((t103[1]'h).toNat : Int) = bt t103 1 := bt_at t103 1
                    clear p12
                    have qi12 : (1 < (t103.size : Int)) = True := eq_true (of_decide_eq_true (by first | (with_reducible assumption) | assumption))
                    replace q12 := eq_true q12
                    have p15 : 0 ≤ (2 : Int) := (by omega)
                    have q15 : 2 < t103.size := (by have : (2 : Int) < (t103.size : Int) := of_decide_eq_true (by first | (with_reducible assumption) | assumption); omega)
                    have hx15 : ∀ h : 2 < t103.size, ((t103[2]'h).toNat : Int) = bt t103 2 := bt_at t103 2
                    clear p15
                    have qi15 : (2 < (t103.size : Int)) = True := eq_true (of_decide_eq_true (by first | (with_reducible assumption) | assumption))
                    replace q15 := eq_true q15
                    go_wp2
                    go_meet
                    case rel => exact ⟨_, (false), (by first | rfl | (simp; done) | (simp [*]; done) | (simp [*, bne]; done)), H', ⟨by first | omega | exact Nat.le_refl _⟩, ⟨by repeat (first | (with_reducible first | exact HB.out | apply below_alloc | apply pw_below_drewN | apply below_drew1) | exact HB.out)⟩⟩
                  · rw [if_neg c16] at H
                    have c16b0 : ((bt t103 2) == 88) = false := beq_eq_false_iff_ne.mpr c16
                    have c16b1 : ((bt t103 2) != 88) = true := bne_iff_ne.mpr c16
                    by_cases c18 : (bt t103 2) = 66
                    · rw [if_pos c18] at H
                      have c18b0 : ((bt t103 2) == 66) = true := beq_iff_eq.mpr c18
                      have c18b1 : ((bt t103 2) != 66) = false := bne_eq_false_iff_eq.mpr c18
                      clear c18
                      have H' := Aside0.mk H
                      clear H
                      have p12 : 0 ≤ (1 : Int) := (by omega)
                      have q12 : 1 < t103.size := (by have : (1 : Int) < (t103.size : Int) := of_decide_eq_true (by first | (with_reducible assumption) | assumption); omega)
                      have hx12 : ∀ h : 1 < t103.size, ((t103[1]'h).toNat : Int) = bt t103 1 := bt_at t103 1
                      clear p12
                      have qi12 : (1 < (t103.size : Int)) = True := eq_true (of_decide_eq_true (by first | (with_reducible assumption) | assumption))
                      replace q12 := eq_true q12
                      have p15 : 0 ≤ (2 : Int) := (by omega)
                      have q15 : 2 < t103.size := (by have : (2 : Int) < (t103.size : Int) := of_decide_eq_true (by first | (with_reducible assumption) | assumption); omega)
                      have hx15 : ∀ h : 2 < t103.size, ((t103[2]'h).toNat : Int) = bt t103 2 := bt_at t103 2
                      clear p15
                      have qi15 : (2 < (t103.size : Int)) = True := eq_true (of_decide_eq_true (by first | (with_reducible assumption) | assumption))
                      replace q15 := eq_true q15
                      have p17 : 0 ≤ (2 : Int) := (by omega)
                      have q17 : 2 < t103.size := (by have : (2 : Int) < (t103.size : Int) := of_decide_eq_true (by first | (with_reducible assumption) | assumption); omega)
                      have hx17 : ∀ h : 2 < t103.size, ((t103[2]'h).toNat : Int) = bt t103 2 := bt_at t103 2
                      clear p17
                      have qi17 : (2 < (t103.size : Int)) = True := eq_true (of_decide_eq_true (by first | (with_reducible assumption) | assumption))
                      replace q17 := eq_true q17
                      go_wp2
                      go_meet
                      case rel => exact ⟨_, (false), (by first | rfl | (simp; done) | (simp [*]; done) | (simp [*, bne]; done)), H', ⟨by first | omega | exact Nat.le_refl _⟩, ⟨by repeat (first | (with_reducible first | exact HB.out | apply below_alloc | apply pw_below_drewN | apply below_drew1) | exact HB.out)⟩⟩
                    · rw [if_neg c18] at H
                      have c18b0 : ((bt t103 2) == 66) = false := beq_eq_false_iff_ne.mpr c18
                      have c18b1 : ((bt t103 2) != 66) = true := bne_iff_ne.mpr c18
                      by_cases c20 : (bt t103 2) = 87
                      · rw [if_pos c20] at H
                        have c20b0 : ((bt t103 2) == 87) = true := beq_iff_eq.mpr c20
                        have c20b1 : ((bt t103 2) != 87) = false := bne_eq_false_iff_eq.mpr c20
                        clear c20
                        have H' := Aside0.mk H
                        clear H
                        have p12 : 0 ≤ (1 : Int) := (by omega)
                        have q12 : 1 < t103.size := (by have : (1 : Int) < (t103.size : Int) := of_decide_eq_true (by first | (with_reducible assumption) | assumption); omega)
                        have hx12 : ∀ h : 1 < t103.size, ((t103[1]'h).toNat : Int) = bt t103 1 := bt_at t103 1
                        clear p12
                        have qi12 : (1 < (t103.size : Int)) = True := eq_true (of_decide_eq_true (by first | (with_reducible assumption) | assumption))
                        replace q12 := eq_true q12
                        have p15 : 0 ≤ (2 : Int) := (by omega)
                        have q15 : 2 < t103.size := (by have : (2 : Int) < (t103.size : Int) := of_decide_eq_true (by first | (with_reducible assumption) | assumption); omega)
                        have hx15 : ∀ h : 2 < t103.size, ((t103[2]'h).toNat : Int) = bt t103 2 := bt_at t103 2
                        clear p15
                        have qi15 : (2 < (t103.size : Int)) = True := eq_true (of_decide_eq_true (by first | (with_reducible assumption) | assumption))
                        replace q15 := eq_true q15
                        have p17 : 0 ≤ (2 : Int) := (by omega)
                        have q17 : 2 < t103.size := (by have : (2 : Int) < (t103.size : Int) := of_decide_eq_true (by first | (with_reducible assumption) | assumption); omega)
                        have hx17 : ∀ h : 2 < t103.size, ((t103[2]'h).toNat : Int) = bt t103 2 := bt_at t103 2
                        clear p17
                        have qi17 : (2 < (t103.size : Int)) = True := eq_true (of_decide_eq_true (by first | (with_reducible assumption) | assumption))
                        replace q17 := eq_true q17
                        have p19 : 0 ≤ (2 : Int) := (by omega)
                        have q19 : 2 < t103.size := (by have : (2 : Int) < (t103.size : Int) := of_decide_eq_true (by first | (with_reducible assumption) | assumption); omega)
                        have hx19 : ∀ h : 2 < t103.size, ((t103[2]'h).toNat : Int) = bt t103 2 := bt_at t103 2
                        clear p19
                        have qi19 : (2 < (t103.size : Int)) = True := eq_true (of_decide_eq_true (by first | (with_reducible assumption) | assumption))
                        replace q19 := eq_true q19
                        go_wp2
                        go_meet
                        case rel => exact ⟨_, (false), (by first | rfl | (simp; done) | (simp [*]; done) | (simp [*, bne]; done)), H', ⟨by first | omega | exact Nat.le_refl _⟩, ⟨by repeat (first | (with_reducible first | exact HB.out | apply below_alloc | apply pw_below_drewN | apply below_drew1) | exact HB.out)⟩⟩
                      · rw [if_neg c20] at H
                        have c20b0 : ((bt t103 2) == 87) = false := beq_eq_false_iff_ne.mpr c20
                        have c20b1 : ((bt t103 2) != 87) = true := bne_iff_ne.mpr c20
                        by_cases c22 : (bt t103 2) = 68
                        · rw [if_pos c22] at H
                          have c22b0 : ((bt t103 2) == 68) = true := beq_iff_eq.mpr c22
                          have c22b1 : ((bt t103 2) != 68) = false := bne_eq_false_iff_eq.mpr c22
                          clear c22
                          have H' := Aside0.mk H
                          clear H
                          have p12 : 0 ≤ (1 : Int) := (by omega)
                          have q12 : 1 < t103.size := (by have : (1 : Int) < (t103.size : Int) := of_decide_eq_true (by first | (with_reducible assumption) | assumption); omega)
                          have hx12 : ∀ h : 1 < t103.size, ((t103[1]'h).toNat : Int) = bt t103 1 := bt_at t103 1
                          clear p12
                          have qi12 : (1 < (t103.size : Int)) = True := eq_true (of_decide_eq_true (by first | (with_reducible assumption) | assumption))
                          replace q12 := eq_true q12
                          have p15 : 0 ≤ (2 : Int) := (by omega)
                          have q15 : 2 < t103.size := (by have : (2 : Int) < (t103.size : Int) := of_decide_eq_true (by first | (with_reducible assumption) | assumption); omega)
                          have hx15 : ∀ h : 2 < t103.size, ((t103[2]'h).toNat : Int) = bt t103 2 := bt_at t103 2
                          clear p15
                          have qi15 : (2 < (t103.size : Int)) = True := eq_true (of_decide_eq_true (by first | (with_reducible assumption) | assumption))
                          replace q15 := eq_true q15
                          have p17 : 0 ≤ (2 : Int) := (by omega)
                          have q17 : 2 < t103.size := (by have : (2 : Int) < (t103.size : Int) := of_decide_eq_true (by first | (with_reducible assumption) | assumption); omega)
                          have hx17 : ∀ h : 2 < t103.size, ((t103[2]'h).toNat : Int) = bt t103 2 := bt_at t103 2
                          clear p17
                          have qi17 : (2 < (t103.size : Int)) = True := eq_true (of_decide_eq_true (by first | (with_reducible assumption) | assumption))
                          replace q17 := eq_true q17
                          have p19 : 0 ≤ (2 : Int) := (by omega)
                          have q19 : 2 < t103.size := (by have : (2 : Int) < (t103.size : Int) := of_decide_eq_true (by first | (with_reducible assumption) | assumption); omega)
                          have hx19 : ∀ h : 2 < t103.size, ((t103[2]'h).toNat : Int) = bt t103 2 := bt_at t103 2
                          clear p19
                          have qi19 : (2 < (t103.size : Int)) = True := eq_true (of_decide_eq_true (by first | (with_reducible assumption) | assumption))
                          replace q19 := eq_true q19
                          have p21 : 0 ≤ (2 : Int) := (by omega)
                          have q21 : 2 < t103.size := (by have : (2 : Int) < (t103.size : Int) := of_decide_eq_true (by first | (with_reducible assumption) | assumption); omega)
                          have hx21 : ∀ h : 2 < t103.size, ((t103[2]'h).toNat : Int) = bt t103 2 := bt_at t103 2
                          clear p21
                          have qi21 : (2 < (t103.size : Int)) = True := eq_true (of_decide_eq_true (by first | (with_reducible assumption) | assumption))
                          replace q21 := eq_true q21
                          go_wp2
                          go_meet
                          case rel => exact ⟨_, (false), (by first | rfl | (simp; done) | (simp [*]; done) | (simp [*, bne]; done)), H', ⟨by first | omega | exact Nat.le_refl _⟩, ⟨by repeat (first | (with_reducible first | exact HB.out | apply below_alloc | apply pw_below_drewN | apply below_drew1) | exact HB.out)⟩⟩
                        · rw [if_neg c22] at H
                          have c22b0 : ((bt t103 2) == 68) = false := beq_eq_false_iff_ne.mpr c22
                          have c22b1 : ((bt t103 2) != 68) = true := bne_iff_ne.mpr c22
                          have H' := Aside0.mk H
                          clear H
                          have p12 : 0 ≤ (1 : Int) := (by omega)
                          have q12 : 1 < t103.size := (by have : (1 : Int) < (t103.size : Int) := of_decide_eq_true (by first | (with_reducible assumption) | assumption); omega)
                          have hx12 : ∀ h : 1 < t103.size, ((t103[1]'h).toNat : Int) = bt t103 1 := bt_at t103 1
                          clear p12
                          have qi12 : (1 < (t103.size : Int)) = True := eq_true (of_decide_eq_true (by first | (with_reducible assumption) | assumption))
                          replace q12 := eq_true q12
                          have p15 : 0 ≤ (2 : Int) := (by omega)
                          have q15 : 2 < t103.size := (by have : (2 : Int) < (t103.size : Int) := of_decide_eq_true (by first | (with_reducible assumption) | assumption); omega)
                          have hx15 : ∀ h : 2 < t103.size, ((t103[2]'h).toNat : Int) = bt t103 2 := bt_at t103 2
                          clear p15
                          have qi15 : (2 < (t103.size : Int)) = True := eq_true (of_decide_eq_true (by first | (with_reducible assumption) | assumption))
                          replace q15 := eq_true q15
                          have p17 : 0 ≤ (2 : Int) := (by omega)
                          have q17 : 2 < t103.size := (by have : (2 : Int) < (t103.size : Int) := of_decide_eq_true (by first | (with_reducible assumption) | assumption); omega)
                          have hx17 : ∀ h : 2 < t103.size, ((t103[2]'h).toNat : Int) = bt t103 2 := bt_at t103 2
                          clear p17
                          have qi17 : (2 < (t103.size : Int)) = True := eq_true (of_decide_eq_true (by first | (with_reducible assumption) | assumption))
                          replace q17 := eq_true q17
                          have p19 : 0 ≤ (2 : Int) := (by omega)
                          have q19 : 2 < t103.size := (by have : (2 : Int) < (t103.size : Int) := of_decide_eq_true (by first | (with_reducible assumption) | assumption); omega)
                          have hx19 : ∀ h : 2 < t103.size, ((t103[2]'h).toNat : Int) = bt t103 2 := bt_at t103 2
                          clear p19
                          have qi19 : (2 < (t103.size : Int)) = True := eq_true (of_decide_eq_true (by first | (with_reducible assumption) | assumption))
                          replace q19 := eq_true q19
                          have p21 : 0 ≤ (2 : Int) := (by omega)
                          have q21 : 2 < t103.size := (by have : (2 : Int) < (t103.size : Int) := of_decide_eq_true (by first | (with_reducible assumption) | assumption); omega)
                          have hx21 : ∀ h : 2 < t103.size, ((t103[2]'h).toNat : Int) = bt t103 2 := bt_at t103 2
                          clear p21
                          have qi21 : (2 < (t103.size : Int)) = True := eq_true (of_decide_eq_true (by first | (with_reducible assumption) | assumption))
                          replace q21 := eq_true q21
                          have p23 : 0 ≤ (2 : Int) := (by omega)
                          have q23 : 2 < t103.size := (by have : (2 : Int) < (t103.size : Int) := of_decide_eq_true (by first | (with_reducible assumption) | assumption); omega)
                          have hx23 : ∀ h : 2 < t103.size, ((t103[2]'h).toNat : Int) = bt t103 2 := bt_at t103 2
                          clear p23
                          have qi23 : (2 < (t103.size : Int)) = True := eq_true (of_decide_eq_true (by first | (with_reducible assumption) | assumption))
                          replace q23 := eq_true q23
                          go_wp2
                          go_meet
                          case rel => exact ⟨_, (((bt t103 2) != 76)), (by first | rfl | (simp; done) | (simp [*]; done) | (simp [*, bne]; done)), H', ⟨by first | omega | exact Nat.le_refl _⟩, ⟨by repeat (first | (with_reducible first | exact HB.out | apply below_alloc | apply pw_below_drewN | apply below_drew1) | exact HB.out)⟩⟩
                · rw [if_neg c14] at H
                  exact absurd H (by simp)
              · rw [if_neg c13] at H
                have c13b0 : ((bt t103 1) == 73) = false := beq_eq_false_iff_ne.mpr c13
                have c13b1 : ((bt t103 1) != 73) = true := bne_iff_ne.mpr c13
                by_cases c25 : (bt t103 1) = 81
                · rw [if_pos c25] at H
                  have c25b0 : ((bt t103 1) == 81) = true := beq_iff_eq.mpr c25
                  have c25b1 : ((bt t103 1) != 81) = false := bne_eq_false_iff_eq.mpr c25
                  clear c25
                  by_cases c26 : 2 < (t103.size : Int)
                  · rw [if_pos c26] at H
                    have c26b0 : decide (2 < (t103.size : Int)) = true := decide_eq_true c26
                    have c26b1 : decide (2 < t103.size) = true := decide_eq_true (by omega)
                    clear c26
                    by_cases c28 : (bt t103 2) = 88
                    · rw [if_pos c28] at H
                      have c28b0 : ((bt t103 2) == 88) = true := beq_iff_eq.mpr c28
                      have c28b1 : ((bt t103 2) != 88) = false := bne_eq_false_iff_eq.mpr c28
                      clear c28
                      have H' := Aside0.mk H
                      clear H
                      have p12 : 0 ≤ (1 : Int) := (by omega)
                      have q12 : 1 < t103.size := (by have : (1 : Int) < (t103.size : Int) := of_decide_eq_true (by first | (with_reducible assumption) | assumption); omega)
                      have hx12 : ∀ h : 1 < t103.size, ((t103[1]'h).toNat : Int) = bt t103 1 := bt_at t103 1
                      clear p12
                      have qi12 : (1 < (t103.size : Int)) = True := eq_true (of_decide_eq_true (by first | (with_reducible assumption) | assumption))
                      replace q12 := eq_true q12
                      have p24 : 0 ≤ (1 : Int) := (by omega)
                      have q24 : 1 < t103.size := (by have : (1 : Int) < (t103.size : Int) := of_decide_eq_true (by first | (with_reducible assumption) | assumption); omega)
                      have hx24 : ∀ h : 1 < t103.size, ((t103[1]'h).toNat : Int) = bt t103 1 := bt_at t103 1
                      clear p24
                      have qi24 : (1 < (t103.size : Int)) = True := eq_true (of_decide_eq_true (by first | (with_reducible assumption) | assumption))
                      replace q24 := eq_true q24
                      have p27 : 0 ≤ (2 : Int) := (by omega)
                      have q27 : 2 < t103.size := (by have : (2 : Int) < (t103.size : Int) := of_decide_eq_true (by first | (with_reducible assumption) | assumption); omega)
                      have hx27 : ∀ h : 2 < t103.size, ((t103[2]'h).toNat : Int) = bt t103 2 := bt_at t103 2
                      clear p27
                      have qi27 : (2 < (t103.size : Int)) = True := eq_true (of_decide_eq_true (by first | (with_reducible assumption) | assumption))
                      replace q27 := eq_true q27
                      go_wp2
                      go_meet
                      case rel => exact ⟨_, (false), (by first | rfl | (simp; done) | (simp [*]; done) | (simp [*, bne]; done)), H', ⟨by first | omega | exact Nat.le_refl _⟩, ⟨by repeat (first | (with_reducible first | exact HB.out | apply below_alloc | apply pw_below_drewN | apply below_drew1) | exact HB.out)⟩⟩
                    · rw [if_neg c28] at H
                      have c28b0 : ((bt t103 2) == 88) = false := beq_eq_false_iff_ne.mpr c28
                      have c28b1 : ((bt t103 2) != 88) = true := bne_iff_ne.mpr c28
                      by_cases c30 : (bt t103 2) = 66
                      · rw [if_pos c30] at H
                        have c30b0 : ((bt t103 2) == 66) = true := beq_iff_eq.mpr c30
                        have c30b1 : ((bt t103 2) != 66) = false := bne_eq_false_iff_eq.mpr c30
                        clear c30
                        have H' := Aside0.mk H
                        clear H
                        have p12 : 0 ≤ (1 : Int) := (by omega)
                        have q12 : 1 < t103.size := (by have : (1 : Int) < (t103.size : Int) := of_decide_eq_true (by first | (with_reducible assumption) | assumption); omega)
                        have hx12 : ∀ h : 1 < t103.size, ((t103[1]'h).toNat : Int) = bt t103 1 := bt_at t103 1
                        clear p12
                        have qi12 : (1 < (t103.size : Int)) = True := eq_true (of_decide_eq_true (by first | (with_reducible assumption) | assumption))
                        replace q12 := eq_true q12
                        have p24 : 0 ≤ (1 : Int) := (by omega)
                        have q24 : 1 < t103.size := (by have : (1 : Int) < (t103.size : Int) := of_decide_eq_true (by first | (with_reducible assumption) | assumption); omega)
                        have hx24 : ∀ h : 1 < t103.size, ((t103[1]'h).toNat : Int) = bt t103 1 := bt_at t103 1
                        clear p24
                        have qi24 : (1 < (t103.size : Int)) = True := eq_true (of_decide_eq_true (by first | (with_reducible assumption) | assumption))
                        replace q24 := eq_true q24
                        have p27 : 0 ≤ (2 : Int) := (by omega)
                        have q27 : 2 < t103.size := (by have : (2 : Int) < (t103.size : Int) := of_decide_eq_true (by first | (with_reducible assumption) | assumption); omega)
                        have hx27 : ∀ h : 2 < t103.size, ((t103[2]'h).toNat : Int) = bt t103 2 := bt_at t103 2
                        clear p27
                        have qi27 : (2 < (t103.size : Int)) = True := eq_true (of_decide_eq_true (by first | (with_reducible assumption) | assumption))
                        replace q27 := eq_true q27
                        have p29 : 0 ≤ (2 : Int) := (by omega)
                        have q29 : 2 < t103.size := (by have : (2 : Int) < (t103.size : Int) := of_decide_eq_true (by first | (with_reducible assumption) | assumption); omega)
                        have hx29 : ∀ h : 2 < t103.size, ((t103[2]'h).toNat : Int) = bt t103 2 := bt_at t103 2
                        clear p29
                        have qi29 : (2 < (t103.size : Int)) = True := eq_true (of_decide_eq_true (by first | (with_reducible assumption) | assumption))
                        replace q29 := eq_true q29
                        go_wp2
                        go_meet
                        case rel => exact ⟨_, (false), (by first | rfl | (simp; done) | (simp [*]; done) | (simp [*, bne]; done)), H', ⟨by first | omega | exact Nat.le_refl _⟩, ⟨by repeat (first | (with_reducible first | exact HB.out | apply below_alloc | apply pw_below_drewN | apply below_drew1) | exact HB.out)⟩⟩
                      · rw [if_neg c30] at H
                        have c30b0 : ((bt t103 2) == 66) = false := beq_eq_false_iff_ne.mpr c30
                        have c30b1 : ((bt t103 2) != 66) = true := bne_iff_ne.mpr c30
                        by_cases c32 : (bt t103 2) = 87
                        · rw [if_pos c32] at H
                          have c32b0 : ((bt t103 2) == 87) = true := beq_iff_eq.mpr c32
                          have c32b1 : ((bt t103 2) != 87) = false := bne_eq_false_iff_eq.mpr c32
                          clear c32
                          have H' := Aside0.mk H
                          clear H
                          have p12 : 0 ≤ (1 : Int) := (by omega)
                          have q12 : 1 < t103.size := (by have : (1 : Int) < (t103.size : Int) := of_decide_eq_true (by first | (with_reducible assumption) | assumption); omega)
                          have hx12 : ∀ h : 1 < t103.size, ((t103[1]'h).toNat : Int) = bt t103 1 := bt_at t103 1
                          clear p12
                          have qi12 : (1 < (t103.size : Int)) = True := eq_true (of_decide_eq_true (by first | (with_reducible assumption) | assumption))
                          replace q12 := eq_true q12
                          have p24 : 0 ≤ (1 : Int) := (by omega)
                          have q24 : 1 < t103.size := (by have : (1 : Int) < (t103.size : Int) := of_decide_eq_true (by first | (with_reducible assumption) | assumption); omega)
                          have hx24 : ∀ h : 1 < t103.size, ((t103[1]'h).toNat : Int) = bt t103 1 := bt_at t103 1
                          clear p24
                          have qi24 : (1 < (t103.size : Int)) = True := eq_true (of_decide_eq_true (by first | (with_reducible assumption) | assumption))
                          replace q24 := eq_true q24
                          have p27 : 0 ≤ (2 : Int) := (by omega)
                          have q27 : 2 < t103.size := (by have : (2 : Int) < (t103.size : Int) := of_decide_eq_true (by first | (with_reducible assumption) | assumption); omega)
                          have hx27 : ∀ h : 2 < t103.size, ((t103[2]'h).toNat : Int) = bt t103 2 := bt_at t103 2
                          clear p27
                          have qi27 : (2 < (t103.size : Int)) = True := eq_true (of_decide_eq_true (by first | (with_reducible assumption) | assumption))
                          replace q27 := eq_true q27
                          have p29 : 0 ≤ (2 : Int) := (by omega)
                          have q29 : 2 < t103.size := (by have : (2 : Int) < (t103.size : Int) := of_decide_eq_true (by first | (with_reducible assumption) | assumption); omega)
                          have hx29 : ∀ h : 2 < t103.size, ((t103[2]'h).toNat : Int) = bt t103 2 := bt_at t103 2
                          clear p29
                          have qi29 : (2 < (t103.size : Int)) = True := eq_true (of_decide_eq_true (by first | (with_reducible assumption) | assumption))
                          replace q29 := eq_true q29
                          have p31 : 0 ≤ (2 : Int) := (by omega)
                          have q31 : 2 < t103.size := (by have : (2 : Int) < (t103.size : Int) := of_decide_eq_true (by first | (with_reducible assumption) | assumption); omega)
                          have hx31 : ∀ h : 2 < t103.size, ((t103[2]'h).toNat : Int) = bt t103 2 := bt_at t103 2
                          clear p31
                          have qi31 : (2 < (t103.size : Int)) = True := eq_true (of_decide_eq_true (by first | (with_reducible assumption) | assumption))
                          replace q31 := eq_true q31
                          go_wp2
                          go_meet
                          case rel => exact ⟨_, (false), (by first | rfl | (simp; done) | (simp [*]; done) | (simp [*, bne]; done)), H', ⟨by first | omega | exact Nat.le_refl _⟩, ⟨by repeat (first | (with_reducible first | exact HB.out | apply below_alloc | apply pw_below_drewN | apply below_drew1) | exact HB.out)⟩⟩
                        · rw [if_neg c32] at H
                          have c32b0 : ((bt t103 2) == 87) = false := beq_eq_false_iff_ne.mpr c32
                          have c32b1 : ((bt t103 2) != 87) = true := bne_iff_ne.mpr c32
                          by_cases c34 : (bt t103 2) = 68
                          · rw [if_pos c34] at H
                            have c34b0 : ((bt t103 2) == 68) = true := beq_iff_eq.mpr c34
                            have c34b1 : ((bt t103 2) != 68) = false := bne_eq_false_iff_eq.mpr c34
                            clear c34
                            have H' := Aside0.mk H
                            clear H
                            have p12 : 0 ≤ (1 : Int) := (by omega)
                            have q12 : 1 < t103.size := (by have : (1 : Int) < (t103.size : Int) := of_decide_eq_true (by first | (with_reducible assumption) | assumption); omega)
                            have hx12 : ∀ h : 1 < t103.size, ((t103[1]'h).toNat : Int) = bt t103 1 := bt_at t103 1
                            clear p12
                            have qi12 : (1 < (t103.size : Int)) = True := eq_true (of_decide_eq_true (by first | (with_reducible assumption) | assumption))
                            replace q12 := eq_true q12
                            have p24 : 0 ≤ (1 : Int) := (by omega)
                            have q24 : 1 < t103.size := (by have : (1 : Int) < (t103.size : Int) := of_decide_eq_true (by first | (with_reducible assumption) | assumption); omega)
                            have hx24 : ∀ h : 1 < t103.size, ((t103[1]'h).toNat : Int) = bt t103 1 := bt_at t103 1
                            clear p24
                            have qi24 : (1 < (t103.size : Int)) = True := eq_true (of_decide_eq_true (by first | (with_reducible assumption) | assumption))
                            replace q24 := eq_true q24
                            have p27 : 0 ≤ (2 : Int) := (by omega)
                            have q27 : 2 < t103.size := (by have : (2 : Int) < (t103.size : Int) := of_decide_eq_true (by first | (with_reducible assumption) | assumption); omega)
                            have hx27 : ∀ h : 2 < t103.size, ((t103[2]'h).toNat : Int) = bt t103 2 := bt_at t103 2
                            clear p27
                            have qi27 : (2 < (t103.size : Int)) = True := eq_true (of_decide_eq_true (by first | (with_reducible assumption) | assumption))
                            replace q27 := eq_true q27
                            have p29 : 0 ≤ (2 : Int) := (by omega)
                            have q29 : 2 < t103.size := (by have : (2 : Int) < (t103.size : Int) := of_decide_eq_true (by first | (with_reducible assumption) | assumption); omega)
                            have hx29 : ∀ h : 2 < t103.size, ((t103[2]'h).toNat : Int) = bt t103 2 := bt_at t103 2
                            clear p29
                            have qi29 : (2 < (t103.size : Int)) = True := eq_true (of_decide_eq_true (by first | (with_reducible assumption) | assumption))
                            replace q29 := eq_true q29
                            have p31 : 0 ≤ (2 : Int) := (by omega)
                            have q31 : 2 < t103.size := (by have : (2 : Int) < (t103.size : Int) := of_decide_eq_true (by first | (with_reducible assumption) | assumption); omega)
                            have hx31 : ∀ h : 2 < t103.size, ((t103[2]'h).toNat : Int) = bt t103 2 := bt_at t103 2
                            clear p31
                            have qi31 : (2 < (t103.size : Int)) = True := eq_true (of_decide_eq_true (by first | (with_reducible assumption) | assumption))
                            replace q31 := eq_true q31
                            have p33 : 0 ≤ (2 : Int) := (by omega)
                            have q33 : 2 < t103.size := (by have : (2 : Int) < (t103.size : Int) := of_decide_eq_true (by first | (with_reducible assumption) | assumption); omega)
                            have hx33 : ∀ h : 2 < t103.size, ((t103[2]'h).toNat : Int) = bt t103 2 := bt_at t103 2
                            clear p33
                            have qi33 : (2 < (t103.size : Int)) = True := eq_true (of_decide_eq_true (by first | (with_reducible assumption) | assumption))
                            replace q33 := eq_true q33
                            go_wp2
                            go_meet
                            case rel => exact ⟨_, (false), (by first | rfl | (simp; done) | (simp [*]; done) | (simp [*, bne]; done)), H', ⟨by first | omega | exact Nat.le_refl _⟩, ⟨by repeat (first | (with_reducible first | exact HB.out | apply below_alloc | apply pw_below_drewN | apply below_drew1) | exact HB.out)⟩⟩
                          · rw [if_neg c34] at H
                            have c34b0 : ((bt t103 2) == 68) = false := beq_eq_false_iff_ne.mpr c34
                            have c34b1 : ((bt t103 2) != 68) = true := bne_iff_ne.mpr c34
                            have H' := Aside0.mk H
                            clear H
                            have p12 : 0 ≤ (1 : Int) := (by omega)
                            have q12 : 1 < t103.size := (by have : (1 : Int) < (t103.size : Int) := of_decide_eq_true (by first | (with_reducible assumption) | assumption); omega)
                            have hx12 : ∀ h : 1 < t103.size, ((t103[1]'h).toNat : Int) = bt t103 1 := bt_at t103 1
                            clear p12
                            have qi12 : (1 < (t103.size : Int)) = True := eq_true (of_decide_eq_true (by first | (with_reducible assumption) | assumption))
                            replace q12 := eq_true q12
                            have p24 : 0 ≤ (1 : Int) := (by omega)
                            have q24 : 1 < t103.size := (by have : (1 : Int) < (t103.size : Int) := of_decide_eq_true (by first | (with_reducible assumption) | assumption); omega)
                            have hx24 : ∀ h : 1 < t103.size, ((t103[1]'h).toNat : Int) = bt t103 1 := bt_at t103 1
                            clear p24
                            have qi24 : (1 < (t103.size : Int)) = True := eq_true (of_decide_eq_true (by first | (with_reducible assumption) | assumption))
                            replace q24 := eq_true q24
                            have p27 : 0 ≤ (2 : Int) := (by omega)
                            have q27 : 2 < t103.size := (by have : (2 : Int) < (t103.size : Int) := of_decide_eq_true (by first | (with_reducible assumption) | assumption); omega)
                            have hx27 : ∀ h : 2 < t103.size, ((t103[2]'h).toNat : Int) = bt t103 2 := bt_at t103 2
                            clear p27
                            have qi27 : (2 < (t103.size : Int)) = True := eq_true (of_decide_eq_true (by first | (with_reducible assumption) | assumption))
                            replace q27 := eq_true q27
                            have p29 : 0 ≤ (2 : Int) := (by omega)
                            have q29 : 2 < t103.size := (by have : (2 : Int) < (t103.size : Int) := of_decide_eq_true (by first | (with_reducible assumption) | assumption); omega)
                            have hx29 : ∀ h : 2 < t103.size, ((t103[2]'h).toNat : Int) = bt t103 2 := bt_at t103 2
                            clear p29
                            have qi29 : (2 < (t103.size : Int)) = True := eq_true (of_decide_eq_true (by first | (with_reducible assumption) | assumption))
                            replace q29 := eq_true q29
                            have p31 : 0 ≤ (2 : Int) := (by omega)
                            have q31 : 2 < t103.size := (by have : (2 : Int) < (t103.size : Int) := of_decide_eq_true (by first | (with_reducible assumption) | assumption); omega)
                            have hx31 : ∀ h : 2 < t103.size, ((t103[2]'h).toNat : Int) = bt t103 2 := bt_at t103 2
                            clear p31
                            have qi31 : (2 < (t103.size : Int)) = True := eq_true (of_decide_eq_true (by first | (with_reducible assumption) | assumption))
                            replace q31 := eq_true q31
                            have p33 : 0 ≤ (2 : Int) := (by omega)
                            have q33 : 2 < t103.size := (by have : (2 : Int) < (t103.size : Int) := of_decide_eq_true (by first | (with_reducible assumption) | assumption); omega)
                            have hx33 : ∀ h : 2 < t103.size, ((t103[2]'h).toNat : Int) = bt t103 2 := bt_at t103 2
                            clear p33
                            have qi33 : (2 < (t103.size : Int)) = True := eq_true (of_decide_eq_true (by first | (with_reducible assumption) | assumption))
                            replace q33 := eq_true q33
                            have p35 : 0 ≤ (2 : Int) := (by omega)
                            have q35 : 2 < t103.size := (by have : (2 : Int) < (t103.size : Int) := of_decide_eq_true (by first | (with_reducible assumption) | assumption); omega)
                            have hx35 : ∀ h : 2 < t103.size, ((t103[2]'h).toNat : Int) = bt t103 2 := bt_at t103 2
                            clear p35
                            have qi35 : (2 < (t103.size : Int)) = True := eq_true (of_decide_eq_true (by first | (with_reducible assumption) | assumption))
                            replace q35 := eq_true q35
                            go_wp2
                            go_meet
                            case rel => exact ⟨_, (((bt t103 2) != 76)), (by first | rfl | (simp; done) | (simp [*]; done) | (simp [*, bne]; done)), H', ⟨by first | omega | exact Nat.le_refl _⟩, ⟨by repeat (first | (with_reducible first | exact HB.out | apply below_alloc | apply pw_below_drewN | apply below_drew1) | exact HB.out)⟩⟩
                  · rw [if_neg c26] at H
                    exact absurd H (by simp)
                · rw [if_neg c25] at H
                  have c25b0 : ((bt t103 1) == 81) = false := beq_eq_false_iff_ne.mpr c25
                  have c25b1 : ((bt t103 1) != 81) = true := bne_iff_ne.mpr c25
                  by_cases c37 : (bt t103 1) = 77
                  · rw [if_pos c37] at H
                    have c37b0 : ((bt t103 1) == 77) = true := beq_iff_eq.mpr c37
                    have c37b1 : ((bt t103 1) != 77) = false := bne_eq_false_iff_eq.mpr c37
                    clear c37
                    by_cases c38 : 2 < (t103.size : Int)
                    · rw [if_pos c38] at H
                      have c38b0 : decide (2 < (t103.size : Int)) = true := decide_eq_true c38
                      have c38b1 : decide (2 < t103.size) = true := decide_eq_true (by omega)
                      clear c38
                      by_cases c40 : (bt t103 2) = 88
                      · rw [if_pos c40] at H
                        have c40b0 : ((bt t103 2) == 88) = true := beq_iff_eq.mpr c40
                        have c40b1 : ((bt t103 2) != 88) = false := bne_eq_false_iff_eq.mpr c40
                        clear c40
                        have H' := Aside0.mk H
                        clear H
                        have p12 : 0 ≤ (1 : Int) := (by omega)
                        have q12 : 1 < t103.size := (by have : (1 : Int) < (t103.size : Int) := of_decide_eq_true (by first | (with_reducible assumption) | assumption); omega)
                        have hx12 : ∀ h : 1 < t103.size, ((t103[1]'h).toNat : Int) = bt t103 1 := bt_at t103 1
                        clear p12
                        have qi12 : (1 < (t103.size : Int)) = True := eq_true (of_decide_eq_true (by first | (with_reducible assumption) | assumption))
                        replace q12 := eq_true q12
                        have p24 : 0 ≤ (1 : Int) := (by omega)
                        have q24 : 1 < t103.size := (by have : (1 : Int) < (t103.size : Int) := of_decide_eq_true (by first | (with_reducible assumption) | assumption); omega)
                        have hx24 : ∀ h : 1 < t103.size, ((t103[1]'h).toNat : Int) = bt t103 1 := bt_at t103 1
                        clear p24
                        have qi24 : (1 < (t103.size : Int)) = True := eq_true (of_decide_eq_true (by first | (with_reducible assumption) | assumption))
                        replace q24 := eq_true q24
                        have p36 : 0 ≤ (1 : Int) := (by omega)
                        have q36 : 1 < t103.size := (by have : (1 : Int) < (t103.size : Int) := of_decide_eq_true (by first | (with_reducible assumption) | assumption); omega)
                        have hx36 : ∀ h : 1 < t103.size, ((t103[1]'h).toNat : Int) = bt t103 1 := bt_at t103 1
                        clear p36
                        have qi36 : (1 < (t103.size : Int)) = True := eq_true (of_decide_eq_true (by first | (with_reducible assumption) | assumption))
                        replace q36 := eq_true q36
                        have p39 : 0 ≤ (2 : Int) := (by omega)
                        have q39 : 2 < t103.size := (by have : (2 : Int) < (t103.size : Int) := of_decide_eq_true (by first | (with_reducible assumption) | assumption); omega)
                        have hx39 : ∀ h : 2 < t103.size, ((t103[2]'h).toNat : Int) = bt t103 2 := bt_at t103 2
                        clear p39
                        have qi39 : (2 < (t103.size : Int)) = True := eq_true (of_decide_eq_true (by first | (with_reducible assumption) | assumption))
                        replace q39 := eq_true q39
                        go_wp2
                        go_meet
                        case rel => exact ⟨_, (false), (by first | rfl | (simp; done) | (simp [*]; done) | (simp [*, bne]; done)), H', ⟨by first | omega | exact Nat.le_refl _⟩, ⟨by repeat (first | (with_reducible first | exact HB.out | apply below_alloc | apply pw_below_drewN | apply below_drew1) | exact HB.out)⟩⟩
                      · rw [if_neg c40] at H
                        have c40b0 : ((bt t103 2) == 88) = false := beq_eq_false_iff_ne.mpr c40
                        have c40b1 : ((bt t103 2) != 88) = true := bne_iff_ne.mpr c40
                        by_cases c42 : (bt t103 2) = 66
                        · rw [if_pos c42] at H
                          have c42b0 : ((bt t103 2) == 66) = true := beq_iff_eq.mpr c42
                          have c42b1 : ((bt t103 2) != 66) = false := bne_eq_false_iff_eq.mpr c42
                          clear c42
                          have H' := Aside0.mk H
                          clear H
                          have p12 : 0 ≤ (1 : Int) := (by omega)
                          have q12 : 1 < t103.size := (by have : (1 : Int) < (t103.size : Int) := of_decide_eq_true (by first | (with_reducible assumption) | assumption); omega)
                          have hx12 : ∀ h : 1 < t103.size, ((t103[1]'h).toNat : Int) = bt t103 1 := bt_at t103 1
                          clear p12
                          have qi12 : (1 < (t103.size : Int)) = True := eq_true (of_decide_eq_true (by first | (with_reducible assumption) | assumption))
                          replace q12 := eq_true q12
                          have p24 : 0 ≤ (1 : Int) := (by omega)
                          have q24 : 1 < t103.size := (by have : (1 : Int) < (t103.size : Int) := of_decide_eq_true (by first | (with_reducible assumption) | assumption); omega)
                          have hx24 : ∀ h : 1 < t103.size, ((t103[1]'h).toNat : Int) = bt t103 1 := bt_at t103 1
                          clear p24
                          have qi24 : (1 < (t103.size : Int)) = True := eq_true (of_decide_eq_true (by first | (with_reducible assumption) | assumption))
                          replace q24 := eq_true q24
                          have p36 : 0 ≤ (1 : Int) := (by omega)
                          have q36 : 1 < t103.size := (by have : (1 : Int) < (t103.size : Int) := of_decide_eq_true (by first | (with_reducible assumption) | assumption); omega)
                          have hx36 : ∀ h : 1 < t103.size, ((t103[1]'h).toNat : Int) = bt t103 1 := bt_at t103 1
                          clear p36
                          have qi36 : (1 < (t103.size : Int)) = True := eq_true (of_decide_eq_true (by first | (with_reducible assumption) | assumption))
                          replace q36 := eq_true q36
                          have p39 : 0 ≤ (2 : Int) := (by omega)
                          have q39 : 2 < t103.size := (by have : (2 : Int) < (t103.size : Int) := of_decide_eq_true (by first | (with_reducible assumption) | assumption); omega)
                          have hx39 : ∀ h : 2 < t103.size, ((t103[2]'h).toNat : Int) = bt t103 2 := bt_at t103 2
                          clear p39
                          have qi39 : (2 < (t103.size : Int)) = True := eq_true (of_decide_eq_true (by first | (with_reducible assumption) | assumption))
                          replace q39 := eq_true q39
                          have p41 : 0 ≤ (2 : Int) := (by omega)
                          have q41 : 2 < t103.size := (by have : (2 : Int) < (t103.size : Int) := of_decide_eq_true (by first | (with_reducible assumption) | assumption); omega)
                          have hx41 : ∀ h : 2 < t103.size, ((t103[2]'h).toNat : Int) = bt t103 2 := bt_at t103 2
                          clear p41
                          have qi41 : (2 < (t103.size : Int)) = True := eq_true (of_decide_eq_true (by first | (with_reducible assumption) | assumption))
                          replace q41 := eq_true q41
                          go_wp2
                          go_meet
                          case rel => exact ⟨_, (false), (by first | rfl | (simp; done) | (simp [*]; done) | (simp [*, bne]; done)), H', ⟨by first | omega | exact Nat.le_refl _⟩, ⟨by repeat (first | (with_reducible first | exact HB.out | apply below_alloc | apply pw_below_drewN | apply below_drew1) | exact HB.out)⟩⟩
                        · rw [if_neg c42] at H
                          have c42b0 : ((bt t103 2) == 66) = false := beq_eq_false_iff_ne.mpr c42
                          have c42b1 : ((bt t103 2) != 66) = true := bne_iff_ne.mpr c42
                          by_cases c44 : (bt t103 2) = 87
                          · rw [if_pos c44] at H
                            have c44b0 : ((bt t103 2) == 87) = true := beq_iff_eq.mpr c44
                            have c44b1 : ((bt t103 2) != 87) = false := bne_eq_false_iff_eq.mpr c44
                            clear c44
                            have H' := Aside0.mk H
                            clear H
                            have p12 : 0 ≤ (1 : Int) := (by omega)
                            have q12 : 1 < t103.size := (by have : (1 : Int) < (t103.size : Int) := of_decide_eq_true (by first | (with_reducible assumption) | assumption); omega)
                            have hx12 : ∀ h : 1 < t103.size, ((t103[1]'h).toNat : Int) = bt t103 1 := bt_at t103 1
                            clear p12
                            have qi12 : (1 < (t103.size : Int)) = True := eq_true (of_decide_eq_true (by first | (with_reducible assumption) | assumption))
                            replace q12 := eq_true q12
                            have p24 : 0 ≤ (1 : Int) := (by omega)
                            have q24 : 1 < t103.size := (by have : (1 : Int) < (t103.size : Int) := of_decide_eq_true (by first | (with_reducible assumption) | assumption); omega)
                            have hx24 : ∀ h : 1 < t103.size, ((t103[1]'h).toNat : Int) = bt t103 1 := bt_at t103 1
                            clear p24
                            have qi24 : (1 < (t103.size : Int)) = True := eq_true (of_decide_eq_true (by first | (with_reducible assumption) | assumption))
                            replace q24 := eq_true q24
                            have p36 : 0 ≤ (1 : Int) := (by omega)
                            have q36 : 1 < t103.size := (by have : (1 : Int) < (t103.size : Int) := of_decide_eq_true (by first | (with_reducible assumption) | assumption); omega)
                            have hx36 : ∀ h : 1 < t103.size, ((t103[1]'h).toNat : Int) = bt t103 1 := bt_at t103 1
                            clear p36
                            have qi36 : (1 < (t103.size : Int)) = True := eq_true (of_decide_eq_true (by first | (with_reducible assumption) | assumption))
                            replace q36 := eq_true q36
                            have p39 : 0 ≤ (2 : Int) := (by omega)
                            have q39 : 2 < t103.size := (by have : (2 : Int) < (t103.size : Int) := of_decide_eq_true (by first | (with_reducible assumption) | assumption); omega)
                            have hx39 : ∀ h : 2 < t103.size, ((t103[2]'h).toNat : Int) = bt t103 2 := bt_at t103 2
                            clear p39
                            have qi39 : (2 < (t103.size : Int)) = True := eq_true (of_decide_eq_true (by first | (with_reducible assumption) | assumption))
                            replace q39 := eq_true q39
                            have p41 : 0 ≤ (2 : Int) := (by omega)
                            have q41 : 2 < t103.size := (by have : (2 : Int) < (t103.size : Int) := of_decide_eq_true (by first | (with_reducible assumption) | assumption); omega)
                            have hx41 : ∀ h : 2 < t103.size, ((t103[2]'h).toNat : Int) = bt t103 2 := bt_at t103 2
                            clear p41
                            have qi41 : (2 < (t103.size : Int)) = True := eq_true (of_decide_eq_true (by first | (with_reducible assumption) | assumption))
                            replace q41 := eq_true q41
                            have p43 : 0 ≤ (2 : Int) := (by omega)
                            have q43 : 2 < t103.size := (by have : (2 : Int) < (t103.size : Int) := of_decide_eq_true (by first | (with_reducible assumption) | assumption); omega)
                            have hx43 : ∀ h : 2 < t103.size, ((t103[2]'h).toNat : Int) = bt t103 2 := bt_at t103 2
                            clear p43
                            have qi43 : (2 < (t103.size : Int)) = True := eq_true (of_decide_eq_true (by first | (with_reducible assumption) | assumption))
                            replace q43 := eq_true q43
                            go_wp2
                            go_meet
                            case rel => exact ⟨_, (false), (by first | rfl | (simp; done) | (simp [*]; done) | (simp [*, bne]; done)), H', ⟨by first | omega | exact Nat.le_refl _⟩, ⟨by repeat (first | (with_reducible first | exact HB.out | apply below_alloc | apply pw_below_drewN | apply below_drew1) | exact HB.out)⟩⟩
                          · rw [if_neg c44] at H
                            have c44b0 : ((bt t103 2) == 87) = false := beq_eq_false_iff_ne.mpr c44
                            have c44b1 : ((bt t103 2) != 87) = true := bne_iff_ne.mpr c44
                            by_cases c46 : (bt t103 2) = 68
                            · rw [if_pos c46] at H
                              have c46b0 : ((bt t103 2) == 68) = true := beq_iff_eq.mpr c46
                              have c46b1 : ((bt t103 2) != 68) = false := bne_eq_false_iff_eq.mpr c46
                              clear c46
                              have H' := Aside0.mk H
                              clear H
                              have p12 : 0 ≤ (1 : Int) := (by omega)
                              have q12 : 1 < t103.size := (by have : (1 : Int) < (t103.size : Int) := of_decide_eq_true (by first | (with_reducible assumption) | assumption); omega)
                              have hx12 : ∀ h : 1 < t103.size, ((t103[1]'h).toNat : Int) = bt t103 1 := bt_at t103 1
                              clear p12
                              have qi12 : (1 < (t103.size : Int)) = True := eq_true (of_decide_eq_true (by first | (with_reducible assumption) | assumption))
                              replace q12 := eq_true q12
                              have p24 : 0 ≤ (1 : Int) := (by omega)
                              have q24 : 1 < t103.size := (by have : (1 : Int) < (t103.size : Int) := of_decide_eq_true (by first | (with_reducible assumption) | assumption); omega)
                              have hx24 : ∀ h : 1 < t103.size, ((t103[1]'h).toNat : Int) = bt t103 1 := bt_at t103 1
                              clear p24
                              have qi24 : (1 < (t103.size : Int)) = True := eq_true (of_decide_eq_true (by first | (with_reducible assumption) | assumption))
                              replace q24 := eq_true q24
                              have p36 : 0 ≤ (1 : Int) := (by omega)
                              have q36 : 1 < t103.size := (by have : (1 : Int) < (t103.size : Int) := of_decide_eq_true (by first | (with_reducible assumption) | assumption); omega)
                              have hx36 : ∀ h : 1 < t103.size, ((t103[1]'h).toNat : Int) = bt t103 1 := bt_at t103 1
                              clear p36
                              have qi36 : (1 < (t103.size : Int)) = True := eq_true (of_decide_eq_true (by first | (with_reducible assumption) | assumption))
                              replace q36 := eq_true q36
                              have p39 : 0 ≤ (2 : Int) := (by omega)
                              have q39 : 2 < t103.size := (by have : (2 : Int) < (t103.size : Int) := of_decide_eq_true (by first | (with_reducible assumption) | assumption); omega)
                              have hx39 : ∀ h : 2 < t103.size, ((t103[2]'h).toNat : Int) = bt t103 2 := bt_at t103 2
                              clear p39
                              have qi39 : (2 < (t103.size : Int)) = True := eq_true (of_decide_eq_true (by first | (with_reducible assumption) | assumption))
                              replace q39 := eq_true q39
                              have p41 : 0 ≤ (2 : Int) := (by omega)
                              have q41 : 2 < t103.size := (by have : (2 : Int) < (t103.size : Int) := of_decide_eq_true (by first | (with_reducible assumption) | assumption); omega)
                              have hx41 : ∀ h : 2 < t103.size, ((t103[2]'h).toNat : Int) = bt t103 2 := bt_at t103 2
                              clear p41
                              have qi41 : (2 < (t103.size : Int)) = True := eq_true (of_decide_eq_true (by first | (with_reducible assumption) | assumption))
                              replace q41 := eq_true q41
                              have p43 : 0 ≤ (2 : Int) := (by omega)
                              have q43 : 2 < t103.size := (by have : (2 : Int) < (t103.size : Int) := of_decide_eq_true (by first | (with_reducible assumption) | assumption); omega)
                              have hx43 : ∀ h : 2 < t103.size, ((t103[2]'h).toNat : Int) = bt t103 2 := bt_at t103 2
                              clear p43
                              have qi43 : (2 < (t103.size : Int)) = True := eq_true (of_decide_eq_true (by first | (with_reducible assumption) | assumption))
                              replace q43 := eq_true q43
                              have p45 : 0 ≤ (2 : Int) := (by omega)
                              have q45 : 2 < t103.size := (by have : (2 : Int) < (t103.size : Int) := of_decide_eq_true (by first | (with_reducible assumption) | assumption); omega)
                              have hx45 : ∀ h : 2 < t103.size, ((t103[2]'h).toNat : Int) = bt t103 2 := bt_at t103 2
                              clear p45
                              have qi45 : (2 < (t103.size : Int)) = True := eq_true (of_decide_eq_true (by first | (with_reducible assumption) | assumption))
                              replace q45 := eq_true q45
                              go_wp2
                              go_meet
                              case rel => exact ⟨_, (false), (by first | rfl | (simp; done) | (simp [*]; done) | (simp [*, bne]; done)), H', ⟨by first | omega | exact Nat.le_refl _⟩, ⟨by repeat (first | (with_reducible first | exact HB.out | apply below_alloc | apply pw_below_drewN | apply below_drew1) | exact HB.out)⟩⟩
                            · rw [if_neg c46] at H
                              have c46b0 : ((bt t103 2) == 68) = false := beq_eq_false_iff_ne.mpr c46
                              have c46b1 : ((bt t103 2) != 68) = true := bne_iff_ne.mpr c46
                              have H' := Aside0.mk H
                              clear H
                              have p12 : 0 ≤ (1 : Int) := (by omega)
                              have q12 : 1 < t103.size := (by have : (1 : Int) < (t103.size : Int) := of_decide_eq_true (by first | (with_reducible assumption) | assumption); omega)
                              have hx12 : ∀ h : 1 < t103.size, ((t103[1]'h).toNat : Int) = bt t103 1 := bt_at t103 1
                              clear p12
                              have qi12 : (1 < (t103.size : Int)) = True := eq_true (of_decide_eq_true (by first | (with_reducible assumption) | assumption))
                              replace q12 := eq_true q12
                              have p24 : 0 ≤ (1 : Int) := (by omega)
                              have q24 : 1 < t103.size := (by have : (1 : Int) < (t103.size : Int) := of_decide_eq_true (by first | (with_reducible assumption) | assumption); omega)
                              have hx24 : ∀ h : 1 < t103.size, ((t103[1]'h).toNat : Int) = bt t103 1 := bt_at t103 1
                              clear p24
                              have qi24 : (1 < (t103.size : Int)) = True := eq_true (of_decide_eq_true (by first | (with_reducible assumption) | assumption))
                              replace q24 := eq_true q24
                              have p36 : 0 ≤ (1 : Int) := (by omega)
                              have q36 : 1 < t103.size := (by have : (1 : Int) < (t103.size : Int) := of_decide_eq_true (by first | (with_reducible assumption) | assumption); omega)
                              have hx36 : ∀ h : 1 < t103.size, ((t103[1]'h).toNat : Int) = bt t103 1 := bt_at t103 1
                              clear p36
                              have qi36 : (1 < (t103.size : Int)) = True := eq_true (of_decide_eq_true (by first | (with_reducible assumption) | assumption))
                              replace q36 := eq_true q36
                              have p39 : 0 ≤ (2 : Int) := (by omega)
                              have q39 : 2 < t103.size := (by have : (2 : Int) < (t103.size : Int) := of_decide_eq_true (by first | (with_reducible assumption) | assumption); omega)
                              have hx39 : ∀ h : 2 < t103.size, ((t103[2]'h).toNat : Int) = bt t103 2 := bt_at t103 2
                              clear p39
                              have qi39 : (2 < (t103.size : Int)) = True := eq_true (of_decide_eq_true (by first | (with_reducible assumption) | assumption))
                              replace q39 := eq_true q39
                              have p41 : 0 ≤ (2 : Int) := (by omega)
                              have q41 : 2 < t103.size := (by have : (2 : Int) < (t103.size : Int) := of_decide_eq_true (by first | (with_reducible assumption) | assumption); omega)
                              have hx41 : ∀ h : 2 < t103.size, ((t103[2]'h).toNat : Int) = bt t103 2 := bt_at t103 2
                              clear p41
                              have qi41 : (2 < (t103.size : Int)) = True := eq_true (of_decide_eq_true (by first | (with_reducible assumption) | assumption))
                              replace q41 := eq_true q41
                              have p43 : 0 ≤ (2 : Int) := (by omega)
                              have q43 : 2 < t103.size := (by have : (2 : Int) < (t103.size : Int) := of_decide_eq_true (by first | (with_reducible assumption) | assumption); omega)
                              have hx43 : ∀ h : 2 < t103.size, ((t103[2]'h).toNat : Int) = bt t103 2 := bt_at t103 2
                              clear p43
                              have qi43 : (2 < (t103.size : Int)) = True := eq_true (of_decide_eq_true (by first | (with_reducible assumption) | assumption))
                              replace q43 := eq_true q43
                              have p45 : 0 ≤ (2 : Int) := (by omega)
                              have q45 : 2 < t103.size := (by have : (2 : Int) < (t103.size : Int) := of_decide_eq_true (by first | (with_reducible assumption) | assumption); omega)
                              have hx45 : ∀ h : 2 < t103.size, ((t103[2]'h).toNat : Int) = bt t103 2 := bt_at t103 2
                              clear p45
                              have qi45 : (2 < (t103.size : Int)) = True := eq_true (of_decide_eq_true (by first | (with_reducible assumption) | assumption))
                              replace q45 := eq_true q45
                              have p47 : 0 ≤ (2 : Int) := (by omega)
                              have q47 : 2 < t103.size := (by have : (2 : Int) < (t103.size : Int) := of_decide_eq_true (by first | (with_reducible assumption) | assumption); omega)
                              have hx47 : ∀ h : 2 < t103.size, ((t103[2]'h).toNat : Int) = bt t103 2 := bt_at t103 2
                              clear p47
                              have qi47 : (2 < (t103.size : Int)) = True := eq_true (of_decide_eq_true (by first | (with_reducible assumption) | assumption))
                              replace q47 := eq_true q47
                              go_wp2
                              go_meet
                              case rel => exact ⟨_, (((bt t103 2) != 76)), (by first | rfl | (simp; done) | (simp [*]; done) | (simp [*, bne]; done)), H', ⟨by first | omega | exact Nat.le_refl _⟩, ⟨by repeat (first | (with_reducible first | exact HB.out | apply below_alloc | apply pw_below_drewN | apply below_drew1) | exact HB.out)⟩⟩
                    · rw [if_neg c38] at H
                      exact absurd H (by simp)
                  · rw [if_neg c37] at H
                    have c37b0 : ((bt t103 1) == 77) = false := beq_eq_false_iff_ne.mpr c37
                    have c37b1 : ((bt t103 1) != 77) = true := bne_iff_ne.mpr c37
                    have H' := Aside0.mk H
                    clear H
                    have p12 : 0 ≤ (1 : Int) := (by omega)
                    have q12 : 1 < t103.size := (by have : (1 : Int) < (t103.size : Int) := of_decide_eq_true (by first | (with_reducible assumption) | assumption); omega)
                    have hx12 : ∀ h : 1 < t103.size, ((t103[1]'h).toNat : Int) = bt t103 1 := bt_at t103 1
                    clear p12
                    have qi12 : (1 < (t103.size : Int)) = True := eq_true (of_decide_eq_true (by first | (with_reducible assumption) | assumption))
                    replace q12 := eq_true q12
                    have p24 : 0 ≤ (1 : Int) := (by omega)
                    have q24 : 1 < t103.size := (by have : (1 : Int) < (t103.size : Int) := of_decide_eq_true (by first | (with_reducible assumption) | assumption); omega)
                    have hx24 : ∀ h : 1 < t103.size, ((t103[1]'h).toNat : Int) = bt t103 1 := bt_at t103 1
                    clear p24
                    have qi24 : (1 < (t103.size : Int)) = True := eq_true (of_decide_eq_true (by first | (with_reducible assumption) | assumption))
                    replace q24 := eq_true q24
                    have p36 : 0 ≤ (1 : Int) := (by omega)
                    have q36 : 1 < t103.size := (by have : (1 : Int) < (t103.size : Int) := of_decide_eq_true (by first | (with_reducible assumption) | assumption); omega)
                    have hx36 : ∀ h : 1 < t103.size, ((t103[1]'h).toNat : Int) = bt t103 1 := bt_at t103 1
                    clear p36
                    have qi36 : (1 < (t103.size : Int)) = True := eq_true (of_decide_eq_true (by first | (with_reducible assumption) | assumption))
                    replace q36 := eq_true q36
                    go_wp2
                    go_meet
                    case rel => exact ⟨_, (true), (by first | rfl | (simp; done) | (simp [*]; done) | (simp [*, bne]; done)), H', ⟨by first | omega | exact Nat.le_refl _⟩, ⟨by repeat (first | (with_reducible first | exact HB.out | apply below_alloc | apply pw_below_drewN | apply below_drew1) | exact HB.out)⟩⟩
            · rw [if_neg c11] at H
              exact absurd H (by simp)
        case rest =>
          clear HC8
          try clear c1
          try clear p1
          try clear q1
          try clear hx1
          try clear qi1
          try clear c2
          try clear p2
          try clear q2
          try clear hx2
          try clear qi2
          try clear c3
          try clear p3
          try clear q3
          try clear hx3
          try clear qi3
          try clear c4
          try clear p4
          try clear q4
          try clear hx4
          try clear qi4
          try clear c11
          try clear p12
          try clear q12
          try clear hx12
          try clear qi12
          try clear c13
          try clear c13b0
          try clear c13b1
          try clear c14
          try clear p15
          try clear q15
          try clear hx15
          try clear qi15
          try clear p17
          try clear q17
          try clear hx17
          try clear qi17
          try clear p19
          try clear q19
          try clear hx19
          try clear qi19
          try clear c20
          try clear c20b0
          try clear c20b1
          try clear p21
          try clear q21
          try clear hx21
          try clear qi21
          try clear c22
          try clear c22b0
          try clear c22b1
          try clear p23
          try clear q23
          try clear hx23
          try clear qi23
          try clear p24
          try clear q24
          try clear hx24
          try clear qi24
          try clear c25
          try clear c25b0
          try clear c25b1
          try clear c26
          try clear c26b0
          try clear c26b1
          try clear p27
          try clear q27
          try clear hx27
          try clear qi27
          try clear c28
          try clear c28b0
          try clear c28b1
          try clear p29
          try clear q29
          try clear hx29
          try clear qi29
          try clear c30
          try clear c30b0
          try clear c30b1
          try clear p31
          try clear q31
          try clear hx31
          try clear qi31
          try clear c32
          try clear c32b0
          try clear c32b1
          try clear p33
          try clear q33
          try clear hx33
          try clear qi33
          try clear c34
          try clear c34b0
          try clear c34b1
          try clear p35
          try clear q35
          try clear hx35
          try clear qi35
          try clear p36
          try clear q36
          try clear hx36
          try clear qi36
          try clear c37
          try clear c37b0
          try clear c37b1
          try clear c38
          try clear c38b0
          try clear c38b1
          try clear p39
          try clear q39
          try clear hx39
          try clear qi39
          try clear c40
          try clear c40b0
          try clear c40b1
          try clear p41
          try clear q41
          try clear hx41
          try clear qi41
          try clear c42
          try clear c42b0
          try clear c42b1
          try clear p43
          try clear q43
          try clear hx43
          try clear qi43
          try clear c44
          try clear c44b0
          try clear c44b1
          try clear p45
          try clear q45
          try clear hx45
          try clear qi45
          try clear c46
          try clear c46b0
          try clear c46b1
          try clear p47
          try clear q47
          try clear hx47
          try clear qi47
          try clear p12
          try clear p15
          try clear p17
          try clear p19
          try clear p21
          try clear p23
          try clear p24
          try clear p27
          try clear p29
          try clear p31
          try clear p33
          try clear p35
          try clear p36
          try clear p39
          try clear p41
          try clear p43
          try clear p45
          try clear p47
          try clear q12
          try clear q15
          try clear q17
          try clear q19
          try clear q21
          try clear q23
          try clear q24
          try clear q27
          try clear q29
          try clear q31
          try clear q33
          try clear q35
          try clear q36
          try clear q39
          try clear q41
          try clear q43
          try clear q45
          try clear q47
          obtain ⟨kq, x59_7, rfl, HA, HJ7, HB⟩ := hcut
          cases kq with
          | zero => exact absurd HA.out (by simp [relayref03_address.j0])
          | succ kj7 =>
            have H := HA.out
            clear HA
            simp only [relayref03_address.j0] at H
            by_cases c48 : x59_7 = true
            · subst c48
              have H1 : (some (-1)) = some r := by rw [if_pos rfl] at H; exact H
              clear H
              have H := H1
              clear H1
              obtain rfl := Option.some.inj H
              go_wp2
              go_ret
              exact ⟨by first | rfl | (simp [errW_none, errW_some] <;> rfl) | (simp only [← hji3]; first | rfl | (simp [errW_none, errW_some] <;> rfl)) | (simp [*, errW_none, errW_some] <;> rfl), by repeat (first | (with_reducible first | exact HB.out | apply below_alloc | apply pw_below_drewN | apply below_drew1) | exact HB.out)⟩
            · replace c48 := Bool.eq_false_iff.mpr c48
              subst c48
              have H1 : (relayref03_address.l0 kj7 a0 t103 (wrap64 (a1 + 3)) (wrap64 (a1 + 3))) = some r := by rw [if_neg (show ¬ (false = true) by decide)] at H; exact H
              clear H
              have H := H1
              clear H1
              have HC49 := Aside0.mk H
              clear H
              go_upto_block 0 with (fail)
              go_cut [7] (fun v7 wc => ∃ (kq : Nat) (x7_48 : Int), v7 = .int .i64 x7_48 ∧ Aside0 (relayref03_address.j2 kq a0 t103 (wrap64 (a1 + 3)) x7_48 = some r) ∧ Aside0 (kq ≤ kj7) ∧ Aside0 (Below w.heap.size w wc))
              case first =>
                have H := HC49.out
                clear HC49
                have H' := Aside0.mk H
                clear H
                go_wp2
                go_loopg [7] kj7 (fun kq v7 w' => ∃ (x7_2 : Int), v7 = .int .i64 x7_2 ∧ Aside0 (relayref03_address.l0 kq a0 t103 (wrap64 (a1 + 3)) x7_2 = some r) ∧ Aside0 (kq ≤ kj7) ∧ Aside0 (Below w.heap.size w w'))
                case atStart => exact ⟨(wrap64 (a1 + 3)), (by first | rfl | (simp; done) | (simp [*]; done) | (simp [*, bne]; done)), H', ⟨Nat.le_refl _⟩, ⟨by repeat (first | (with_reducible first | exact HB.out | apply below_alloc | apply pw_below_drewN | apply below_drew1) | exact HB.out)⟩⟩
                case round =>
                  clear H'
                  try clear c1
                  try clear p1
                  try clear q1
                  try clear hx1
                  try clear qi1
                  try clear c2
                  try clear p2
                  try clear q2
                  try clear hx2
                  try clear qi2
                  try clear c3
                  try clear p3
                  try clear q3
                  try clear hx3
                  try clear qi3
                  try clear c4
                  try clear p4
                  try clear q4
                  try clear hx4
                  try clear qi4
                  try clear p6
                  try clear c11
                  try clear p12
                  try clear q12
                  try clear hx12
                  try clear qi12
                  try clear c13
                  try clear c13b0
                  try clear c13b1
                  try clear c14
                  try clear p15
                  try clear q15
                  try clear hx15
                  try clear qi15
                  try clear p17
                  try clear q17
                  try clear hx17
                  try clear qi17
                  try clear p19
                  try clear q19
                  try clear hx19
                  try clear qi19
                  try clear c20
                  try clear c20b0
                  try clear c20b1
                  try clear p21
                  try clear q21
                  try clear hx21
                  try clear qi21
                  try clear c22
                  try clear c22b0
                  try clear c22b1
                  try clear p23
                  try clear q23
                  try clear hx23
                  try clear qi23
                  try clear p24
                  try clear q24
                  try clear hx24
                  try clear qi24
                  try clear c25
                  try clear c25b0
                  try clear c25b1
                  try clear c26
                  try clear c26b0
                  try clear c26b1
                  try clear p27
                  try clear q27
                  try clear hx27
                  try clear qi27
                  try clear c28
                  try clear c28b0
                  try clear c28b1
                  try clear p29
                  try clear q29
                  try clear hx29
                  try clear qi29
                  try clear c30
                  try clear c30b0
                  try clear c30b1
                  try clear p31
                  try clear q31
                  try clear hx31
                  try clear qi31
                  try clear c32
                  try clear c32b0
                  try clear c32b1
                  try clear p33
                  try clear q33
                  try clear hx33
                  try clear qi33
                  try clear c34
                  try clear c34b0
                  try clear c34b1
                  try clear p35
                  try clear q35
                  try clear hx35
                  try clear qi35
                  try clear p36
                  try clear q36
                  try clear hx36
                  try clear qi36
                  try clear c37
                  try clear c37b0
                  try clear c37b1
                  try clear c38
                  try clear c38b0
                  try clear c38b1
                  try clear p39
                  try clear q39
                  try clear hx39
                  try clear qi39
                  try clear c40
                  try clear c40b0
                  try clear c40b1
                  try clear p41
                  try clear q41
                  try clear hx41
                  try clear qi41
                  try clear c42
                  try clear c42b0
                  try clear c42b1
                  try clear p43
                  try clear q43
                  try clear hx43
                  try clear qi43
                  try clear c44
                  try clear c44b0
                  try clear c44b1
                  try clear p45
                  try clear q45
                  try clear hx45
                  try clear qi45
                  try clear c46
                  try clear c46b0
                  try clear c46b1
                  try clear p47
                  try clear q47
                  try clear hx47
                  try clear qi47
                  try clear c48
                  try clear p1
                  try clear p12
                  try clear p15
                  try clear p17
                  try clear p19
                  try clear p2
                  try clear p21
                  try clear p23
                  try clear p24
                  try clear p27
                  try clear p29
                  try clear p3
                  try clear p31
                  try clear p33
                  try clear p35
                  try clear p36
                  try clear p39
                  try clear p4
                  try clear p41
                  try clear p43
                  try clear p45
                  try clear p47
                  try clear q1
                  try clear q12
                  try clear q15
                  try clear q17
                  try clear q19
                  try clear q2
                  try clear q21
                  try clear q23
                  try clear q24
                  try clear q27
                  try clear q29
                  try clear q3
                  try clear q31
                  try clear q33
                  try clear q35
                  try clear q36
                  try clear q39
                  try clear q4
                  try clear q41
                  try clear q43
                  try clear q45
                  try clear q47
                  obtain ⟨x7_2, rfl, HA, HK2, HB⟩ := hrel
                  cases gk with
                  | zero => exact absurd HA.out (by simp [relayref03_address.l0])
                  | succ k2 =>
                    have H := HA.out
                    clear HA
                    simp only [relayref03_address.l0] at H
                    by_cases c50 : x7_2 < (a0.size : Int)
                    · rw [if_pos c50] at H
                      have c50b0 : decide (x7_2 < (a0.size : Int)) = true := decide_eq_true c50
                      clear c50
                      (first | rw [c50b0] | (simp only [i64_w, i32_w]; rw [c50b0]) | skip)
                      by_cases c51 : 0 ≤ x7_2
                      · rw [if_pos c51] at H
                        have c51b0 : decide (0 ≤ x7_2) = true := decide_eq_true c51
                        clear c51
                        replace H := Option.bind_eq_some_iff.mp H
                        obtain ⟨t104, A530, H⟩ := H
                        replace H : (if t104 = true then (relayref03_address.l0 k2 a0 t103 (wrap64 (a1 + 3)) (wrap64 (x7_2 + 1))) else (relayref03_address.j2 k2 a0 t103 (wrap64 (a1 + 3)) x7_2)) = some r := H
                        have A53 := Aside0.mk A530
                        clear A530
                        by_cases c54 : t104 = true
                        · subst c54
                          have H1 : (relayref03_address.l0 k2 a0 t103 (wrap64 (a1 + 3)) (wrap64 (x7_2 + 1))) = some r := by rw [if_pos rfl] at H; exact H
                          clear H
                          have H := H1
                          clear H1
                          have H' := Aside0.mk H
                          clear H
                          have p52 : 0 ≤ (x7_2 : Int) := of_decide_eq_true (by first | (with_reducible assumption) | assumption)
                          have q52 : x7_2 < (a0.size : Int) := of_decide_eq_true (by first | (with_reducible assumption) | assumption)
                          have hx52 := bt_at a0 x7_2
                          replace p52 := eq_true p52
                          replace q52 := eq_true q52
                          go_wp2_with (first | (go_at_call 21; (with_reducible refine (relayref03_digit.calls (bt a0 x7_2) true _ ?side1 A53.out).mono ?_); (case side1 => first | exact HLaid.out | (refine LaidW.below HLaid.out ?_; repeat (first | (with_reducible first | exact HB.out | apply below_alloc | apply pw_below_drewN | apply below_drew1) | exact HB.out))); rintro e w' ⟨rfl, ⟨nd, rfl⟩⟩))
                          go_roundg k2
                          case measure => have := HJ7.out; have := HK2.out; omega
                          case rel => exact ⟨(wrap64 (x7_2 + 1)), (by first | rfl | (simp; done) | (simp [*]; done) | (simp [*, bne]; done)), H', ⟨by have := HJ7.out; have := HK2.out; omega⟩, ⟨by repeat (first | (with_reducible first | exact HB.out | apply below_alloc | apply pw_below_drewN | apply below_drew1) | exact HB.out)⟩⟩
                        · replace c54 := Bool.eq_false_iff.mpr c54
                          subst c54
                          have H1 : (relayref03_address.j2 k2 a0 t103 (wrap64 (a1 + 3)) x7_2) = some r := by rw [if_neg (show ¬ (false = true) by decide)] at H; exact H
                          clear H
                          have H := H1
                          clear H1
                          have H' := Aside0.mk H
                          clear H
                          have p52 : 0 ≤ (x7_2 : Int) := of_decide_eq_true (by first | (with_reducible assumption) | assumption)
                          have q52 : x7_2 < (a0.size : Int) := of_decide_eq_true (by first | (with_reducible assumption) | assumption)
                          have hx52 := bt_at a0 x7_2
                          replace p52 := eq_true p52
                          replace q52 := eq_true q52
                          go_wp2_with (first | (go_at_call 21; (with_reducible refine (relayref03_digit.calls (bt a0 x7_2) false _ ?side1 A53.out).mono ?_); (case side1 => first | exact HLaid.out | (refine LaidW.below HLaid.out ?_; repeat (first | (with_reducible first | exact HB.out | apply below_alloc | apply pw_below_drewN | apply below_drew1) | exact HB.out))); rintro e w' ⟨rfl, ⟨nd, rfl⟩⟩))
                          go_meet
                          case rel => exact ⟨_, (x7_2), (by first | rfl | (simp; done) | (simp [*]; done) | (simp [*, bne]; done)), H', ⟨by have := HJ7.out; have := HK2.out; first | omega | exact Nat.le_refl _⟩, ⟨by repeat (first | (with_reducible first | exact HB.out | apply below_alloc | apply pw_below_drewN | apply below_drew1) | exact HB.out)⟩⟩
                      · rw [if_neg c51] at H
                        exact absurd H (by simp)
                    · rw [if_neg c50] at H
                      have c50b0 : decide (x7_2 < (a0.size : Int)) = false := decide_eq_false c50
                      clear c50
                      (first | rw [c50b0] | (simp only [i64_w, i32_w]; rw [c50b0]) | skip)
                      have H' := Aside0.mk H
                      clear H
                      go_wp2
                      go_meet
                      case rel => exact ⟨_, (x7_2), (by first | rfl | (simp; done) | (simp [*]; done) | (simp [*, bne]; done)), H', ⟨by have := HJ7.out; have := HK2.out; first | omega | exact Nat.le_refl _⟩, ⟨by repeat (first | (with_reducible first | exact HB.out | apply below_alloc | apply pw_below_drewN | apply below_drew1) | exact HB.out)⟩⟩
              case rest =>
                clear HC49
                try clear c1
                try clear p1
                try clear q1
                try clear hx1
                try clear qi1
                try clear c2
                try clear p2
                try clear q2
                try clear hx2
                try clear qi2
                try clear c3
                try clear p3
                try clear q3
                try clear hx3
                try clear qi3
                try clear c4
                try clear p4
                try clear q4
                try clear hx4
                try clear qi4
                try clear c5
                try clear p5
                try clear q5
                try clear hx5
                try clear p6
                try clear c11
                try clear p12
                try clear q12
                try clear hx12
                try clear qi12
                try clear c13
                try clear c13b0
                try clear c13b1
                try clear c14
                try clear p15
                try clear q15
                try clear hx15
                try clear qi15
                try clear p17
                try clear q17
                try clear hx17
                try clear qi17
                try clear p19
                try clear q19
                try clear hx19
                try clear qi19
                try clear c20
                try clear c20b0
                try clear c20b1
                try clear p21
                try clear q21
                try clear hx21
                try clear qi21
                try clear c22
                try clear c22b0
                try clear c22b1
                try clear p23
                try clear q23
                try clear hx23
                try clear qi23
                try clear p24
                try clear q24
                try clear hx24
                try clear qi24
                try clear c25
                try clear c25b0
                try clear c25b1
                try clear c26
                try clear c26b0
                try clear c26b1
                try clear p27
                try clear q27
                try clear hx27
                try clear qi27
                try clear c28
                try clear c28b0
                try clear c28b1
                try clear p29
                try clear q29
                try clear hx29
                try clear qi29
                try clear c30
                try clear c30b0
                try clear c30b1
                try clear p31
                try clear q31
                try clear hx31
                try clear qi31
                try clear c32
                try clear c32b0
                try clear c32b1
                try clear p33
                try clear q33
                try clear hx33
                try clear qi33
                try clear c34
                try clear c34b0
                try clear c34b1
                try clear p35
                try clear q35
                try clear hx35
                try clear qi35
                try clear p36
                try clear q36
                try clear hx36
                try clear qi36
                try clear c37
                try clear c37b0
                try clear c37b1
                try clear c38
                try clear c38b0
                try clear c38b1
                try clear p39
                try clear q39
                try clear hx39
                try clear qi39
                try clear c40
                try clear c40b0
                try clear c40b1
                try clear p41
                try clear q41
                try clear hx41
                try clear qi41
                try clear c42
                try clear c42b0
                try clear c42b1
                try clear p43
                try clear q43
                try clear hx43
                try clear qi43
                try clear c44
                try clear c44b0
                try clear c44b1
                try clear p45
                try clear q45
                try clear hx45
                try clear qi45
                try clear c46
                try clear c46b0
                try clear c46b1
                try clear p47
                try clear q47
                try clear hx47
                try clear qi47
                try clear c48
                try clear c50
                try clear c50b0
                try clear c51
                try clear c51b0
                try clear p52
                try clear q52
                try clear hx52
                try clear c54
                try clear p1
                try clear p12
                try clear p15
                try clear p17
                try clear p19
                try clear p2
                try clear p21
                try clear p23
                try clear p24
                try clear p27
                try clear p29
                try clear p3
                try clear p31
                try clear p33
                try clear p35
                try clear p36
                try clear p39
                try clear p4
                try clear p41
                try clear p43
                try clear p45
                try clear p47
                try clear p52
                try clear p6
                try clear q1
                try clear q12
                try clear q15
                try clear q17
                try clear q19
                try clear q2
                try clear q21
                try clear q23
                try clear q24
                try clear q27
                try clear q29
                try clear q3
                try clear q31
                try clear q33
                try clear q35
                try clear q36
                try clear q39
                try clear q4
                try clear q41
                try clear q43
                try clear q45
                try clear q47
                try clear q52
                obtain ⟨kq, x7_48, rfl, HA, HJ48, HB⟩ := hcut
                cases kq with
                | zero => exact absurd HA.out (by simp [relayref03_address.j2])
                | succ kj48 =>
                  have H := HA.out
                  clear HA
                  simp only [relayref03_address.j2] at H
                  have HC55 := Aside0.mk H
                  clear H
                  go_upto_region 8 with (fail)
                  go_cut [95] (fun v95 wc => ∃ (kq : Nat) (x95_54 : Bool), v95 = .bool x95_54 ∧ Aside0 (relayref03_address.j3 kq a0 t103 x7_48 x95_54 = some r) ∧ Aside0 (kq ≤ kj48) ∧ Aside0 (Below w.heap.size w wc))
                  case first =>
                    have H := HC55.out
                    clear HC55
                    by_cases c56 : x7_48 = (wrap64 (a1 + 3))
                    · rw [if_pos c56] at H
                      have c56b0 : (x7_48 == (wrap64 (a1 + 3))) = true := beq_iff_eq.mpr c56
                      have c56b1 : (x7_48 != (wrap64 (a1 + 3))) = false := bne_eq_false_iff_eq.mpr c56
                      clear c56
                      (first | rw [c56b0] | (simp only [i64_w, i32_w]; rw [c56b0]) | skip)
                      have H' := Aside0.mk H
                      clear H
                      go_wp2
                      go_meet
                      case rel => exact ⟨_, (true), (by first | rfl | (simp; done) | (simp [*]; done) | (simp [*, bne]; done)), H', ⟨by have := HJ7.out; have := HJ48.out; first | omega | exact Nat.le_refl _⟩, ⟨by repeat (first | (with_reducible first | exact HB.out | apply below_alloc | apply pw_below_drewN | apply below_drew1) | exact HB.out)⟩⟩
                    · rw [if_neg c56] at H
                      have c56b0 : (x7_48 == (wrap64 (a1 + 3))) = false := beq_eq_false_iff_ne.mpr c56
                      have c56b1 : (x7_48 != (wrap64 (a1 + 3))) = true := bne_iff_ne.mpr c56
                      (first | rw [c56b0] | (simp only [i64_w, i32_w]; rw [c56b0]) | skip)
                      by_cases c57 : (wrap64 (x7_48 - (wrap64 (a1 + 3)))) > 4
                      · rw [if_pos c57] at H
                        have c57b0 : decide (4 < (wrap64 (x7_48 - (wrap64 (a1 + 3))))) = true := decide_eq_true c57
                        clear c57
                        have H' := Aside0.mk H
                        clear H
                        go_wp2
                        go_meet
                        case rel => exact ⟨_, (true), (by first | rfl | (simp; done) | (simp [*]; done) | (simp [*, bne]; done)), H', ⟨by have := HJ7.out; have := HJ48.out; first | omega | exact Nat.le_refl _⟩, ⟨by repeat (first | (with_reducible first | exact HB.out | apply below_alloc | apply pw_below_drewN | apply below_drew1) | exact HB.out)⟩⟩
                      · rw [if_neg c57] at H
                        have c57b0 : decide (4 < (wrap64 (x7_48 - (wrap64 (a1 + 3))))) = false := decide_eq_false c57
                        clear c57
                        by_cases c58 : (wrap64 (x7_48 - (wrap64 (a1 + 3)))) > 1
                        · rw [if_pos c58] at H
                          have c58b0 : decide (1 < (wrap64 (x7_48 - (wrap64 (a1 + 3))))) = true := decide_eq_true c58
                          clear c58
                          obtain ⟨ji59, hji59⟩ : ∃ j_ : Int, (wrap64 (a1 + 3)) = j_ := ⟨_, rfl⟩
                          replace H : (if 0 ≤ (ji59) then (if (ji59) < (a0.size : Int) then (relayref03_address.j3 kj48 a0 t103 x7_48 ((bt a0 (ji59)) == 48)) else (none)) else (none)) = some r := by first | (rw [hji59] at H; exact H) | (simp only [hji59] at H ⊢; exact H)
                          (try rw [hji59] at c56b0)
                          (try rw [hji59] at c56b1)
                          (try rw [hji59] at c57b0)
                          (try rw [hji59] at c58b0)
                          have hji59w : (IntKind.i64.wrap (a1 + 3)) = ji59 := (i64_w _).trans hji59
                          by_cases c60 : 0 ≤ (ji59)
                          · rw [if_pos c60] at H
                            have c60b0 : decide (0 ≤ (ji59)) = true := decide_eq_true c60
                            clear c60
                            by_cases c61 : (ji59) < (a0.size : Int)
                            · rw [if_pos c61] at H
                              have c61b0 : decide ((ji59) < (a0.size : Int)) = true := decide_eq_true c61
                              clear c61
                              have H' := Aside0.mk H
                              clear H
                              have p62 : 0 ≤ ((ji59) : Int) := of_decide_eq_true (by first | (with_reducible assumption) | assumption)
                              have q62 : (ji59) < (a0.size : Int) := of_decide_eq_true (by first | (with_reducible assumption) | assumption)
                              have hx62 := bt_at a0 (ji59)
                              replace p62 := eq_true p62
                              replace q62 := eq_true q62
                              go_wp2
                              go_meet
                              case rel => exact ⟨_, (((bt a0 (ji59)) == 48)), (by first | rfl | (simp; done) | (simp only [← hji59] <;> (first | rfl | simp)) | (simp [*]; done)), H', ⟨by have := HJ7.out; have := HJ48.out; first | omega | exact Nat.le_refl _⟩, ⟨by repeat (first | (with_reducible first | exact HB.out | apply below_alloc | apply pw_below_drewN | apply below_drew1) | exact HB.out)⟩⟩
                            · rw [if_neg c61] at H
                              exact absurd H (by simp)
                          · rw [if_neg c60] at H
                            exact absurd H (by simp)
                        · rw [if_neg c58] at H
                          have c58b0 : decide (1 < (wrap64 (x7_48 - (wrap64 (a1 + 3))))) = false := decide_eq_false c58
                          clear c58
                          have H' := Aside0.mk H
                          clear H
                          go_wp2
                          go_meet
                          case rel => exact ⟨_, (false), (by first | rfl | (simp; done) | (simp [*]; done) | (simp [*, bne]; done)), H', ⟨by have := HJ7.out; have := HJ48.out; first | omega | exact Nat.le_refl _⟩, ⟨by repeat (first | (with_reducible first | exact HB.out | apply below_alloc | apply pw_below_drewN | apply below_drew1) | exact HB.out)⟩⟩
                  case rest =>
                    clear HC55
                    try clear c1
                    try clear p1
                    try clear q1
                    try clear hx1
                    try clear qi1
                    try clear c2
                    try clear p2
                    try clear q2
                    try clear hx2
                    try clear qi2
                    try clear c3
                    try clear p3
                    try clear q3
                    try clear hx3
                    try clear qi3
                    try clear c4
                    try clear p4
                    try clear q4
                    try clear hx4
                    try clear qi4
                    try clear c5
                    try clear p5
                    try clear q5
                    try clear hx5
                    try clear c6
                    try clear p6
                    try clear q6
                    try clear hx6
                    try clear c11
                    try clear p12
                    try clear q12
                    try clear hx12
                    try clear qi12
                    try clear c13
                    try clear c13b0
                    try clear c13b1
                    try clear c14
                    try clear p15
                    try clear q15
                    try clear hx15
                    try clear qi15
                    try clear p17
                    try clear q17
                    try clear hx17
                    try clear qi17
                    try clear p19
                    try clear q19
                    try clear hx19
                    try clear qi19
                    try clear c20
                    try clear c20b0
                    try clear c20b1
                    try clear p21
                    try clear q21
                    try clear hx21
                    try clear qi21
                    try clear c22
                    try clear c22b0
                    try clear c22b1
                    try clear p23
                    try clear q23
                    try clear hx23
                    try clear qi23
                    try clear p24
                    try clear q24
                    try clear hx24
                    try clear qi24
                    try clear c25
                    try clear c25b0
                    try clear c25b1
                    try clear c26
                    try clear c26b0
                    try clear c26b1
                    try clear p27
                    try clear q27
                    try clear hx27
                    try clear qi27
                    try clear c28
                    try clear c28b0
                    try clear c28b1
                    try clear p29
                    try clear q29
                    try clear hx29
                    try clear qi29
                    try clear c30
                    try clear c30b0
                    try clear c30b1
                    try clear p31
                    try clear q31
                    try clear hx31
                    try clear qi31
                    try clear c32
                    try clear c32b0
                    try clear c32b1
                    try clear p33
                    try clear q33
                    try clear hx33
                    try clear qi33
                    try clear c34
                    try clear c34b0
                    try clear c34b1
                    try clear p35
                    try clear q35
                    try clear hx35
                    try clear qi35
                    try clear p36
                    try clear q36
                    try clear hx36
                    try clear qi36
                    try clear c37
                    try clear c37b0
                    try clear c37b1
                    try clear c38
                    try clear c38b0
                    try clear c38b1
                    try clear p39
                    try clear q39
                    try clear hx39
                    try clear qi39
                    try clear c40
                    try clear c40b0
                    try clear c40b1
                    try clear p41
                    try clear q41
                    try clear hx41
                    try clear qi41
                    try clear c42
                    try clear c42b0
                    try clear c42b1
                    try clear p43
                    try clear q43
                    try clear hx43
                    try clear qi43
                    try clear c44
                    try clear c44b0
                    try clear c44b1
                    try clear p45
                    try clear q45
                    try clear hx45
                    try clear qi45
                    try clear c46
                    try clear c46b0
                    try clear c46b1
                    try clear p47
                    try clear q47
                    try clear hx47
                    try clear qi47
                    try clear c48
                    try clear c50
                    try clear c50b0
                    try clear c51
                    try clear c51b0
                    try clear p52
                    try clear q52
                    try clear hx52
                    try clear c54
                    try clear c56
                    try clear c56b0
                    try clear c56b1
                    try clear c57
                    try clear c57b0
                    try clear c58
                    try clear c58b0
                    try clear c60
                    try clear c60b0
                    try clear c61
                    try clear c61b0
                    try clear p62
                    try clear q62
                    try clear hx62
                    try clear p1
                    try clear p12
                    try clear p15
                    try clear p17
                    try clear p19
                    try clear p2
                    try clear p21
                    try clear p23
                    try clear p24
                    try clear p27
                    try clear p29
                    try clear p3
                    try clear p31
                    try clear p33
                    try clear p35
                    try clear p36
                    try clear p39
                    try clear p4
                    try clear p41
                    try clear p43
                    try clear p45
                    try clear p47
                    try clear p5
                    try clear p52
                    try clear p6
                    try clear p62
                    try clear q1
                    try clear q12
                    try clear q15
                    try clear q17
                    try clear q19
                    try clear q2
                    try clear q21
                    try clear q23
                    try clear q24
                    try clear q27
                    try clear q29
                    try clear q3
                    try clear q31
                    try clear q33
                    try clear q35
                    try clear q36
                    try clear q39
                    try clear q4
                    try clear q41
                    try clear q43
                    try clear q45
                    try clear q47
                    try clear q5
                    try clear q52
                    try clear q62
                    obtain ⟨kq, x95_54, rfl, HA, HJ54, HB⟩ := hcut
                    cases kq with
                    | zero => exact absurd HA.out (by simp [relayref03_address.j3])
                    | succ kj54 =>
                      have H := HA.out
                      clear HA
                      simp only [relayref03_address.j3] at H
                      by_cases c63 : x95_54 = true
                      · subst c63
                        have H1 : (some (-1)) = some r := by rw [if_pos rfl] at H; exact H
                        clear H
                        have H := H1
                        clear H1
                        obtain rfl := Option.some.inj H
                        go_wp2
                        go_ret
                        exact ⟨by first | rfl | (simp [errW_none, errW_some] <;> rfl) | (simp only [← hji3]; first | rfl | (simp [errW_none, errW_some] <;> rfl)) | (simp [*, errW_none, errW_some] <;> rfl), by repeat (first | (with_reducible first | exact HB.out | apply below_alloc | apply pw_below_drewN | apply below_drew1) | exact HB.out)⟩
                      · replace c63 := Bool.eq_false_iff.mpr c63
                        subst c63
                        have H1 : (if 2 < (t103.size : Int) then (if (bt t103 2) = 88 then (if (wrap64 (x7_48 + 1)) ≥ (a0.size : Int) then (relayref03_address.j4 kj54 a0 x7_48 true) else (if 0 ≤ x7_48 then (if x7_48 < (a0.size : Int) then (if (bt a0 x7_48) = 46 then (if 0 ≤ (wrap64 (x7_48 + 1)) then (if (wrap64 (x7_48 + 1)) < (a0.size : Int) then (if (bt a0 (wrap64 (x7_48 + 1))) < 48 then (relayref03_address.j4 kj54 a0 x7_48 true) else (relayref03_address.j4 kj54 a0 x7_48 (decide ((bt a0 (wrap64 (x7_48 + 1))) > 55)))) else (none)) else (none)) else (relayref03_address.j4 kj54 a0 x7_48 true)) else (none)) else (none))) else (if x7_48 < (a0.size : Int) then (if 0 ≤ x7_48 then ((relayref03_inner.f (bt a0 x7_48)).bind fun t106 => (if t106 = true then (some (-1)) else (some x7_48))) else (none)) else (some x7_48))) else (none)) = some r := by rw [if_neg (show ¬ (false = true) by decide)] at H; exact H
                        clear H
                        have H := H1
                        clear H1
                        by_cases c64 : 2 < (t103.size : Int)
                        · rw [if_pos c64] at H
                          have c64b0 : decide (2 < (t103.size : Int)) = true := decide_eq_true c64
                          have c64b1 : decide (2 < t103.size) = true := decide_eq_true (by omega)
                          clear c64
                          by_cases c66 : (bt t103 2) = 88
                          · rw [if_pos c66] at H
                            have c66b0 : ((bt t103 2) == 88) = true := beq_iff_eq.mpr c66
                            have c66b1 : ((bt t103 2) != 88) = false := bne_eq_false_iff_eq.mpr c66
                            clear c66
                            have HC67 := Aside0.mk H
                            clear H
                            have p65 : 0 ≤ (2 : Int) := (by omega)
                            have q65 : 2 < t103.size := (by have : (2 : Int) < (t103.size : Int) := of_decide_eq_true (by first | (with_reducible assumption) | assumption); omega)
                            have hx65 : ∀ h : 2 < t103.size, ((t103[2]'h).toNat : Int) = bt t103 2 := bt_at t103 2
                            clear p65
                            have qi65 : (2 < (t103.size : Int)) = True := eq_true (of_decide_eq_true (by first | (with_reducible assumption) | assumption))
                            replace q65 := eq_true q65
                            go_upto_region 11 with (fail)
                            go_cut [123] (fun v123 wc => ∃ (kq : Nat) (x123_66 : Bool), v123 = .bool x123_66 ∧ Aside0 (relayref03_address.j4 kq a0 x7_48 x123_66 = some r) ∧ Aside0 (kq ≤ kj54) ∧ Aside0 (Below w.heap.size w wc))
                            case first =>
                              have H := HC67.out
                              clear HC67
                              by_cases c68 : (wrap64 (x7_48 + 1)) ≥ (a0.size : Int)
                              · rw [if_pos c68] at H
                                have c68b0 : decide ((a0.size : Int) ≤ (wrap64 (x7_48 + 1))) = true := decide_eq_true c68
                                clear c68
                                (first | rw [c68b0] | (simp only [i64_w, i32_w]; rw [c68b0]) | skip)
                                have H' := Aside0.mk H
                                clear H
                                go_wp2
                                go_meet
                                case rel => exact ⟨_, (true), (by first | rfl | (simp; done) | (simp [*]; done) | (simp [*, bne]; done)), H', ⟨by have := HJ7.out; have := HJ48.out; have := HJ54.out; first | omega | exact Nat.le_refl _⟩, ⟨by repeat (first | (with_reducible first | exact HB.out | apply below_alloc | apply pw_below_drewN | apply below_drew1) | exact HB.out)⟩⟩
                              · rw [if_neg c68] at H
                                have c68b0 : decide ((a0.size : Int) ≤ (wrap64 (x7_48 + 1))) = false := decide_eq_false c68
                                clear c68
                                (first | rw [c68b0] | (simp only [i64_w, i32_w]; rw [c68b0]) | skip)
                                by_cases c69 : 0 ≤ x7_48
                                · rw [if_pos c69] at H
                                  have c69b0 : decide (0 ≤ x7_48) = true := decide_eq_true c69
                                  clear c69
                                  by_cases c70 : x7_48 < (a0.size : Int)
                                  · rw [if_pos c70] at H
                                    have c70b0 : decide (x7_48 < (a0.size : Int)) = true := decide_eq_true c70
                                    clear c70
                                    by_cases c72 : (bt a0 x7_48) = 46
                                    · rw [if_pos c72] at H
                                      have c72b0 : ((bt a0 x7_48) == 46) = true := beq_iff_eq.mpr c72
                                      have c72b1 : ((bt a0 x7_48) != 46) = false := bne_eq_false_iff_eq.mpr c72
                                      clear c72
                                      obtain ⟨ji73, hji73⟩ : ∃ j_ : Int, (wrap64 (x7_48 + 1)) = j_ := ⟨_, rfl⟩
                                      replace H : (if 0 ≤ (ji73) then (if (ji73) < (a0.size : Int) then (if (bt a0 (ji73)) < 48 then (relayref03_address.j4 kj54 a0 x7_48 true) else (relayref03_address.j4 kj54 a0 x7_48 (decide ((bt a0 (ji73)) > 55)))) else (none)) else (none)) = some r := by first | (rw [hji73] at H; exact H) | (simp only [hji73] at H ⊢; exact H)
                                      (try rw [hji73] at c68b0)
                                      have hji73w : (IntKind.i64.wrap (x7_48 + 1)) = ji73 := (i64_w _).trans hji73
                                      by_cases c74 : 0 ≤ (ji73)
                                      · rw [if_pos c74] at H
                                        have c74b0 : decide (0 ≤ (ji73)) = true := decide_eq_true c74
                                        clear c74
                                        by_cases c75 : (ji73) < (a0.size : Int)
                                        · rw [if_pos c75] at H
                                          have c75b0 : decide ((ji73) < (a0.size : Int)) = true := decide_eq_true c75
                                          clear c75
                                          by_cases c77 : (bt a0 (ji73)) < 48
                                          · rw [if_pos c77] at H
                                            have c77b0 : decide ((bt a0 (ji73)) < 48) = true := decide_eq_true c77
                                            clear c77
                                            have H' := Aside0.mk H
                                            clear H
                                            have p71 : 0 ≤ (x7_48 : Int) := of_decide_eq_true (by first | (with_reducible assumption) | assumption)
                                            have q71 : x7_48 < (a0.size : Int) := of_decide_eq_true (by first | (with_reducible assumption) | assumption)
                                            have hx71 := bt_at a0 x7_48
                                            replace p71 := eq_true p71
                                            replace q71 := eq_true q71
                                            have p76 : 0 ≤ ((ji73) : Int) := of_decide_eq_true (by first | (with_reducible assumption) | assumption)
                                            have q76 : (ji73) < (a0.size : Int) := of_decide_eq_true (by first | (with_reducible assumption) | assumption)
                                            have hx76 := bt_at a0 (ji73)
                                            replace p76 := eq_true p76
                                            replace q76 := eq_true q76
                                            go_wp2
                                            go_meet
                                            case rel => exact ⟨_, (true), (by first | rfl | (simp; done) | (simp [*]; done) | (simp [*, bne]; done)), H', ⟨by have := HJ7.out; have := HJ48.out; have := HJ54.out; first | omega | exact Nat.le_refl _⟩, ⟨by repeat (first | (with_reducible first | exact HB.out | apply below_alloc | apply pw_below_drewN | apply below_drew1) | exact HB.out)⟩⟩
                                          · rw [if_neg c77] at H
                                            have c77b0 : decide ((bt a0 (ji73)) < 48) = false := decide_eq_false c77
                                            clear c77
                                            have H' := Aside0.mk H
                                            clear H
                                            have p71 : 0 ≤ (x7_48 : Int) := of_decide_eq_true (by first | (with_reducible assumption) | assumption)
                                            have q71 : x7_48 < (a0.size : Int) := of_decide_eq_true (by first | (with_reducible assumption) | assumption)
                                            have hx71 := bt_at a0 x7_48
                                            replace p71 := eq_true p71
                                            replace q71 := eq_true q71
                                            have p76 : 0 ≤ ((ji73) : Int) := of_decide_eq_true (by first | (with_reducible assumption) | assumption)
                                            have q76 : (ji73) < (a0.size : Int) := of_decide_eq_true (by first | (with_reducible assumption) | assumption)
                                            have hx76 := bt_at a0 (ji73)
                                            replace p76 := eq_true p76
                                            replace q76 := eq_true q76
                                            have p78 : 0 ≤ ((ji73) : Int) := of_decide_eq_true (by first | (with_reducible assumption) | assumption)
                                            have q78 : (ji73) < (a0.size : Int) := of_decide_eq_true (by first | (with_reducible assumption) | assumption)
                                            have hx78 := bt_at a0 (ji73)
                                            replace p78 := eq_true p78
                                            replace q78 := eq_true q78
                                            go_wp2
                                            go_meet
                                            case rel => exact ⟨_, (decide ((bt a0 (ji73)) > 55)), (by first | rfl | (simp; done) | (simp only [← hji73] <;> (first | rfl | simp)) | (simp [*]; done)), H', ⟨by have := HJ7.out; have := HJ48.out; have := HJ54.out; first | omega | exact Nat.le_refl _⟩, ⟨by repeat (first | (with_reducible first | exact HB.out | apply below_alloc | apply pw_below_drewN | apply below_drew1) | exact HB.out)⟩⟩
                                        · rw [if_neg c75] at H
                                          exact absurd H (by simp)
                                      · rw [if_neg c74] at H
                                        exact absurd H (by simp)
                                    · rw [if_neg c72] at H
                                      have c72b0 : ((bt a0 x7_48) == 46) = false := beq_eq_false_iff_ne.mpr c72
                                      have c72b1 : ((bt a0 x7_48) != 46) = true := bne_iff_ne.mpr c72
                                      have H' := Aside0.mk H
                                      clear H
                                      have p71 : 0 ≤ (x7_48 : Int) := of_decide_eq_true (by first | (with_reducible assumption) | assumption)
                                      have q71 : x7_48 < (a0.size : Int) := of_decide_eq_true (by first | (with_reducible assumption) | assumption)
                                      have hx71 := bt_at a0 x7_48
                                      replace p71 := eq_true p71
                                      replace q71 := eq_true q71
                                      go_wp2
                                      go_meet
                                      case rel => exact ⟨_, (true), (by first | rfl | (simp; done) | (simp [*]; done) | (simp [*, bne]; done)), H', ⟨by have := HJ7.out; have := HJ48.out; have := HJ54.out; first | omega | exact Nat.le_refl _⟩, ⟨by repeat (first | (with_reducible first | exact HB.out | apply below_alloc | apply pw_below_drewN | apply below_drew1) | exact HB.out)⟩⟩
                                  · rw [if_neg c70] at H
                                    exact absurd H (by simp)
                                · rw [if_neg c69] at H
                                  exact absurd H (by simp)
                            case rest =>
                              clear HC67
                              try clear c1
                              try clear p1
                              try clear q1
                              try clear hx1
                              try clear qi1
                              try clear c2
                              try clear p2
                              try clear q2
                              try clear hx2
                              try clear qi2
                              try clear c3
                              try clear p3
                              try clear q3
                              try clear hx3
                              try clear qi3
                              try clear c4
                              try clear p4
                              try clear q4
                              try clear hx4
                              try clear qi4
                              try clear c5
                              try clear p5
                              try clear q5
                              try clear hx5
                              try clear c6
                              try clear p6
                              try clear q6
                              try clear hx6
                              try clear qi6
                              try clear c7
                              try clear p7
                              try clear q7
                              try clear hx7
                              try clear c11
                              try clear p12
                              try clear q12
                              try clear hx12
                              try clear qi12
                              try clear c13
                              try clear c13b0
                              try clear c13b1
                              try clear c14
                              try clear p15
                              try clear q15
                              try clear hx15
                              try clear qi15
                              try clear p17
                              try clear q17
                              try clear hx17
                              try clear qi17
                              try clear p19
                              try clear q19
                              try clear hx19
                              try clear qi19
                              try clear c20
                              try clear c20b0
                              try clear c20b1
                              try clear p21
                              try clear q21
                              try clear hx21
                              try clear qi21
                              try clear c22
                              try clear c22b0
                              try clear c22b1
                              try clear p23
                              try clear q23
                              try clear hx23
                              try clear qi23
                              try clear p24
                              try clear q24
                              try clear hx24
                              try clear qi24
                              try clear c25
                              try clear c25b0
                              try clear c25b1
                              try clear c26
                              try clear c26b0
                              try clear c26b1
                              try clear p27
                              try clear q27
                              try clear hx27
                              try clear qi27
                              try clear c28
                              try clear c28b0
                              try clear c28b1
                              try clear p29
                              try clear q29
                              try clear hx29
                              try clear qi29
                              try clear c30
                              try clear c30b0
                              try clear c30b1
                              try clear p31
                              try clear q31
                              try clear hx31
                              try clear qi31
                              try clear c32
                              try clear c32b0
                              try clear c32b1
                              try clear p33
                              try clear q33
                              try clear hx33
                              try clear qi33
                              try clear c34
                              try clear c34b0
                              try clear c34b1
                              try clear p35
                              try clear q35
                              try clear hx35
                              try clear qi35
                              try clear p36
                              try clear q36
                              try clear hx36
                              try clear qi36
                              try clear c37
                              try clear c37b0
                              try clear c37b1
                              try clear c38
                              try clear c38b0
                              try clear c38b1
                              try clear p39
                              try clear q39
                              try clear hx39
                              try clear qi39
                              try clear c40
                              try clear c40b0
                              try clear c40b1
                              try clear p41
                              try clear q41
                              try clear hx41
                              try clear qi41
                              try clear c42
                              try clear c42b0
                              try clear c42b1
                              try clear p43
                              try clear q43
                              try clear hx43
                              try clear qi43
                              try clear c44
                              try clear c44b0
                              try clear c44b1
                              try clear p45
                              try clear q45
                              try clear hx45
                              try clear qi45
                              try clear c46
                              try clear c46b0
                              try clear c46b1
                              try clear p47
                              try clear q47
                              try clear hx47
                              try clear qi47
                              try clear c48
                              try clear c50
                              try clear c50b0
                              try clear c51
                              try clear c51b0
                              try clear p52
                              try clear q52
                              try clear hx52
                              try clear c54
                              try clear c56
                              try clear c56b0
                              try clear c56b1
                              try clear c57
                              try clear c57b0
                              try clear c58
                              try clear c58b0
                              try clear c60
                              try clear c60b0
                              try clear c61
                              try clear c61b0
                              try clear p62
                              try clear q62
                              try clear hx62
                              try clear c63
                              try clear c64
                              try clear c64b0
                              try clear c64b1
                              try clear p64
                              try clear p65
                              try clear q65
                              try clear hx65
                              try clear qi65
                              try clear c66
                              try clear c66b0
                              try clear c66b1
                              try clear c68
                              try clear c68b0
                              try clear c69
                              try clear c69b0
                              try clear c70
                              try clear c70b0
                              try clear p71
                              try clear q71
                              try clear hx71
                              try clear c72
                              try clear c72b0
                              try clear c72b1
                              try clear c74
                              try clear c74b0
                              try clear c75
                              try clear c75b0
                              try clear p76
                              try clear q76
                              try clear hx76
                              try clear c77
                              try clear c77b0
                              try clear p78
                              try clear q78
                              try clear hx78
                              try clear p1
                              try clear p12
                              try clear p15
                              try clear p17
                              try clear p19
                              try clear p2
                              try clear p21
                              try clear p23
                              try clear p24
                              try clear p27
                              try clear p29
                              try clear p3
                              try clear p31
                              try clear p33
                              try clear p35
                              try clear p36
                              try clear p39
                              try clear p4
                              try clear p41
                              try clear p43
                              try clear p45
                              try clear p47
                              try clear p5
                              try clear p52
                              try clear p6
                              try clear p62
                              try clear p65
                              try clear p71
                              try clear p76
                              try clear p78
                              try clear q1
                              try clear q12
                              try clear q15
                              try clear q17
                              try clear q19
                              try clear q2
                              try clear q21
                              try clear q23
                              try clear q24
                              try clear q27
                              try clear q29
                              try clear q3
                              try clear q31
                              try clear q33
                              try clear q35
                              try clear q36
                              try clear q39
                              try clear q4
                              try clear q41
                              try clear q43
                              try clear q45
                              try clear q47
                              try clear q5
                              try clear q52
                              try clear q6
                              try clear q62
                              try clear q65
                              try clear q71
                              try clear q76
                              try clear q78
                              obtain ⟨kq, x123_66, rfl, HA, HJ66, HB⟩ := hcut
                              cases kq with
                              | zero => exact absurd HA.out (by simp [relayref03_address.j4])
                              | succ kj66 =>
                                have H := HA.out
                                clear HA
                                simp only [relayref03_address.j4] at H
                                by_cases c79 : x123_66 = true
                                · subst c79
                                  have H1 : (some (-1)) = some r := by rw [if_pos rfl] at H; exact H
                                  clear H
                                  have H := H1
                                  clear H1
                                  obtain rfl := Option.some.inj H
                                  go_wp2
                                  go_ret
                                  exact ⟨by first | rfl | (simp [errW_none, errW_some] <;> rfl) | (simp only [← hji3]; first | rfl | (simp [errW_none, errW_some] <;> rfl)) | (simp [*, errW_none, errW_some] <;> rfl), by repeat (first | (with_reducible first | exact HB.out | apply below_alloc | apply pw_below_drewN | apply below_drew1) | exact HB.out)⟩
                                · replace c79 := Bool.eq_false_iff.mpr c79
                                  subst c79
                                  have H1 : (if (wrap64 (x7_48 + 2)) < (a0.size : Int) then (if 0 ≤ (wrap64 (x7_48 + 2)) then ((relayref03_inner.f (bt a0 (wrap64 (x7_48 + 2)))).bind fun t105 => (if t105 = true then (some (-1)) else (some (wrap64 (x7_48 + 2))))) else (none)) else (some (wrap64 (x7_48 + 2)))) = some r := by rw [if_neg (show ¬ (false = true) by decide)] at H; exact H
                                  clear H
                                  have H := H1
                                  clear H1
                                  by_cases c80 : (wrap64 (x7_48 + 2)) < (a0.size : Int)
                                  · rw [if_pos c80] at H
                                    have c80b0 : decide ((wrap64 (x7_48 + 2)) < (a0.size : Int)) = true := decide_eq_true c80
                                    clear c80
                                    obtain ⟨ji81, hji81⟩ : ∃ j_ : Int, (wrap64 (x7_48 + 2)) = j_ := ⟨_, rfl⟩
                                    replace H : (if 0 ≤ (ji81) then ((relayref03_inner.f (bt a0 (ji81))).bind fun t105 => (if t105 = true then (some (-1)) else (some ji81))) else (none)) = some r := by first | (rw [hji81] at H; exact H) | (simp only [hji81] at H ⊢; exact H)
                                    (try rw [hji81] at c80b0)
                                    have hji81w : (IntKind.i64.wrap (x7_48 + 2)) = ji81 := (i64_w _).trans hji81
                                    by_cases c82 : 0 ≤ (ji81)
                                    · rw [if_pos c82] at H
                                      have c82b0 : decide (0 ≤ (ji81)) = true := decide_eq_true c82
                                      clear c82
                                      replace H := Option.bind_eq_some_iff.mp H
                                      obtain ⟨t105, A840, H⟩ := H
                                      replace H : (if t105 = true then (some (-1)) else (some ji81)) = some r := H
                                      have A84 := Aside0.mk A840
                                      clear A840
                                      by_cases c85 : t105 = true
                                      · subst c85
                                        have H1 : (some (-1)) = some r := by rw [if_pos rfl] at H; exact H
                                        clear H
                                        have H := H1
                                        clear H1
                                        obtain rfl := Option.some.inj H
                                        have p83 : 0 ≤ ((ji81) : Int) := of_decide_eq_true (by first | (with_reducible assumption) | assumption)
                                        have q83 : (ji81) < (a0.size : Int) := of_decide_eq_true (by first | (with_reducible assumption) | assumption)
                                        have hx83 := bt_at a0 (ji81)
                                        replace p83 := eq_true p83
                                        replace q83 := eq_true q83
                                        go_wp2_with (first | (go_at_call 16; (with_reducible refine (relayref03_inner.calls (bt a0 (ji81)) true _ ?side1 A84.out).mono ?_); (case side1 => first | exact HLaid.out | (refine LaidW.below HLaid.out ?_; repeat (first | (with_reducible first | exact HB.out | apply below_alloc | apply pw_below_drewN | apply below_drew1) | exact HB.out))); rintro e w' ⟨rfl, ⟨nd, rfl⟩⟩))
                                        go_ret
                                        exact ⟨by first | rfl | (simp [errW_none, errW_some] <;> rfl) | (simp only [← hji3, ← hji81]; first | rfl | (simp [errW_none, errW_some] <;> rfl)) | (simp [*, errW_none, errW_some] <;> rfl), by repeat (first | (with_reducible first | exact HB.out | apply below_alloc | apply pw_below_drewN | apply below_drew1) | exact HB.out)⟩
                                      · replace c85 := Bool.eq_false_iff.mpr c85
                                        subst c85
                                        have H1 : (some ji81) = some r := by rw [if_neg (show ¬ (false = true) by decide)] at H; exact H
                                        clear H
                                        have H := H1
                                        clear H1
                                        obtain rfl := Option.some.inj H
                                        have p83 : 0 ≤ ((ji81) : Int) := of_decide_eq_true (by first | (with_reducible assumption) | assumption)
                                        have q83 : (ji81) < (a0.size : Int) := of_decide_eq_true (by first | (with_reducible assumption) | assumption)
                                        have hx83 := bt_at a0 (ji81)
                                        replace p83 := eq_true p83
                                        replace q83 := eq_true q83
                                        go_wp2_with (first | (go_at_call 16; (with_reducible refine (relayref03_inner.calls (bt a0 (ji81)) false _ ?side1 A84.out).mono ?_); (case side1 => first | exact HLaid.out | (refine LaidW.below HLaid.out ?_; repeat (first | (with_reducible first | exact HB.out | apply below_alloc | apply pw_below_drewN | apply below_drew1) | exact HB.out))); rintro e w' ⟨rfl, ⟨nd, rfl⟩⟩))
                                        go_ret
                                        exact ⟨by first | rfl | (simp [errW_none, errW_some] <;> rfl) | (simp only [← hji3, ← hji81]; first | rfl | (simp [errW_none, errW_some] <;> rfl)) | (simp [*, errW_none, errW_some] <;> rfl), by repeat (first | (with_reducible first | exact HB.out | apply below_alloc | apply pw_below_drewN | apply below_drew1) | exact HB.out)⟩
                                    · rw [if_neg c82] at H
                                      exact absurd H (by simp)
                                  · rw [if_neg c80] at H
                                    have c80b0 : decide ((wrap64 (x7_48 + 2)) < (a0.size : Int)) = false := decide_eq_false c80
                                    clear c80
                                    obtain rfl := Option.some.inj H
                                    go_wp2
                                    go_ret
                                    exact ⟨by first | rfl | (simp [errW_none, errW_some] <;> rfl) | (simp only [← hji3]; first | rfl | (simp [errW_none, errW_some] <;> rfl)) | (simp [*, errW_none, errW_some] <;> rfl), by repeat (first | (with_reducible first | exact HB.out | apply below_alloc | apply pw_below_drewN | apply below_drew1) | exact HB.out)⟩
                          · rw [if_neg c66] at H
                            have c66b0 : ((bt t103 2) == 88) = false := beq_eq_false_iff_ne.mpr c66
                            have c66b1 : ((bt t103 2) != 88) = true := bne_iff_ne.mpr c66
                            by_cases c86 : x7_48 < (a0.size : Int)
                            · rw [if_pos c86] at H
                              have c86b0 : decide (x7_48 < (a0.size : Int)) = true := decide_eq_true c86
                              clear c86
                              by_cases c87 : 0 ≤ x7_48
                              · rw [if_pos c87] at H
                                have c87b0 : decide (0 ≤ x7_48) = true := decide_eq_true c87
                                clear c87
                                replace H := Option.bind_eq_some_iff.mp H
                                obtain ⟨t106, A890, H⟩ := H
                                replace H : (if t106 = true then (some (-1)) else (some x7_48)) = some r := H
                                have A89 := Aside0.mk A890
                                clear A890
                                by_cases c90 : t106 = true
                                · subst c90
                                  have H1 : (some (-1)) = some r := by rw [if_pos rfl] at H; exact H
                                  clear H
                                  have H := H1
                                  clear H1
                                  obtain rfl := Option.some.inj H
                                  have p65 : 0 ≤ (2 : Int) := (by omega)
                                  have q65 : 2 < t103.size := (by have : (2 : Int) < (t103.size : Int) := of_decide_eq_true (by first | (with_reducible assumption) | assumption); omega)
                                  have hx65 : ∀ h : 2 < t103.size, ((t103[2]'h).toNat : Int) = bt t103 2 := bt_at t103 2
                                  clear p65
                                  have qi65 : (2 < (t103.size : Int)) = True := eq_true (of_decide_eq_true (by first | (with_reducible assumption) | assumption))
                                  replace q65 := eq_true q65
                                  have p88 : 0 ≤ (x7_48 : Int) := of_decide_eq_true (by first | (with_reducible assumption) | assumption)
                                  have q88 : x7_48 < (a0.size : Int) := of_decide_eq_true (by first | (with_reducible assumption) | assumption)
                                  have hx88 := bt_at a0 x7_48
                                  replace p88 := eq_true p88
                                  replace q88 := eq_true q88
                                  go_wp2_with (first | (go_at_call 16; (with_reducible refine (relayref03_inner.calls (bt a0 x7_48) true _ ?side1 A89.out).mono ?_); (case side1 => first | exact HLaid.out | (refine LaidW.below HLaid.out ?_; repeat (first | (with_reducible first | exact HB.out | apply below_alloc | apply pw_below_drewN | apply below_drew1) | exact HB.out))); rintro e w' ⟨rfl, ⟨nd, rfl⟩⟩))
                                  go_ret
                                  exact ⟨by first | rfl | (simp [errW_none, errW_some] <;> rfl) | (simp only [← hji3]; first | rfl | (simp [errW_none, errW_some] <;> rfl)) | (simp [*, errW_none, errW_some] <;> rfl), by repeat (first | (with_reducible first | exact HB.out | apply below_alloc | apply pw_below_drewN | apply below_drew1) | exact HB.out)⟩
                                · replace c90 := Bool.eq_false_iff.mpr c90
                                  subst c90
                                  have H1 : (some x7_48) = some r := by rw [if_neg (show ¬ (false = true) by decide)] at H; exact H
                                  clear H
                                  have H := H1
                                  clear H1
                                  obtain rfl := Option.some.inj H
                                  have p65 : 0 ≤ (2 : Int) := (by omega)
                                  have q65 : 2 < t103.size := (by have : (2 : Int) < (t103.size : Int) := of_decide_eq_true (by first | (with_reducible assumption) | assumption); omega)
                                  have hx65 : ∀ h : 2 < t103.size, ((t103[2]'h).toNat : Int) = bt t103 2 := bt_at t103 2
                                  clear p65
                                  have qi65 : (2 < (t103.size : Int)) = True := eq_true (of_decide_eq_true (by first | (with_reducible assumption) | assumption))
                                  replace q65 := eq_true q65
                                  have p88 : 0 ≤ (x7_48 : Int) := of_decide_eq_true (by first | (with_reducible assumption) | assumption)
                                  have q88 : x7_48 < (a0.size : Int) := of_decide_eq_true (by first | (with_reducible assumption) | assumption)
                                  have hx88 := bt_at a0 x7_48
                                  replace p88 := eq_true p88
                                  replace q88 := eq_true q88
                                  go_wp2_with (first | (go_at_call 16; (with_reducible refine (relayref03_inner.calls (bt a0 x7_48) false _ ?side1 A89.out).mono ?_); (case side1 => first | exact HLaid.out | (refine LaidW.below HLaid.out ?_; repeat (first | (with_reducible first | exact HB.out | apply below_alloc | apply pw_below_drewN | apply below_drew1) | exact HB.out))); rintro e w' ⟨rfl, ⟨nd, rfl⟩⟩))
                                  go_ret
                                  exact ⟨by first | rfl | (simp [errW_none, errW_some] <;> rfl) | (simp only [← hji3]; first | rfl | (simp [errW_none, errW_some] <;> rfl)) | (simp [*, errW_none, errW_some] <;> rfl), by repeat (first | (with_reducible first | exact HB.out | apply below_alloc | apply pw_below_drewN | apply below_drew1) | exact HB.out)⟩
                              · rw [if_neg c87] at H
                                exact absurd H (by simp)
                            · rw [if_neg c86] at H
                              have c86b0 : decide (x7_48 < (a0.size : Int)) = false := decide_eq_false c86
                              clear c86
                              obtain rfl := Option.some.inj H
                              have p65 : 0 ≤ (2 : Int) := (by omega)
                              have q65 : 2 < t103.size := (by have : (2 : Int) < (t103.size : Int) := of_decide_eq_true (by first | (with_reducible assumption) | assumption); omega)
                              have hx65 : ∀ h : 2 < t103.size, ((t103[2]'h).toNat : Int) = bt t103 2 := bt_at t103 2
                              clear p65
                              have qi65 : (2 < (t103.size : Int)) = True := eq_true (of_decide_eq_true (by first | (with_reducible assumption) | assumption))
                              replace q65 := eq_true q65
                              go_wp2
                              go_ret
                              exact ⟨by first | rfl | (simp [errW_none, errW_some] <;> rfl) | (simp only [← hji3]; first | rfl | (simp [errW_none, errW_some] <;> rfl)) | (simp [*, errW_none, errW_some] <;> rfl), by repeat (first | (with_reducible first | exact HB.out | apply below_alloc | apply pw_below_drewN | apply below_drew1) | exact HB.out)⟩
                        · rw [if_neg c64] at H
                          exact absurd H (by simp)
      · rw [if_neg c6] at H
        exact absurd H (by simp)
    · rw [if_neg c5] at H
      exact absurd H (by simp)
  · rw [if_neg c4] at H
    exact absurd H (by simp)

end Go.Proofs.YtmdkbhbconnmmaaDoor.XLex
